/-
  The engine, second part: what single operations yield: numbers, comparisons, addresses, loads; calls by contract.
-/
import Derived.Test.YtlcdohhhhlhpmaaEng
import Derived.IntWalk
import Derived.Laws.Sem
import Derived.Laws.Bits
namespace ZW
open Go

/-- Several operands that are known. -/
inductive AllOpd (S : Slots) : List Operand → List Value → Prop
  | n : AllOpd S [] []
  | c {x : Operand} {v : Value} {xs : List Operand} {vs : List Value} : opd S x = some v → AllOpd S xs vs → AllOpd S (x :: xs) (v :: vs)

theorem AllOpd.map {S : Slots} {xs : List Operand} {vs : List Value} (h : AllOpd S xs vs) {ρ : Operand → Value} (hk : Knows S ρ) : xs.map ρ = vs := by
  induction h with
  | n => rfl
  | c h1 _ ih => simp [hk _ _ h1, ih]

inductive AllPart (S : Slots) : List (Nat × Operand) → List (Nat × Value) → Prop
  | n : AllPart S [] []
  | c {i : Nat} {x : Operand} {v : Value} {xs : List (Nat × Operand)} {vs : List (Nat × Value)} : opd S x = some v → AllPart S xs vs → AllPart S ((i, x) :: xs) ((i, v) :: vs)

theorem AllPart.map {S : Slots} {xs : List (Nat × Operand)} {vs : List (Nat × Value)} (h : AllPart S xs vs) {ρ : Operand → Value} (hk : Knows S ρ) : (xs.map fun (i, x) => (i, ρ x)) = vs := by
  induction h with
  | n => rfl
  | c h1 _ ih => simp [hk _ _ h1, ih]

/-! ### Facts on the program's types, asked of the kernel once for each type -/
def fOff (P : Program) (T : TypeId) (i : Nat) : Option Nat :=
  match P.underlying T with
  | some (.struct fs) => match fs[i]? with
    | some f => match P.info? f.type with
      | some inf => if inf.size = 0 then none else some f.offset
      | none => none
    | none => none
  | _ => none
/-- A slice type: the size of its elements. -/
def slEl (P : Program) (T : TypeId) : Option (TypeId × Nat) :=
  match P.underlying T with
  | some (.slice e) => match P.info? e with
    | some inf => some (e, inf.size)
    | none => none
  | _ => none
def arEl (P : Program) (T : TypeId) : Option (Nat × Nat) :=
  match P.underlying T with
  | some (.array n e) => match P.info? e with
    | some inf => some (n, inf.size)
    | none => none
  | _ => none
/-- A type of one cell, no aggregate. -/
def oneT (P : Program) (T : TypeId) : Bool :=
  match P.underlying T, P.info? T with
  | some (.struct _), _ => false
  | some (.array _ _), _ => false
  | some _, some inf => inf.size == 1
  | _, _ => false
/-- An aggregate of so many cells. -/
def aggT (P : Program) (T : TypeId) : Option Nat :=
  match P.underlying T, P.info? T with
  | some (.struct _), some inf => some inf.size
  | some (.array _ _), some inf => some inf.size
  | _, _ => none
def zeroT (P : Program) (T : TypeId) : Option (List Value) :=
  match P.info? T with
  | some inf => inf.zero.map (·.cells.toList)
  | none => none
def ifaceT (P : Program) (T : TypeId) : Bool :=
  match P.underlying T with
  | some (.interface _) => true
  | some _ => false
  | none => true
def callT (P : Program) (f : FuncId) : Bool :=
  match P.funcs[f]? with
  | some fn => fn.name != "runtime.NumGoroutine" && fn.body.isSome
  | none => false

section ops
variable {P : Program} {ro : Option Nat} {X : Act → World → Prop} {Q : Exit → Act → World → Prop}
variable {N : Nat} {S : Slots} {D : List Deferred} {W : World} {M L : Heap}
variable {C : World → Prop} {dst : Option Tmp} {ty : TypeId} {pos : String} {af : Array Edge} {g : Option (Nat × Bool)}

theorem run_underlying_of {T : TypeId} {d : TypeDesc} (h : P.underlying T = some d) (w : World) : (underlying T).run P w = .ok d w := by
  simp [underlying, program, Sem.run, h, go_sem]
theorem run_sizeOf_of {T : TypeId} {inf : TypeInfo} (h : P.info? T = some inf) (w : World) : (Go.sizeOf T).run P w = .ok inf.size w := by
  simp [Go.sizeOf, typeInfo, program, Sem.run, h, go_sem]

/-! #### Numbers -/
theorem bin_ints {op : BinOp} {t t' : TypeId} {x y : Operand} {k : IntKind} {a b : Int} {v : Value} (hx : opd S x = some (.int k a)) (hy : opd S y = some (.int k b))
    (h : ∀ w, (binOp op t (.int k a) (.int k b)).run P w = .ok v w) : YV P S C ⟨dst, .binOp op t x y t', ty, pos, af, g⟩ v :=
  .pure (hnd := rfl) fun ρ hk w => by
    have he : (eqGuard op t x y (.int k a) (.int k b)).run P w = .ok () w := by
      cases op <;> simp [eqGuard, Sem.run_pure]
    simp only [execOp, hk x _ hx, hk y _ hy, Sem.run_bind, he, Result.andThen_ok, h w, Sem.run_pure]

theorem yLss {t t' : TypeId} {x y : Operand} {k : IntKind} {a b : Int} (hx : opd S x = some (.int k a)) (hy : opd S y = some (.int k b)) :
    YV P S C ⟨dst, .binOp .lss t x y t', ty, pos, af, g⟩ (.bool (decide (a < b))) := bin_ints hx hy fun w => by simp [binOp, Op.intCmp, Sem.run_pure]
theorem yLeq {t t' : TypeId} {x y : Operand} {k : IntKind} {a b : Int} (hx : opd S x = some (.int k a)) (hy : opd S y = some (.int k b)) :
    YV P S C ⟨dst, .binOp .leq t x y t', ty, pos, af, g⟩ (.bool (decide (a ≤ b))) := bin_ints hx hy fun w => by simp [binOp, Op.intCmp, Sem.run_pure]
theorem yGtr {t t' : TypeId} {x y : Operand} {k : IntKind} {a b : Int} (hx : opd S x = some (.int k a)) (hy : opd S y = some (.int k b)) :
    YV P S C ⟨dst, .binOp .gtr t x y t', ty, pos, af, g⟩ (.bool (decide (b < a))) := bin_ints hx hy fun w => by simp [binOp, Op.intCmp, Sem.run_pure]
theorem yGeq {t t' : TypeId} {x y : Operand} {k : IntKind} {a b : Int} (hx : opd S x = some (.int k a)) (hy : opd S y = some (.int k b)) :
    YV P S C ⟨dst, .binOp .geq t x y t', ty, pos, af, g⟩ (.bool (decide (b ≤ a))) := bin_ints hx hy fun w => by simp [binOp, Op.intCmp, Sem.run_pure]
theorem yEql {t t' : TypeId} {x y : Operand} {k : IntKind} {a b : Int} (hx : opd S x = some (.int k a)) (hy : opd S y = some (.int k b)) :
    YV P S C ⟨dst, .binOp .eql t x y t', ty, pos, af, g⟩ (.bool (decide (a = b))) := bin_ints hx hy fun w => by simp [binOp, Op.intCmp, Sem.run_pure]; rfl
theorem yNeq {t t' : TypeId} {x y : Operand} {k : IntKind} {a b : Int} (hx : opd S x = some (.int k a)) (hy : opd S y = some (.int k b)) :
    YV P S C ⟨dst, .binOp .neq t x y t', ty, pos, af, g⟩ (.bool (decide (a ≠ b))) := bin_ints hx hy fun w => by
  simp only [binOp, Op.intCmp]; simp [Sem.run_pure]; by_cases h : a = b <;> simp [h]

abbrev In64 (n : Int) : Prop := -9223372036854775808 ≤ n ∧ n ≤ 9223372036854775807

theorem yAdd {t t' : TypeId} {x y : Operand} {a b : Int} (hx : opd S x = some (.int .i64 a)) (hy : opd S y = some (.int .i64 b)) (h : In64 (a + b)) :
    YV P S C ⟨dst, .binOp .add t x y t', ty, pos, af, g⟩ (.int .i64 (a + b)) := bin_ints hx hy fun w => by simp [binOp, Op.intArith, Sem.run_pure, IntWalk.i64_in _ h]
theorem ySub {t t' : TypeId} {x y : Operand} {a b : Int} (hx : opd S x = some (.int .i64 a)) (hy : opd S y = some (.int .i64 b)) (h : In64 (a - b)) :
    YV P S C ⟨dst, .binOp .sub t x y t', ty, pos, af, g⟩ (.int .i64 (a - b)) := bin_ints hx hy fun w => by simp [binOp, Op.intArith, Sem.run_pure, IntWalk.i64_in _ h]
theorem yMul {t t' : TypeId} {x y : Operand} {a b : Int} (hx : opd S x = some (.int .i64 a)) (hy : opd S y = some (.int .i64 b)) (h : In64 (a * b)) :
    YV P S C ⟨dst, .binOp .mul t x y t', ty, pos, af, g⟩ (.int .i64 (a * b)) := bin_ints hx hy fun w => by simp [binOp, Op.intArith, Sem.run_pure, IntWalk.i64_in _ h]
/-- Any kind, the wrapped value given. -/
theorem yArith {op : BinOp} {t t' : TypeId} {x y : Operand} {k : IntKind} {a b c : Int} (hx : opd S x = some (.int k a)) (hy : opd S y = some (.int k b))
    (h : (op = .add ∧ k.wrap (a + b) = c) ∨ (op = .sub ∧ k.wrap (a - b) = c) ∨ (op = .mul ∧ k.wrap (a * b) = c)) :
    YV P S C ⟨dst, .binOp op t x y t', ty, pos, af, g⟩ (.int k c) := bin_ints hx hy fun w => by
  rcases h with ⟨rfl, rfl⟩ | ⟨rfl, rfl⟩ | ⟨rfl, rfl⟩ <;> simp [binOp, Op.intArith, Sem.run_pure]
/-- A quotient of numbers that are not negative. -/
theorem yQuo {t t' : TypeId} {x y : Operand} {a b : Int} (hx : opd S x = some (.int .i64 a)) (hy : opd S y = some (.int .i64 b)) (ha : 0 ≤ a) (ha' : a ≤ 9223372036854775807) (hb : 0 < b) :
    YV P S C ⟨dst, .binOp .quo t x y t', ty, pos, af, g⟩ (.int .i64 (a / b)) := bin_ints hx hy fun w => by
  have hb0 : b ≠ 0 := by omega
  simp [binOp, Op.intDiv, hb0, Sem.run_pure, IntWalk.i64_quo a b ⟨ha, ha', by omega⟩]
/-- A quotient, rounded toward nought. -/
theorem yTquo {t t' : TypeId} {x y : Operand} {a b : Int} (hx : opd S x = some (.int .i64 a)) (hy : opd S y = some (.int .i64 b)) (ha : In64 a) (hb : 0 < b) :
    YV P S C ⟨dst, .binOp .quo t x y t', ty, pos, af, g⟩ (.int .i64 (a.tdiv b)) := bin_ints hx hy fun w => by
  have hb0 : b ≠ 0 := by omega
  simp [binOp, Op.intDiv, hb0, Sem.run_pure, IntWalk.i64_quo' a b ⟨ha.1, ha.2, by omega⟩]
theorem yRem {t t' : TypeId} {x y : Operand} {k : IntKind} {a b : Int} (hx : opd S x = some (.int k a)) (hy : opd S y = some (.int k b)) (ha : 0 ≤ a) (hb : 0 < b) :
    YV P S C ⟨dst, .binOp .rem t x y t', ty, pos, af, g⟩ (.int k (a % b)) := bin_ints hx hy fun w => by
  have hb0 : b ≠ 0 := by omega
  simp [binOp, Op.intDiv, hb0, Sem.run_pure, Int.tmod_eq_emod_of_nonneg ha]
theorem yTrem {t t' : TypeId} {x y : Operand} {k : IntKind} {a b : Int} (hx : opd S x = some (.int k a)) (hy : opd S y = some (.int k b)) (hb : 0 < b) :
    YV P S C ⟨dst, .binOp .rem t x y t', ty, pos, af, g⟩ (.int k (a.tmod b)) := bin_ints hx hy fun w => by
  have hb0 : b ≠ 0 := by omega
  simp [binOp, Op.intDiv, hb0, Sem.run_pure]
theorem yNeg {t : TypeId} {x : Operand} {a : Int} (hx : opd S x = some (.int .i64 a)) (h : In64 (-a)) : YV P S C ⟨dst, .unOp .neg t x, ty, pos, af, g⟩ (.int .i64 (-a)) :=
  .pure fun ρ hk w => by simp [execOp, hk x _ hx, Op.unary, Op.intArith, go_sem, IntWalk.i64_in _ h]
theorem yNot {t : TypeId} {x : Operand} {b : Bool} (hx : opd S x = some (.bool b)) : YV P S C ⟨dst, .unOp .not t x, ty, pos, af, g⟩ (.bool (!b)) :=
  .pure fun ρ hk w => by simp [execOp, hk x _ hx, Op.unary, go_sem]
theorem yNotP {t : TypeId} {x : Operand} {p : Prop} [Decidable p] (hx : opd S x = some (.bool (decide p))) : YV P S C ⟨dst, .unOp .not t x, ty, pos, af, g⟩ (.bool (decide (¬ p))) :=
  .pure fun ρ hk w => by simp [execOp, hk x _ hx, Op.unary, go_sem]

/-! #### Bits -/
def is64 : IntKind → Bool
  | .i64 | .u64 => true
  | _ => false
theorem wrap_nat {k : IntKind} (hk : is64 k = true) {n : Nat} (h : n < 2 ^ 63) : k.wrap (n : Int) = n := by
  have h' : n < 9223372036854775808 := by simpa using h
  cases k <;> simp [is64] at hk
  · exact IntWalk.i64_in _ (by omega)
  · exact IntWalk.u64_in _ (by omega)
theorem bits64 {k : IntKind} (hk : is64 k = true) : k.bits = 64 := by cases k <;> simp [is64] at hk <;> rfl
theorem toNat_bv {a : Nat} (h : a < 2 ^ 63) : (BitVec.ofInt 64 (a : Int)).toNat = a := by
  rw [BitVec.toNat_ofInt]
  have : a < 9223372036854775808 := by simpa using h
  omega

theorem bits_run {op : BinOp} {k : IntKind} {a b r : Nat} (hk : is64 k = true) (hr : r < 2 ^ 63)
    (h : (op = .and ∧ (BitVec.ofInt 64 (a : Int) &&& BitVec.ofInt 64 (b : Int)).toNat = r) ∨ (op = .or ∧ (BitVec.ofInt 64 (a : Int) ||| BitVec.ofInt 64 (b : Int)).toNat = r) ∨
      (op = .xor ∧ (BitVec.ofInt 64 (a : Int) ^^^ BitVec.ofInt 64 (b : Int)).toNat = r) ∨ (op = .andNot ∧ (BitVec.ofInt 64 (a : Int) &&& ~~~BitVec.ofInt 64 (b : Int)).toNat = r)) (w : World) :
    (Op.intBits op k (a : Int) (b : Int)).run P w = .ok (.int k (r : Int)) w := by
  have hw := wrap_nat hk hr
  cases k <;> simp [is64] at hk
  · rcases h with ⟨rfl, h⟩ | ⟨rfl, h⟩ | ⟨rfl, h⟩ | ⟨rfl, h⟩
    · show Result.ok (Value.int .i64 (IntKind.i64.wrap (((BitVec.ofInt 64 (a : Int) &&& BitVec.ofInt 64 (b : Int)).toNat : Nat) : Int))) w = _
      rw [h, hw]
    · show Result.ok (Value.int .i64 (IntKind.i64.wrap (((BitVec.ofInt 64 (a : Int) ||| BitVec.ofInt 64 (b : Int)).toNat : Nat) : Int))) w = _
      rw [h, hw]
    · show Result.ok (Value.int .i64 (IntKind.i64.wrap (((BitVec.ofInt 64 (a : Int) ^^^ BitVec.ofInt 64 (b : Int)).toNat : Nat) : Int))) w = _
      rw [h, hw]
    · show Result.ok (Value.int .i64 (IntKind.i64.wrap (((BitVec.ofInt 64 (a : Int) &&& ~~~BitVec.ofInt 64 (b : Int)).toNat : Nat) : Int))) w = _
      rw [h, hw]
  · rcases h with ⟨rfl, h⟩ | ⟨rfl, h⟩ | ⟨rfl, h⟩ | ⟨rfl, h⟩
    · show Result.ok (Value.int .u64 (IntKind.u64.wrap (((BitVec.ofInt 64 (a : Int) &&& BitVec.ofInt 64 (b : Int)).toNat : Nat) : Int))) w = _
      rw [h, hw]
    · show Result.ok (Value.int .u64 (IntKind.u64.wrap (((BitVec.ofInt 64 (a : Int) ||| BitVec.ofInt 64 (b : Int)).toNat : Nat) : Int))) w = _
      rw [h, hw]
    · show Result.ok (Value.int .u64 (IntKind.u64.wrap (((BitVec.ofInt 64 (a : Int) ^^^ BitVec.ofInt 64 (b : Int)).toNat : Nat) : Int))) w = _
      rw [h, hw]
    · show Result.ok (Value.int .u64 (IntKind.u64.wrap (((BitVec.ofInt 64 (a : Int) &&& ~~~BitVec.ofInt 64 (b : Int)).toNat : Nat) : Int))) w = _
      rw [h, hw]

theorem yAnd {t t' : TypeId} {x y : Operand} {k : IntKind} {a b : Nat} (hx : opd S x = some (.int k (a : Int))) (hy : opd S y = some (.int k (b : Int))) (hk : is64 k = true) (ha : a < 2 ^ 63) (hb : b < 2 ^ 63) :
    YV P S C ⟨dst, .binOp .and t x y t', ty, pos, af, g⟩ (.int k ((a &&& b : Nat) : Int)) := bin_ints hx hy fun w => by
  simp only [binOp]
  rw [if_neg (by simp)]
  exact bits_run hk (Nat.lt_of_le_of_lt Nat.and_le_left ha) (.inl ⟨rfl, by rw [BitVec.toNat_and, toNat_bv ha, toNat_bv hb]⟩) w
theorem yOr {t t' : TypeId} {x y : Operand} {k : IntKind} {a b : Nat} (hx : opd S x = some (.int k (a : Int))) (hy : opd S y = some (.int k (b : Int))) (hk : is64 k = true) (ha : a < 2 ^ 63) (hb : b < 2 ^ 63) :
    YV P S C ⟨dst, .binOp .or t x y t', ty, pos, af, g⟩ (.int k ((a ||| b : Nat) : Int)) := bin_ints hx hy fun w => by
  simp only [binOp]
  rw [if_neg (by simp)]
  exact bits_run hk (Nat.or_lt_two_pow ha hb) (.inr (.inl ⟨rfl, by rw [BitVec.toNat_or, toNat_bv ha, toNat_bv hb]⟩)) w
theorem yXor {t t' : TypeId} {x y : Operand} {k : IntKind} {a b : Nat} (hx : opd S x = some (.int k (a : Int))) (hy : opd S y = some (.int k (b : Int))) (hk : is64 k = true) (ha : a < 2 ^ 63) (hb : b < 2 ^ 63) :
    YV P S C ⟨dst, .binOp .xor t x y t', ty, pos, af, g⟩ (.int k ((a ^^^ b : Nat) : Int)) := bin_ints hx hy fun w => by
  simp only [binOp]
  rw [if_neg (by simp)]
  exact bits_run hk (Nat.xor_lt_two_pow ha hb) (.inr (.inr (.inl ⟨rfl, by rw [BitVec.toNat_xor, toNat_bv ha, toNat_bv hb]⟩))) w
/-- a without b. -/
def less (a b : Nat) : Nat := a ^^^ (a &&& b)
theorem testBit_less (a b i : Nat) : (less a b).testBit i = (a.testBit i && !b.testBit i) := by
  simp only [less, Nat.testBit_xor, Nat.testBit_and]; cases a.testBit i <;> cases b.testBit i <;> rfl
theorem less_lt {a b n : Nat} (ha : a < 2 ^ n) : less a b < 2 ^ n := Nat.xor_lt_two_pow ha (Nat.lt_of_le_of_lt Nat.and_le_left ha)
theorem yAndNot {t t' : TypeId} {x y : Operand} {k : IntKind} {a b : Nat} (hx : opd S x = some (.int k (a : Int))) (hy : opd S y = some (.int k (b : Int))) (hk : is64 k = true) (ha : a < 2 ^ 63) (hb : b < 2 ^ 63) :
    YV P S C ⟨dst, .binOp .andNot t x y t', ty, pos, af, g⟩ (.int k ((less a b : Nat) : Int)) := bin_ints hx hy fun w => by
  simp only [binOp]
  rw [if_neg (by simp)]
  refine bits_run hk (less_lt ha) (.inr (.inr (.inr ⟨rfl, ?_⟩))) w
  apply Nat.eq_of_testBit_eq
  intro i
  rw [testBit_less, BitVec.toNat_and, Nat.testBit_and, toNat_bv ha, BitVec.toNat_not, toNat_bv hb]
  by_cases hi : i < 64
  · rw [show 2 ^ 64 - 1 - b = 2 ^ 64 - (b + 1) from by omega, Nat.testBit_two_pow_sub_succ (Nat.lt_trans hb (by decide)), decide_eq_true hi, Bool.true_and]
  · have : a.testBit i = false := Nat.testBit_lt_two_pow (Nat.lt_of_lt_of_le ha (Nat.pow_le_pow_right (by decide) (by omega)))
    simp [this]

theorem bin_shift {op : BinOp} {t t' : TypeId} {x y : Operand} {k yk : IntKind} {a b : Int} {v : Value} (hop : op = .shl ∨ op = .shr) (hx : opd S x = some (.int k a)) (hy : opd S y = some (.int yk b))
    (h : ∀ w, (Op.shift op k a yk b).run P w = .ok v w) : YV P S C ⟨dst, .binOp op t x y t', ty, pos, af, g⟩ v :=
  .pure fun ρ hk w => by
    have he : (eqGuard op t x y (.int k a) (.int yk b)).run P w = .ok () w := by
      rcases hop with rfl | rfl <;> simp [eqGuard, Sem.run_pure]
    have hb : binOp op t (.int k a) (.int yk b) = Op.shift op k a yk b := by
      rcases hop with rfl | rfl <;> rfl
    simp only [execOp, hk x _ hx, hk y _ hy, Sem.run_bind, he, Result.andThen_ok, hb, h w, Sem.run_pure]
theorem yShl {t t' : TypeId} {x y : Operand} {k yk : IntKind} {a b : Nat} (hx : opd S x = some (.int k (a : Int))) (hy : opd S y = some (.int yk (b : Int))) (hk : is64 k = true) (hb : b < 63) (h : a * 2 ^ b < 2 ^ 63) :
    YV P S C ⟨dst, .binOp .shl t x y t', ty, pos, af, g⟩ (.int k ((a * 2 ^ b : Nat) : Int)) := bin_shift (.inl rfl) hx hy fun w => by
  have hm : min (b : Int).toNat k.bits = b := by rw [bits64 hk]; simp; omega
  have hn : ¬ ((b : Int) < 0) := by omega
  simp only [Op.shift, hn, if_false, hm, Sem.run_pure]
  have : ((a : Int) * 2 ^ b) = ((a * 2 ^ b : Nat) : Int) := by simp
  rw [this, wrap_nat hk h]
theorem yShr {t t' : TypeId} {x y : Operand} {k yk : IntKind} {a b : Nat} (hx : opd S x = some (.int k (a : Int))) (hy : opd S y = some (.int yk (b : Int))) (hk : is64 k = true) (ha : a < 2 ^ 63) :
    YV P S C ⟨dst, .binOp .shr t x y t', ty, pos, af, g⟩ (.int k ((a / 2 ^ b : Nat) : Int)) := bin_shift (.inr rfl) hx hy fun w => by
  have hn : ¬ ((b : Int) < 0) := by omega
  have hpos : ∀ n : Nat, (0 : Int) ≤ 2 ^ n := fun n => Int.pow_nonneg (by decide)
  have hdiv : ∀ n : Nat, ((a : Int).fdiv (2 ^ n)) = ((a / 2 ^ n : Nat) : Int) := fun n => by
    rw [Int.fdiv_eq_ediv_of_nonneg _ (hpos n)]; simp
  simp only [Op.shift, hn, if_false, Sem.run_pure, hdiv, bits64 hk]
  by_cases hb : b ≤ 64
  · have : min (b : Int).toNat 64 = b := by simp; omega
    rw [this]
  · have h1 : min (b : Int).toNat 64 = 64 := by simp; omega
    rw [h1, Nat.div_eq_of_lt (Nat.lt_of_lt_of_le ha (Nat.pow_le_pow_right (by decide) (by decide))),
      Nat.div_eq_of_lt (Nat.lt_of_lt_of_le ha (Nat.pow_le_pow_right (by decide) (by omega)))]

/-! #### Functions and interfaces as values; parts -/
theorem yExtract {x : Operand} {i : Nat} {l : List Value} {v : Value} (hx : opd S x = some (.tuple l.toArray)) (hi : l[i]? = some v) : YV P S C ⟨dst, .extract x i, ty, pos, af, g⟩ v :=
  .pure fun ρ hk w => by simp [execOp, hk x _ hx, Instr.extract, hi, go_sem]
theorem yMakeFunc {fn : Fn} {xs ys : List Operand} {us vs : List Value} (h1 : AllOpd S xs us) (h2 : AllOpd S ys vs) : YV P S C ⟨dst, .makeFunc fn xs.toArray ys.toArray, ty, pos, af, g⟩ (.func fn us.toArray vs.toArray) :=
  .pure fun ρ hk w => by simp [execOp, Instr.makeFunc, List.map_toArray, h1.map hk, h2.map hk, go_sem]
theorem yMakeInterface {T : TypeId} {x : Operand} {v : Value} (hx : opd S x = some v) (hT : ifaceT P T = false) : YV P S C ⟨dst, .makeInterface T x, ty, pos, af, g⟩ (.iface T v) :=
  .pure fun ρ hk w => by
    unfold ifaceT at hT
    split at hT
    · cases hT
    · rename_i d hne hd
      simp only [execOp, hk x _ hx, Instr.makeInterface, Sem.run_bind, run_underlying_of hd, Result.andThen_ok]
      cases d <;> first | rfl | exact absurd rfl (hne _)
    · cases hT
theorem yNilCheckP {x : Operand} {a : Addr} (hx : opd S x = some (.pointer (some a))) : YV P S C ⟨dst, .nilCheck x, ty, pos, af, g⟩ (.pointer (some a)) :=
  .pure fun ρ hk w => by simp [execOp, hk x _ hx, go_sem]
theorem yConvInt {T U : TypeId} {x : Operand} {k k' : IntKind} {n : Int} {d : TypeDesc} (hx : opd S x = some (.int k n)) (hT : P.underlying T = some d) (hU : P.underlying U = some (.int k')) (h : k'.wrap n = n) :
    YV P S C ⟨dst, .convert T U x, ty, pos, af, g⟩ (.int k' n) :=
  .pure fun ρ hk w => by
    simp only [execOp, hk x _ hx, convert, Sem.run_bind, run_underlying_of hT, run_underlying_of hU, Result.andThen_ok, Conv.intToInt, Sem.run_pure, h]
theorem yBuild {T : TypeId} {ps : List (Nat × Operand)} {vs : List (Nat × Value)} {v : Value} (h1 : AllPart S ps vs) (h2 : ∀ w, (Instr.build T vs.toArray).run P w = .ok v w) :
    YV P S C ⟨dst, .build T ps.toArray, ty, pos, af, g⟩ v :=
  .pure fun ρ hk w => by
    have := h1.map hk
    simp only [execOp, List.map_toArray, this, Sem.run_bind, h2 w, Result.andThen_ok, Sem.run_pure]

/-! #### Addresses -/
theorem addr_add (b o n : Nat) : (⟨b, o, none⟩ : Addr).add n = ⟨b, o + n, none⟩ := by
  unfold Addr.add; split
  · rename_i h; subst h; rfl
  · rfl
theorem yFieldAddr {T : TypeId} {x : Operand} {i b o k : Nat} (hx : opd S x = some (.pointer (some ⟨b, o, none⟩))) (h : fOff P T i = some k) :
    YV P S C ⟨dst, .fieldAddr T x i, ty, pos, af, g⟩ (.pointer (some ⟨b, o + k, none⟩)) :=
  .pure fun ρ hk w => by
    unfold fOff at h
    split at h
    · rename_i fs hu
      split at h
      · rename_i f hf
        split at h
        · rename_i inf hi
          split at h
          · cases h
          · rename_i hne
            cases h
            simp only [execOp, hk x _ hx, Instr.fieldAt, Sem.run_bind, run_underlying_of hu, Result.andThen_ok, hf, Instr.sureAddr, Sem.run_pure, fieldPlace, run_sizeOf_of hi, if_neg hne, addr_add]
        · cases h
      · cases h
    · cases h
theorem yIndexSl {T e : TypeId} {x i : Operand} {b o len cap sz : Nat} {k : IntKind} {n : Int} (hx : opd S x = some (.slice (some ⟨b, o, none⟩) len cap)) (hi : opd S i = some (.int k n))
    (h : slEl P T = some (e, sz)) (h0 : 0 ≤ n) (h1 : n < len) : YV P S C ⟨dst, .indexAddr T x i, ty, pos, af, g⟩ (.pointer (some ⟨b, o + n.toNat * sz, none⟩)) :=
  .pure fun ρ hk w => by
    unfold slEl at h
    split at h
    · rename_i e' hu
      split at h
      · rename_i inf hi'
        cases h
        simp only [execOp, hk x _ hx, hk i _ hi, Instr.indexAt, asIntOf, Sem.run_bind, run_underlying_of hu, Result.andThen_ok, Sem.run_pure, h0, h1, and_self, if_true, run_sizeOf_of hi', addr_add]
      · cases h
    · cases h
theorem yIndexAr {T : TypeId} {x i : Operand} {b o len sz : Nat} {k : IntKind} {n : Int} (hx : opd S x = some (.pointer (some ⟨b, o, none⟩))) (hi : opd S i = some (.int k n))
    (h : arEl P T = some (len, sz)) (h0 : 0 ≤ n) (h1 : n < len) : YV P S C ⟨dst, .indexAddr T x i, ty, pos, af, g⟩ (.pointer (some ⟨b, o + n.toNat * sz, none⟩)) :=
  .pure fun ρ hk w => by
    unfold arEl at h
    split at h
    · rename_i e' hu
      split at h
      · rename_i inf hi'
        cases h
        simp only [execOp, hk x _ hx, hk i _ hi, Instr.indexAt, asIntOf, Sem.run_bind, run_underlying_of hu, Result.andThen_ok, Sem.run_pure, Instr.sureAddr, h0, h1, and_self, if_true, run_sizeOf_of hi', addr_add]
      · cases h
    · cases h

/-! #### Loads -/
theorem run_load_cell {w : World} {a : Addr} {v : Value} (h : w.cell? a = some v) : (load a).run P w = .ok v w := by simp [load, Sem.run, h]
theorem oneT_spec {T : TypeId} (h : oneT P T = true) : ∃ d inf, P.underlying T = some d ∧ P.info? T = some inf ∧ inf.size = 1 ∧ (∀ fs, d ≠ .struct fs) ∧ (∀ n e, d ≠ .array n e) := by
  unfold oneT at h
  split at h
  · cases h
  · cases h
  · rename_i d inf h1 h2 h3 h4
    exact ⟨d, inf, h3, h4, by simpa using h, fun fs e => h1 fs e, fun n e e' => h2 n e e'⟩
  · cases h
theorem isAgg_one {T : TypeId} (h : oneT P T = true) (w : World) : (isAgg T).run P w = .ok false w := by
  obtain ⟨d, inf, hu, _, _, hs, ha⟩ := oneT_spec h
  unfold isAgg
  simp only [Sem.run_bind, run_underlying_of hu, Result.andThen_ok]
  cases d <;> first | rfl | exact absurd rfl (hs _) | exact absurd rfl (ha _ _)
theorem aggT_spec {T : TypeId} {k : Nat} (h : aggT P T = some k) : ∃ inf, P.info? T = some inf ∧ inf.size = k ∧ ∀ w, (isAgg T).run P w = .ok true w := by
  unfold aggT at h
  split at h
  · rename_i fs inf hu hi
    cases h
    exact ⟨inf, hi, rfl, fun w => by simp [isAgg, run_underlying_of hu, Sem.run_bind, Sem.run_pure]⟩
  · rename_i n e inf hu hi
    cases h
    exact ⟨inf, hi, rfl, fun w => by simp [isAgg, run_underlying_of hu, Sem.run_bind, Sem.run_pure]⟩
  · cases h
theorem run_loadCellsFrom (w : World) (b o : Nat) (vs : List Value) : ∀ (i : Nat) (acc : Array Value), (∀ j, j < vs.length → w.cell? ⟨b, o + i + j, none⟩ = vs[j]?) →
    (loadCellsFrom ⟨b, o, none⟩ i vs.length acc).run P w = .ok (acc ++ vs.toArray) w := by
  induction vs with
  | nil => intro i acc _; simp [loadCellsFrom, Sem.run_pure]
  | cons v vs ih =>
    intro i acc h
    have h0 : w.cell? ⟨b, o + i, none⟩ = some v := by simpa using h 0 (by simp)
    simp only [List.length_cons, loadCellsFrom, Sem.run_bind, addr_add, run_load_cell h0, Result.andThen_ok]
    rw [ih (i + 1) (acc.push v) (fun j hj => by
      have := h (j + 1) (by simp; omega)
      rw [show o + (i + 1) + j = o + i + (j + 1) from by omega]
      simpa using this)]
    simp
theorem run_loadVar_agg {T : TypeId} {w : World} {b o : Nat} {vs : List Value} (hT : aggT P T = some vs.length) (h : ∀ j, j < vs.length → w.cell? ⟨b, o + j, none⟩ = vs[j]?) :
    (loadVar T ⟨b, o, none⟩).run P w = .ok (.agg vs.toArray) w := by
  obtain ⟨inf, hi, hs, ha⟩ := aggT_spec hT
  have := run_loadCellsFrom (P := P) w b o vs 0 #[] (by simpa using h)
  simp only [loadVar, Sem.run_bind, ha, Result.andThen_ok, if_true, run_sizeOf_of hi, hs, loadCells, this, Sem.run_pure]
  simp
theorem run_loadVar_one {T : TypeId} {w : World} {a : Addr} {v : Value} (hT : oneT P T = true) (h : w.cell? a = some v) : (loadVar T a).run P w = .ok v w := by
  simp only [loadVar, Sem.run_bind, isAgg_one hT, Result.andThen_ok, Bool.false_eq_true, if_false, run_load_cell h]

theorem YV.pureC {o : Oper} {v : Value} (h : ∀ ρ, Knows S ρ → ∀ w, C w → (execOp ρ o).run P w = .ok (.value v) w) (hnd : nd o.op = true := by rfl) : YV P S C o v := ⟨hnd, fun ρ hk w hC => by
  rw [h ρ hk w hC]; exact ⟨rfl, rfl⟩⟩

/-- In each world of the class these cells hold these values. -/
def Cells (C : World → Prop) (b o : Nat) (vs : List Value) : Prop := ∀ w, C w → ∀ j, j < vs.length → w.cell? ⟨b, o + j, none⟩ = vs[j]?

theorem yLoad1 {T : TypeId} {x : Operand} {b o : Nat} {v : Value} (hx : opd S x = some (.pointer (some ⟨b, o, none⟩))) (hT : oneT P T = true) (hc : Cells C b o [v]) :
    YV P S C ⟨dst, .load T x, ty, pos, af, g⟩ v :=
  .pureC fun ρ hk w hC => by
    have h0 : w.cell? ⟨b, o, none⟩ = some v := by simpa using hc w hC 0 (by simp)
    simp only [execOp, hk x _ hx, Instr.loadAt, Instr.sureAddr, Sem.run_bind, Sem.run_pure, Result.andThen_ok, run_loadVar_one hT h0]
theorem yLoadA {T : TypeId} {x : Operand} {b o : Nat} {vs : List Value} (hx : opd S x = some (.pointer (some ⟨b, o, none⟩))) (hT : aggT P T = some vs.length) (hc : Cells C b o vs) :
    YV P S C ⟨dst, .load T x, ty, pos, af, g⟩ (.agg vs.toArray) :=
  .pureC fun ρ hk w hC => by
    simp only [execOp, hk x _ hx, Instr.loadAt, Instr.sureAddr, Sem.run_bind, Sem.run_pure, Result.andThen_ok, run_loadVar_agg hT (hc w hC)]

theorem cell_blk {w : World} {b o : Nat} {l : List Value} {e : TypeId} {z : Nat × Nat} (h : w.heap[b]? = some (.cells l.toArray e z)) : w.cell? ⟨b, o, none⟩ = l[o]? := by
  simp [World.cell?, h]

/-- Cells of a block that is known. -/
theorem cOwn {b o : Nat} {l vs : List Value} {e : TypeId} {z : Nat × Nat} (i : Nat) (hi : (M ++ L)[i]? = some (b, .cells l.toArray e z)) (hs : sub l o vs.length = some vs) : Cells (Eff W M L) b o vs := by
  intro w hw j hj
  have h := hw.own _ (List.mem_of_getElem? hi)
  obtain ⟨_, h2⟩ := sub_spec _ _ _ _ hs
  rw [cell_blk h]
  exact h2 j hj
/-- Cells of a block that was there. -/
theorem cOld {b o : Nat} {vs : List Value} (h : ∀ j, j < vs.length → W.cell? ⟨b, o + j, none⟩ = vs[j]?) (hM : ∀ p ∈ M, p.1 ≠ b) (h0 : 0 < vs.length) : Cells (Eff W M L) b o vs := by
  intro w hw j hj
  have h1 := h j hj
  have hb : b < W.heap.size := by
    have h2 := h 0 h0
    rw [List.getElem?_eq_getElem h0] at h2
    exact World.block_lt_of_cell? W _ h2
  rw [World.cell?_of_block (w := W) (hw.frame b hb hM)]
  exact h1

/-! #### Calls -/
theorem run_callFunc {f : FuncId} (h : callT P f = true) (args : Array Value) (w : World) : (callFunc f args).run P w = .ok (.enter f args) w := by
  unfold callT at h
  split at h
  · rename_i fn hf
    simp only [Bool.and_eq_true, bne_iff_ne, ne_eq] at h
    have hb : fn.body.isNone = false := by cases hbb : fn.body <;> simp_all
    simp only [callFunc, program, Sem.run_bind, Sem.run, Result.andThen_ok, hf, beq_iff_eq, h.1, if_false, hb, Bool.false_eq_true, Sem.run_pure]
  · cases h

/-- What a call of a function value comes to. -/
theorem exec_call {x : Operand} {xs : List Operand} {f : FuncId} {us cs vs : List Value} {tys : Array TypeId} (hx : opd S x = some (.func (.func f) us.toArray cs.toArray)) (ha : AllOpd S xs vs) (hf : callT P f = true)
    {ρ : Operand → Value} (hk : Knows S ρ) (w : World) :
    (execOp ρ ⟨dst, .call ⟨.value x, xs.toArray, tys⟩, ty, pos, af, g⟩).run P w = .ok (.enter f (us ++ vs ++ cs).toArray) w := by
  have hm := ha.map hk
  have := run_callFunc hf (us ++ vs ++ cs).toArray w
  simp only [execOp, resolve, List.map_toArray, hm, hk x _ hx, Deferred.ofValue, Sem.run_bind, Sem.run_pure, Result.andThen_ok, invoke]
  simpa using this

/-- A call that only computes. -/
theorem yCall {x : Operand} {xs : List Operand} {f : FuncId} {us cs vs : List Value} {tys : Array TypeId} {v : Value} (hx : opd S x = some (.func (.func f) us.toArray cs.toArray)) (ha : AllOpd S xs vs) (hf : callT P f = true)
    (hc : ∀ w, C w → Calls P f (us ++ vs ++ cs).toArray w (Ret w v)) : YV P S C ⟨dst, .call ⟨.value x, xs.toArray, tys⟩, ty, pos, af, g⟩ v := ⟨rfl, fun ρ hk w hC => by
  rw [exec_call hx ha hf hk w]
  exact ⟨rfl, hc w hC⟩⟩

/-- A length. -/
theorem yLen {T : TypeId} {x : Operand} {a : Option Addr} {len cap : Nat} {r : TypeId × Nat} {tys : List TypeId} (hx : opd S x = some (.slice a len cap)) (hT : slEl P T = some r) :
    YV P S C ⟨dst, .call ⟨.builtin .len, #[x], (T :: tys).toArray⟩, ty, pos, af, g⟩ (.int .i64 len) :=
  .pure fun ρ hk w => by
    unfold slEl at hT
    split at hT
    · rename_i e hu
      simp only [execOp, resolve, List.map_toArray, List.map_cons, List.map_nil, hk x _ hx, Sem.run_bind, Sem.run_pure, Result.andThen_ok, invoke, builtin, Builtin.len_]
      simp [run_underlying_of hu, goInt, Sem.run_bind, Sem.run_pure]
    · cases hT
theorem yMin {x y : Operand} {k : IntKind} {a b : Int} {tys : Array TypeId} (hx : opd S x = some (.int k a)) (hy : opd S y = some (.int k b)) :
    YV P S C ⟨dst, .call ⟨.builtin .min, #[x, y], tys⟩, ty, pos, af, g⟩ (.int k (min a b)) :=
  .pure fun ρ hk w => by
    have : (if b < a then b else a) = min a b := by split <;> omega
    simp [execOp, resolve, hk x _ hx, hk y _ hy, Sem.run_pure, invoke, builtin, Builtin.min_, Builtin.min2, this]
theorem yMax {x y : Operand} {k : IntKind} {a b : Int} {tys : Array TypeId} (hx : opd S x = some (.int k a)) (hy : opd S y = some (.int k b)) :
    YV P S C ⟨dst, .call ⟨.builtin .max, #[x, y], tys⟩, ty, pos, af, g⟩ (.int k (max a b)) :=
  .pure fun ρ hk w => by
    have : (if a < b then b else a) = max a b := by split <;> omega
    simp [execOp, resolve, hk x _ hx, hk y _ hy, Sem.run_pure, invoke, builtin, Builtin.max_, Builtin.max2, this]
end ops
end ZW
