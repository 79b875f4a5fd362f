/-
  The engine, ninth part: equality of structs and arrays of plain cells; least and greatest of several; calls through an interface; calls that make blocks, forward.
-/
import Derived.Test.YtlcdohhhhlhpmaaEngH
import Derived.ChangeKeysEq
namespace ZW
open Go

section
variable {P : Program}

theorem run_part_one {T : TypeId} {cs : Array Value} {o : Nat} {v : Value} (hT : oneT P T = true) (h : cs[o]? = some v) (w : World) : (part T cs o).run P w = .ok v w := by
  simp only [part, Sem.run_bind, isAgg_one hT, Result.andThen_ok, Bool.false_eq_true, if_false, h, Sem.run_pure]
theorem run_part_agg {T : TypeId} {cs : Array Value} {o k : Nat} (hT : aggT P T = some k) (w : World) : (part T cs o).run P w = .ok (.agg (cs.extract o (o + k))) w := by
  obtain ⟨inf, hi, hs, ha⟩ := aggT_spec hT
  simp only [part, Sem.run_bind, ha, Result.andThen_ok, if_true, run_sizeOf_of hi, hs, Sem.run_pure]

/-- The fields of a struct type, if its equality is that of all its fields. -/
def eqFs (P : Program) (T : TypeId) : Option (List (TypeId × Nat)) :=
  match P.underlying T with
  | some (.struct fs) => if P.stoodInHeld T = false ∧ fs.toList.all (fun f => f.name != "_") = true then some (fs.toList.map fun f => (f.type, f.offset)) else none
  | _ => none

/-- The comparison of some fields. -/
def eqAll (d : Nat) (xs ys : Array Value) : List (TypeId × Nat) → Sem Bool
  | [] => pure true
  | (t, o) :: r => do
    let a ← part t xs o
    let b ← part t ys o
    let q ← Op.equalIn d t a b
    if (!q) = true then pure false else eqAll d xs ys r

theorem run_equalIn_fs {T : TypeId} {l : List (TypeId × Nat)} (h : eqFs P T = some l) (d : Nat) (xs ys : Array Value) (w : World) : (Op.equalIn (d + 1) T (.agg xs) (.agg ys)).run P w = (eqAll d xs ys l).run P w := by
  unfold eqFs at h
  split at h
  · rename_i fs hu
    split at h
    · rename_i hc
      cases h
      obtain ⟨hst, hn⟩ := hc
      have hf : P.fieldsOf T = fs := by simp [Program.fieldsOf, hu]
      rw [run_equalIn_struct w d T xs ys (by rw [hf]; exact hu) hst, hf]
      generalize fs.toList = l at hn
      clear hf hu
      induction l generalizing w with
      | nil => simp [Op.eqFields, eqAll]
      | cons f r ih =>
        simp only [List.all_cons, Bool.and_eq_true] at hn
        have h1 : f.name ≠ "_" := by simpa using hn.1
        simp only [Op.eqFields, if_pos h1, List.map_cons, eqAll, Sem.run_bind]
        generalize (part f.type xs f.offset).run P w = r1
        cases r1 with
        | ok a w1 =>
          simp only [Result.andThen_ok]
          generalize (part f.type ys f.offset).run P w1 = r2
          cases r2 with
          | ok b w2 =>
            simp only [Result.andThen_ok]
            generalize (Op.equalIn d f.type a b).run P w2 = r3
            cases r3 with
            | ok q w3 =>
              simp only [Result.andThen_ok]
              split
              · rfl
              · exact ih w3 hn.2
            | halt x w3 => rfl
          | halt x w2 => rfl
        | halt x w1 => rfl
    · cases h
  · cases h

/-- One field more, an int. -/
theorem eqAll_int {d : Nat} {xs ys : Array Value} {T : TypeId} {o : Nat} {r : List (TypeId × Nat)} {k k' : IntKind} {a b : Int} {p : Prop} [Decidable p] {w : World} (hT : oneT P T = true) (hu : P.underlying T = some (.int k')) (hx : xs[o]? = some (.int k a)) (hy : ys[o]? = some (.int k b))
    (h : (eqAll (d + 1) xs ys r).run P w = .ok (decide p) w) : (eqAll (d + 1) xs ys ((T, o) :: r)).run P w = .ok (decide (a = b ∧ p)) w := by
  simp only [eqAll, Sem.run_bind, run_part_one hT hx, run_part_one hT hy, Result.andThen_ok, run_equalIn_int w d T k k' a b hu, Sem.run_ite, h, Sem.run_pure]
  by_cases hab : a = b <;> simp [hab]
theorem eqAll_bool {d : Nat} {xs ys : Array Value} {T : TypeId} {o : Nat} {r : List (TypeId × Nat)} {a b : Bool} {p : Prop} [Decidable p] {w : World} (hT : oneT P T = true) (hu : P.underlying T = some .bool) (hx : xs[o]? = some (.bool a)) (hy : ys[o]? = some (.bool b))
    (h : (eqAll (d + 1) xs ys r).run P w = .ok (decide p) w) : (eqAll (d + 1) xs ys ((T, o) :: r)).run P w = .ok (decide (a = b ∧ p)) w := by
  simp only [eqAll, Sem.run_bind, run_part_one hT hx, run_part_one hT hy, Result.andThen_ok, run_equalIn_bool' w d T a b hu, Sem.run_ite, h, Sem.run_pure]
  by_cases hab : a = b <;> simp [hab]
theorem eqAll_nil {d : Nat} {xs ys : Array Value} {w : World} : (eqAll d xs ys []).run P w = .ok (decide True) w := by simp [eqAll]

/-- Arrays, item by item. -/
theorem run_eqItems_all {d : Nat} {e : TypeId} {c : Nat} {xs ys : Array Value} {f : Nat → Bool} {w : World} : ∀ (l : List Nat), (∀ i ∈ l, ∃ a b, (part e xs (i * c)).run P w = .ok a w ∧ (part e ys (i * c)).run P w = .ok b w ∧ (Op.equalIn d e a b).run P w = .ok (f i) w) →
    (Op.eqItems d e c xs ys l).run P w = .ok (l.all f) w
  | [], _ => by simp [Op.eqItems]
  | i :: l, h => by
    obtain ⟨a, b, h1, h2, h3⟩ := h i (by simp)
    have ih := run_eqItems_all l fun j hj => h j (by simp [hj])
    simp only [Op.eqItems, Sem.run_bind, h1, h2, h3, Result.andThen_ok, Sem.run_ite, ih, Sem.run_pure, List.all_cons]
    cases f i <;> simp
end

section ops
variable {P : Program} {ro : Option Nat} {Q : Exit → Act → World → Prop} {next : Act → World → Prop} {N : Nat} {S : Slots} {D : List Deferred} {W : World} {M L : Heap}
variable {C : World → Prop} {dst : Option Tmp} {d : Nat} {ty : TypeId} {pos : String} {af : Array Edge} {g : Option (Nat × Bool)}

theorem yMin3 {x y z : Operand} {k : IntKind} {a b c : Int} {tys : Array TypeId} (hx : opd S x = some (.int k a)) (hy : opd S y = some (.int k b)) (hz : opd S z = some (.int k c)) :
    YV P S C ⟨dst, .call ⟨.builtin .min, #[x, y, z], tys⟩, ty, pos, af, g⟩ (.int k (min (min a b) c)) :=
  .pure fun ρ hk w => by
    have h1 : (if b < a then b else a) = min a b := by split <;> omega
    have h2 : (if c < min a b then c else min a b) = min (min a b) c := by split <;> omega
    simp [execOp, resolve, hk x _ hx, hk y _ hy, hk z _ hz, Sem.run_pure, invoke, builtin, Builtin.min_, Builtin.min2, h1, h2]
theorem yMax3 {x y z : Operand} {k : IntKind} {a b c : Int} {tys : Array TypeId} (hx : opd S x = some (.int k a)) (hy : opd S y = some (.int k b)) (hz : opd S z = some (.int k c)) :
    YV P S C ⟨dst, .call ⟨.builtin .max, #[x, y, z], tys⟩, ty, pos, af, g⟩ (.int k (max (max a b) c)) :=
  .pure fun ρ hk w => by
    have h1 : (if a < b then b else a) = max a b := by split <;> omega
    have h2 : (if max a b < c then c else max a b) = max (max a b) c := by split <;> omega
    simp [execOp, resolve, hk x _ hx, hk y _ hy, hk z _ hz, Sem.run_pure, invoke, builtin, Builtin.max_, Builtin.max2, h1, h2]

/-- A call that makes blocks, in a region that draws. -/
theorem fCallX {ι : Type} {x : Operand} {xs : List Operand} {f : FuncId} {us cs vs : List Value} {tys : Array TypeId} {φ : ι → Prop} {v : ι → Value} {Lx : ι → Heap} (hx : opd S x = some (.func (.func f) us.toArray cs.toArray)) (ha : AllOpd S xs vs)
    (hf : callT P f = true) (hc : ∀ w, Eff W M L w → Calls P f (us ++ vs ++ cs).toArray w (RetX w φ v (fun _ => []) Lx)) :
    Tr (St N S D W M L) (opW P ro N ⟨some d, .call ⟨.value x, xs.toArray, tys⟩, ty, pos, af, g⟩ (fun a w => ∃ y : {y // φ y}, St N ((d, v y.1) :: S) D W M (Lx y.1 ++ L) a w) Q) :=
  eCallX hx ha hf hc fun y h => trTo (Y := fun y : {y // φ y} => St N ((d, v y.1) :: S) D W M (Lx y.1 ++ L)) ⟨y, h⟩ trSelf
end ops
end ZW
