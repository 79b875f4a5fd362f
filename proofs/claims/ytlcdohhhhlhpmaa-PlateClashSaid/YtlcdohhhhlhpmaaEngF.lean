/-
  The engine, sixth part: cuts, ends, small words for the walks that are printed by program.
-/
import Derived.Test.YtlcdohhhhlhpmaaEngE
import Derived.Laws.StructEq
namespace ZW
open Go

section
variable {P : Program} {ro : Option Nat} {Q : Exit → Act → World → Prop} {N : Nat} {S : Slots} {D : List Deferred} {W : World} {M L : Heap}

theorem lookApp {S A B : Slots} (hc : AllLook S A) (hf : AllLook S B) : ∀ t v, look (A ++ B) t = some v → look S t = some v := fun t v h => by
  rw [look_append] at h
  cases h1 : look A t with
  | some u => rw [h1] at h; simp only [Option.some_or, Option.some.injEq] at h; subst h; exact hc.look t _ h1
  | none => rw [h1] at h; simp only [Option.none_or] at h; exact hf.look t _ h

/-- Where ways meet again: of the slots Sc is told anew and Sf stays, of the memory Mc and Lc are told anew and Lf stays. -/
theorem kCutX {ι : Type} {c : Code} {next : Act → World → Prop} (φ : ι → Prop) (Sc : ι → Slots) (Sf : Slots) (Mc Lc : ι → Heap) (Lf : Heap) (_ : AllLook S Sf) (_ : SubP Lf L)
    (hc : Tr (St N S D W M L) (WP P ro c (Exit.then (fun a w => ∃ y, φ y ∧ St N (Sc y ++ Sf) D W (Mc y) (Lf ++ Lc y) a w) Q)))
    (hn : ∀ x, φ x → Tr (St N (Sc x ++ Sf) D W (Mc x) (Lf ++ Lc x)) next) : Tr (St N S D W M L) (WP P ro c (Exit.then next Q)) := fun _ _ hs =>
  wpIn_mono (hc _ _ hs) fun e _ _ hq => by
    cases e with
    | normal => obtain ⟨y, hy, hst⟩ := hq; exact hn y hy _ _ hst
    | _ => exact hq
theorem kMeetX {ι : Type} {φ : ι → Prop} {Sc : ι → Slots} {Sf : Slots} {Mc Lc : ι → Heap} {Lf : Heap} (y : ι) (h0 : φ y) (hM : M = Mc y) (hc : AllLook S (Sc y)) (hf : AllLook S Sf) (hL : SubP (Lf ++ Lc y) L) :
    Tr (St N S D W M L) (fun a w => ∃ y, φ y ∧ St N (Sc y ++ Sf) D W (Mc y) (Lf ++ Lc y) a w) := fun _ _ hs =>
  ⟨y, h0, hs.sz, fun t v hv => hs.sl t v (lookApp hc hf t v hv), hs.df, hM ▸ hs.ef.sub hL⟩

theorem endRet {v u : Value} (h : u = v) : ∀ w, Eff W [] L w → Ret W v (.returned u) w := fun _ hw => ⟨by rw [h], hw.sub .n⟩
theorem endPan {v u : Value} (h : u = v) : ∀ w, Eff W [] L w → Pan W v (.panicked [{ v := u, recovered := false }]) w := fun _ hw => ⟨by rw [h], hw.sub .n⟩
/-- The end of a function that makes blocks, or writes into some. -/
theorem endX {ι : Type} {φ : ι → Prop} {v : ι → Value} {Mx Lx : ι → Heap} {u : Value} (y : ι) (h0 : φ y) (hv : u = v y) (hM : M = Mx y) (hL : SubP (Lx y) L) : ∀ w, Eff W M L w → RetX W φ v Mx Lx (.returned u) w := fun _ hw =>
  ⟨y, h0, by rw [hv], hM ▸ hw.sub hL⟩

theorem conv_ok {n : Int} (h : 0 ≤ n ∧ n ≤ 9223372036854775807) {k : IntKind} (hk : is64 k = true := by rfl) : k.wrap n = n := by
  cases k <;> simp [is64] at hk
  · exact IntWalk.i64_in _ (by omega)
  · exact IntWalk.u64_in _ (by omega)

/-- A function is entered that writes into blocks that are there. -/
theorem fEnterM {f : FuncId} {fn : Func} {c : Code} {vs : List Value} {R : Ending → World → Prop} (hE : Eff W M [] W) (hf : P.funcs[f]? = some fn) (hb : fn.body = some c) (hn : fn.ntmps = N) (hN : Nat.ble vs.length N = true)
    (h : Tr (St N (slotsFrom 0 vs) [] W M []) (WP P none c (bodyPostM (FW none) 0 P fn R))) : Calls P f vs.toArray W R := by
  refine (callsIn_wide (n := 0)).1 (callsIn_of_wp_marks hf hb trivial ?_)
  refine h _ W ⟨?_, ?_, rfl, hE⟩
  · have := Nat.le_of_ble_eq_true hN
    simp [hn]; omega
  · intro t v hv
    obtain ⟨h1, h2⟩ := look_slotsFrom vs 0 t v hv
    simp only [Nat.sub_zero] at h2
    have hlt : t < vs.length := by
      rcases Nat.lt_or_ge t vs.length with h | h
      · exact h
      · rw [List.getElem?_eq_none h] at h2; cases h2
    show (vs.toArray ++ Array.replicate (fn.ntmps - vs.toArray.size) undef)[t]? = some v
    rw [Array.getElem?_append_left (by simpa using hlt)]
    simpa using h2
theorem Eff.one {b : Nat} {o : Obj} (h : W.heap[b]? = some o) : Eff W [(b, o)] [] W := by
  have hlt : b < W.heap.size := by rw [Array.getElem?_eq_some_iff] at h; exact h.1
  refine ⟨rfl, rfl, rfl, Nat.le_refl _, fun _ _ _ => rfl, fun p hp => ?_, fun _ hp => by simp at hp, fun p hp => ?_, by simp⟩
  · simp only [List.append_nil, List.mem_singleton] at hp; subst hp; exact h
  · simp only [List.mem_singleton] at hp; subst hp; exact hlt
theorem Eff.two {b c : Nat} {o p : Obj} (h : W.heap[b]? = some o) (k : W.heap[c]? = some p) (hne : b ≠ c) : Eff W [(b, o), (c, p)] [] W := by
  have hlt : b < W.heap.size := by rw [Array.getElem?_eq_some_iff] at h; exact h.1
  have hlt' : c < W.heap.size := by rw [Array.getElem?_eq_some_iff] at k; exact k.1
  refine ⟨rfl, rfl, rfl, Nat.le_refl _, fun _ _ _ => rfl, fun q hq => ?_, fun _ hp => by simp at hp, fun q hq => ?_, by simp [hne]⟩
  · simp only [List.append_nil, List.mem_cons, List.not_mem_nil, or_false] at hq; rcases hq with rfl | rfl; (· exact h); exact k
  · simp only [List.mem_cons, List.not_mem_nil, or_false] at hq; rcases hq with rfl | rfl; (· exact hlt); exact hlt'

/-! #### A scope -/
theorem stepR_scope {b : Frame} {a : Act} {k : List Item} {cs : List Frame} {w : World} {c : Code} : step P (lone (b.atR a (.code (.scope c) :: k)) cs w) = .next (lone (b.atR a (.code c :: .inScope c :: k)) cs w) :=
  step_lone_go (by simp [stepG, stepG.exec, Frame.atR])
theorem stepR_inScope {b : Frame} {a : Act} {k : List Item} {cs : List Frame} {w : World} {c : Code} : step P (lone (b.atR a (.inScope c :: k)) cs w) = .next (lone (b.atR a k) cs w) :=
  step_lone_go (by simp [stepG, stepG.exec, Frame.atR])
def Exit.noGo (Q : Exit → Act → World → Prop) : Exit → Act → World → Prop
  | .goto _, _, _ => False
  | e, a, w => Q e a w
/-- A scope through which the run goes without a goto. -/
theorem kScope {X : Act → World → Prop} {c : Code} (h : Tr X (WP P ro c (Exit.noGo Q))) : Tr X (WP P ro (.scope c) Q) := fun a w hx => by
  intro b k cs hro hb hr
  have h0 : (lone (b.atR a (.code (.scope c) :: k)) cs w).fenced P (FW ro) := fenced_calm hb hr rfl
  obtain ⟨e, a₁, w₁, hq, harr⟩ := h a w hx b (.inScope c :: k) cs hro hb hr
  cases e with
  | normal => exact ⟨.normal, a₁, w₁, hq, .head h0 stepR_scope (StepsIn.trans harr (.one (fenced_calm hb hr rfl) stepR_inScope))⟩
  | exit id' =>
    have hx : exitTo id' (.inScope c :: k) = exitTo id' k := by simp [exitTo]
    exact ⟨.exit id', a₁, w₁, hq, fun k' hk => .head h0 stepR_scope (harr.1 k' (by rw [hx]; exact hk)),
      fun hr' hk => let ⟨k₁, h1, h2⟩ := harr.2 hr' (by rw [hx]; exact hk); ⟨k₁, h1, .head h0 stepR_scope h2⟩⟩
  | goto l => exact hq.elim
  | ret => exact ⟨_, a₁, w₁, hq, .of_steps (.one h0 stepR_scope) harr⟩
  | panic ch => exact ⟨_, a₁, w₁, hq, .of_steps (.one h0 stepR_scope) harr⟩
  | outgrown => exact ⟨_, a₁, w₁, hq, .of_steps (.one h0 stepR_scope) harr⟩
theorem kScN {X : Act → World → Prop} (h : Tr X (Q .normal)) : Tr X (Exit.noGo Q .normal) := h
theorem kScR {X : Act → World → Prop} (h : Tr X (Q .ret)) : Tr X (Exit.noGo Q .ret) := h
theorem kScX {X : Act → World → Prop} {id : Nat} (h : Tr X (Q (.exit id))) : Tr X (Exit.noGo Q (.exit id)) := h
theorem kScP {X : Act → World → Prop} {c : List PanicEntry} (h : Tr X (Q (.panic c))) : Tr X (Exit.noGo Q (.panic c)) := h

theorem fBoxA {d : Nat} {ty : TypeId} {pos : String} {af : Array Edge} {g : Option (Nat × Bool)} {T : TypeId} {x : Operand} {l : List Value} (hx : opd S x = some (.agg l.toArray)) :
    Tr (St N S D W M L) (opW P ro N ⟨some d, .box T x, ty, pos, af, g⟩ (fun a w => ∃ n, St N ((d, .pointer (some ⟨n, 0, none⟩)) :: S) D W M ((n, blk l T) :: L) a w) Q) :=
  eBoxA hx fun n => trTo (Y := fun n => St N ((d, .pointer (some ⟨n, 0, none⟩)) :: S) D W M ((n, blk l T) :: L)) n trSelf

variable {C : World → Prop}
theorem yvSame {o : Oper} {v u : Value} (h : YV P S C o v) (hv : v = u) : YV P S C o u := hv ▸ h
theorem yvTrue {o : Oper} {p : Prop} [Decidable p] (h : YV P S C o (.bool (decide p))) (hp : p) : YV P S C o (.bool true) := yvSame h (by rw [decide_eq_true hp])
theorem yvFalse {o : Oper} {p : Prop} [Decidable p] (h : YV P S C o (.bool (decide p))) (hp : ¬ p) : YV P S C o (.bool false) := yvSame h (by rw [decide_eq_false hp])
theorem yvIs {o : Oper} {b c : Bool} (h : YV P S C o (.bool b)) (hp : b = c) : YV P S C o (.bool c) := yvSame h (by rw [hp])
end
end ZW
