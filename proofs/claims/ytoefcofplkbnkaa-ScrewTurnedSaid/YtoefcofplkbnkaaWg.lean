/-
  Walks: what was seen; the functions that are called from outside.
-/
import Derived.Test.YtoefcofplkbnkaaWf
namespace Go.Proofs.Ytoefcofplkbnkaa
open ZW

/-- How often an image is in the first settings. -/
def cntP (m : Meas) (i : Nat) (a : Int) : Int := (((m.sets.take i).filter fun x => x.1 == a).length : Nat)
theorem cntP_succ (m : Meas) {i : Nat} (h : i < m.sets.length) (a : Int) : cntP m (i + 1) a = if a = (m.sets.getD i (0, 0, false)).1 then cntP m i a + 1 else cntP m i a := by
  unfold cntP
  rw [List.take_add_one, List.getElem?_eq_getElem h, ← List.getElem_eq_getD (h := h)]
  simp only [Option.toList_some, List.filter_append, List.length_append]
  by_cases hc : a = m.sets[i].1
  · rw [if_pos hc]
    have : (m.sets[i].1 == a) = true := by simpa using hc.symm
    rw [show List.filter (fun x : Int × Int × Bool => x.1 == a) [m.sets[i]] = [m.sets[i]] from by simp only [List.filter, this]]; simp
  · rw [if_neg hc]
    have : (m.sets[i].1 == a) = false := by simpa using fun e => hc (Eq.symm e)
    rw [show List.filter (fun x : Int × Int × Bool => x.1 == a) [m.sets[i]] = [] from by simp only [List.filter, this]]; simp
theorem cntP_bd (m : Meas) (i : Nat) (a : Int) : 0 ≤ cntP m i a ∧ cntP m i a ≤ m.sets.length := by
  unfold cntP
  have h1 := List.length_filter_le (fun x : Int × Int × Bool => x.1 == a) (m.sets.take i)
  have h2 := List.length_take_le i m.sets
  have h3 : (m.sets.take i).length ≤ m.sets.length := by rw [List.length_take]; omega
  omega
/-- An image has a setting. -/
def seenP (m : Meas) (a : Int) : Prop := 0 < cntP m m.sets.length a
instance (m : Meas) (a : Int) : Decidable (seenP m a) := inferInstanceAs (Decidable (_ < _))
theorem seenP_iff (m : Meas) (a : Int) : seenP m a ↔ ∃ x ∈ m.sets, x.1 = a := by
  unfold seenP cntP
  rw [List.take_length]
  constructor
  · intro h
    obtain ⟨x, hx⟩ := List.exists_mem_of_length_pos (l := m.sets.filter fun x => x.1 == a) (by omega)
    rw [List.mem_filter] at hx
    exact ⟨x, hx.1, by simpa using hx.2⟩
  · rintro ⟨x, hx, rfl⟩
    have : x ∈ m.sets.filter fun z => z.1 == x.1 := List.mem_filter.2 ⟨hx, by simp⟩
    have := List.length_pos_of_mem this
    omega
/-- What comes of asking whether images were seen. -/
def SeenR (w : World) (m : Meas) (l : List Int) : Ending → World → Prop := fun e w' =>
  ((∀ a ∈ l, seenP m a) ∧ Ret w (.tuple #[]) e w') ∨ ((¬ ∀ a ∈ l, seenP m a) ∧ Pan w (.iface 106 (.agg [i64 12].toArray)) e w')

set_option maxRecDepth 100000 in
theorem seen_any (nm : Nat) (y : Loc) (m : Meas) (g : Own) (v : Option Addr) (c : Nat) (l : List Int) (k : Nat) (w : World) (hms : InMs w nm y m g) (hN : m.sets.length ≤ 12) (hk : k = l.length) (hv : SlE w v k 1 (intC l)) (hl : l.length ≤ 100) :
    Calls Try.prog 59 [.pointer (some ⟨nm, 0, none⟩), .slice v k c].toArray w (SeenR w m l) := by
  subst hk
  refine fEnter Try.func59 rfl Try.ntmps59 rfl ?_
  refine kSeq ?_
  refine kRegion rfl ?_
  refine lE rfl ?_
  refine eMakeMap (k := .i64) fun n9 => ?_
  refine lV (yAssign rfl) rfl rfl ?_
  refine lNil ?_
  refine kThen ?_
  refine kSeq ?_
  refine kSeq ?_
  refine kRegion rfl ?_
  refine lV (yMove rfl) rfl rfl ?_
  refine lV (yNilCheckP rfl) rfl rfl ?_
  refine lV (yFieldAddr rfl F98_0) rfl rfl ?_
  refine lV (yFieldAddr rfl F29_3) rfl rfl ?_
  refine lV (yLoad1 rfl O27 (cOldB (hms.b) rfl)) rfl rfl ?_
  refine lV (yLen rfl S27) rfl rfl ?_
  refine lV (yMove rfl) rfl rfl ?_
  refine lNil ?_
  refine kThen ?_
  refine kBlock ?_
  refine kLoopX (ι := Nat × List (Int × Value)) (fun x => x.1 ≤ m.sets.length ∧ ∀ a, mGet x.2 a (i64 0) = i64 (cntP m x.1 a)) (fun x => [(16, i64 (x.1 : Nat))]) [(0, _), (1, _), (9, _), (4, _), (10, _), (11, _), (12, _), (13, _), (14, _), (15, _)] (fun x => []) (fun x => [(n9, mapO .i64 x.2)]) [] (fun x => m.sets.length - x.1) (0, []) (⟨Nat.zero_le _, fun a => by simp [mGet, mFind, cntP]⟩) rfl (.c rfl .n) (.c rfl (.c rfl (.c rfl (.c rfl (.c rfl (.c rfl (.c rfl (.c rfl (.c rfl (.c rfl .n)))))))))) (.c 0 rfl .n) ?_
  rintro ⟨i, es⟩ ⟨hi, hes⟩
  dsimp only at hi hes ⊢
  refine kSeq ?_
  refine kRegion rfl ?_
  refine lV (yLss rfl rfl) rfl rfl ?_
  refine lNil ?_
  refine kThen ?_
  refine kSeq ?_
  refine split (t := 17) rfl (fun h17 => ?_) (fun h17 => ?_)
  · refine kIfT rfl ?_
    refine kSkip ?_
    refine kThen ?_
    refine kSeq ?_
    refine kBlock ?_
    refine kSeq ?_
    refine kRegion rfl ?_
    refine lV (yIndexS  rfl rfl S27 (hms.m.s.r) ((by omega))) rfl rfl ?_
    refine lV (yLoadA (vs := [_, _, _]) rfl A49 (cSl0 (hms.m.s.r) ((by omega)) rfl)) rfl rfl ?_
    refine lE rfl ?_
    refine eAlloc Z49 fun n6 => ?_
    refine lE rfl ?_
    refine eStoreL 0 rfl rfl rfl rfl K49 rfl (rfl) ?_
    refine lNil ?_
    refine kThen ?_
    refine kRegion rfl ?_
    refine lV (yMove rfl) rfl rfl ?_
    refine lV (yFieldAddr rfl F49_0) rfl rfl ?_
    refine lV (yLoad1 rfl O3 (cOwn 0 rfl rfl)) rfl rfl ?_
    refine lV (yLookup MP110 ZV3 rfl rfl (fun w hw => hw.blkAt 1 rfl)) rfl rfl ?_
    refine same (t := 23) (u := i64 (cntP m i (m.sets.getD i (0, 0, false)).1)) rfl (hes _) ?_
    refine lV (yAdd rfl rfl (by have := cntP_bd m i (m.sets.getD i (0, 0, false)).1; omega)) rfl rfl ?_
    refine lE rfl ?_
    refine eMapUpdate 1 MP110 rfl rfl rfl rfl ?_
    refine lNil ?_
    refine kInN ?_
    refine kThen ?_
    refine kRegion rfl ?_
    refine lV (yAdd rfl rfl (by omega)) rfl rfl ?_
    refine lV (yMove rfl) rfl rfl ?_
    refine lNil ?_
    exact kRoundX (i + 1, mPut es (m.sets.getD i (0, 0, false)).1 (i64 (cntP m i (m.sets.getD i (0, 0, false)).1 + 1))) (⟨by dsimp only; omega, fun a => by dsimp only; rw [mGet_put, cntP_succ m (by omega)]; split; (· rename_i h; rw [h]); exact hes a⟩) (by dsimp only; omega) rfl (.c rfl .n) (.c rfl (.c rfl (.c rfl (.c rfl (.c rfl (.c rfl (.c rfl (.c rfl (.c rfl (.c rfl .n)))))))))) (.c 1 rfl .n)
  · refine kIfF rfl ?_
    refine kExit ?_
    refine kThenX ?_
    refine kThenX ?_
    refine kInX ?_
    refine kThen ?_
    refine kSeq ?_
    refine kRegion rfl ?_
    refine lV (yMove rfl) rfl rfl ?_
    refine lV (yLen rfl S41) rfl rfl ?_
    refine lV (yMove rfl) rfl rfl ?_
    refine lNil ?_
    refine kThen ?_
    refine kBlock ?_
    refine kLoopX (ι := Nat) (fun j => j ≤ l.length ∧ ∀ q, q < j → seenP m (l.getD q 0)) (fun j => [(28, i64 (j : Nat))]) [(0, _), (1, _), (9, _), (4, _), (10, _), (11, _), (12, _), (13, _), (14, _), (15, _), (16, _), (17, _), (26, _), (27, _)] (fun j => []) (fun j => []) [(n9, _)] (fun j => l.length - j) 0 (⟨Nat.zero_le _, fun j hj => absurd hj (by omega)⟩) rfl (.c rfl .n) (.c rfl (.c rfl (.c rfl (.c rfl (.c rfl (.c rfl (.c rfl (.c rfl (.c rfl (.c rfl (.c rfl (.c rfl (.c rfl (.c rfl .n)))))))))))))) (.c 0 rfl .n) ?_
    rintro j ⟨hj, hok⟩
    refine kSeq ?_
    refine kRegion rfl ?_
    refine lV (yLss rfl rfl) rfl rfl ?_
    refine lNil ?_
    refine kThen ?_
    refine kSeq ?_
    refine split (t := 29) rfl (fun h29 => ?_) (fun h29 => ?_)
    · refine kIfT rfl ?_
      refine kSkip ?_
      refine kThen ?_
      refine kSeq ?_
      refine kBlock ?_
      refine kSeq ?_
      refine kRegion rfl ?_
      refine lV (yIndexS  rfl rfl S41 (hv.r) ((by omega))) rfl rfl ?_
      refine lV (yLoad1 rfl O3 (cSl0 (hv.r) ((by omega)) rfl)) rfl rfl ?_
      refine lV (yAssign rfl) rfl rfl ?_
      refine lNil ?_
      refine kThen ?_
      refine kRegion rfl ?_
      refine lV (yMove rfl) rfl rfl ?_
      refine lV (yMove rfl) rfl rfl ?_
      refine lV (yLookup MP110 ZV3 rfl rfl (fun w hw => hw.blkAt 0 rfl)) rfl rfl ?_
      refine same (t := 34) (u := i64 (cntP m i (l.getD j 0))) rfl (hes _) ?_
      refine lV (yGtr rfl rfl) rfl rfl ?_
      refine split (t := 35) rfl (fun h35 => ?_) (fun h35 => ?_)
      · refine lV (yCall rfl (.c rfl (.c rfl .n)) C85 (fun w hw => need_ok 12 w)) rfl rfl ?_
        refine lNil ?_
        refine kInN ?_
        refine kThen ?_
        refine kRegion rfl ?_
        refine lV (yAdd rfl rfl (by omega)) rfl rfl ?_
        refine lV (yMove rfl) rfl rfl ?_
        refine lNil ?_
        exact kRoundX (j + 1) (⟨by omega, fun q hq => by rcases Nat.lt_or_ge q j with h | h; (· exact hok q h); (obtain rfl : q = j := (by omega)); (obtain rfl : i = m.sets.length := (by omega)); exact h35⟩) (by omega) rfl (.c rfl .n) (.c rfl (.c rfl (.c rfl (.c rfl (.c rfl (.c rfl (.c rfl (.c rfl (.c rfl (.c rfl (.c rfl (.c rfl (.c rfl (.c rfl .n)))))))))))))) (.c 0 rfl .n)
      · refine lE rfl ?_
        refine eCallP rfl (.c rfl (.c rfl .n)) C85 (fun w hw => need_pan 12 w) ?_
        refine kInP ?_
        refine kThenP ?_
        refine kThenP ?_
        refine kInP ?_
        exact fPan (fun w' hw => .inr ⟨fun h => h35 (by obtain rfl : i = m.sets.length := (by omega); exact h _ (getD_mem (i := j) (by omega) 0)), endPan rfl w' hw⟩)
    · refine kIfF rfl ?_
      refine kExit ?_
      refine kThenX ?_
      refine kThenX ?_
      refine kInX ?_
      refine fEnd rfl .n ?_
      exact fun w' hw => .inl ⟨fun n hn => (by obtain ⟨q, hq, rfl⟩ := List.mem_iff_getElem.1 hn; have := hok q (by omega); rwa [← List.getElem_eq_getD (h := hq)] at this), endRet rfl w' hw⟩

theorem notT {p : Prop} [Decidable p] (h : (!decide p) = true) : ¬ p := by simpa using h
theorem notF {p : Prop} [Decidable p] (h : (!decide p) = false) : p := by simpa using h
/-! ### Travel -/
abbrev outC (r : (Int × Int) × Int) : Value := .tuple [.agg [i64 r.1.1, i64 r.1.2].toArray, i64 r.2].toArray
def travelE (m : Meas) (n : Int) : (Int × Int) × Int := if ¬ ScrewOk m then ((0, 0), 1) else if ¬ readOk m n then ((0, 0), 2) else (travelP m n, 0)

set_option maxRecDepth 100000 in
theorem travelX_any (y : Loc) (m : Meas) (n : Int) (w : World) (hm : InM w y m) : Calls Try.prog 16 [.agg (screwC y m).toArray, i64 n].toArray w (Ret w (outC (travelE m n))) := by
  refine fEnter Try.func16 rfl Try.ntmps16 rfl ?_
  refine kSeq ?_
  refine kRegion rfl ?_
  refine lE rfl ?_
  refine eBoxA rfl fun n2 => ?_
  refine lE rfl ?_
  refine eAlloc Z24 fun n4 => ?_
  refine lV (yAssign rfl) rfl rfl ?_
  refine lNil ?_
  refine kThen ?_
  refine kSeq ?_
  refine kBlock ?_
  refine kSeq ?_
  refine kRegion rfl ?_
  refine lV (yLoadA (vs := [_, _, _]) rfl A26 (cOwn 1 rfl rfl)) rfl rfl ?_
  refine lV (yCall rfl (.c rfl .n) C47 (fun w hw => isScrew_any y m w (hm.eff hw).e)) rfl rfl ?_
  refine lV (yNot rfl) rfl rfl ?_
  refine lV (yAssign rfl) rfl rfl ?_
  refine lNil ?_
  refine kThen ?_
  refine splitB (t := 7) rfl (fun h7 => ?_) (fun h7 => ?_)
  · refine kIfT rfl ?_
    refine kSeq ?_
    refine kRegion rfl ?_
    refine lV (yBuild .n (fun w => B24_ w)) rfl rfl ?_
    refine lE rfl ?_
    refine eStoreL 0 rfl rfl rfl rfl K24 rfl (rfl) ?_
    refine lV (yAssign rfl) rfl rfl ?_
    refine lNil ?_
    refine kThen ?_
    refine kRet ?_
    refine kInR ?_
    refine kThenR ?_
    refine fRet rfl (.cA (us := [_, _]) rfl A24 (cOwn 0 rfl rfl) (.t rfl .n)) (endRet ?_)
    have h := notT h7
    simp only [packV, travelE, if_pos h]
  · refine kIfF rfl ?_
    refine kSeq ?_
    refine kRegion rfl ?_
    refine lV (yLoadA (vs := [_, _, _]) rfl A26 (cOwn 1 rfl rfl)) rfl rfl ?_
    refine lV (yMove rfl) rfl rfl ?_
    refine lV (yCall rfl (.c rfl (.c rfl .n)) C48 (fun w hw => isReading_any y m n w (by have := (notF h7).n; omega))) rfl rfl ?_
    refine lV (yNot rfl) rfl rfl ?_
    refine lV (yAssign rfl) rfl rfl ?_
    refine lNil ?_
    refine kThen ?_
    refine splitB (t := 12) rfl (fun h12 => ?_) (fun h12 => ?_)
    · refine kIfT rfl ?_
      refine kSeq ?_
      refine kRegion rfl ?_
      refine lV (yBuild .n (fun w => B24_ w)) rfl rfl ?_
      refine lE rfl ?_
      refine eStoreL 0 rfl rfl rfl rfl K24 rfl (rfl) ?_
      refine lV (yAssign rfl) rfl rfl ?_
      refine lNil ?_
      refine kThen ?_
      refine kRet ?_
      refine kInR ?_
      refine kThenR ?_
      refine fRet rfl (.cA (us := [_, _]) rfl A24 (cOwn 0 rfl rfl) (.t rfl .n)) (endRet ?_)
      have h := notF h7
      have h' := notT h12
      simp only [packV, travelE, if_neg (not_not_intro h), if_pos h']
    · refine kIfF rfl ?_
      refine kSkip ?_
      refine kInN ?_
      refine kThen ?_
      refine kSeq ?_
      refine kRegion rfl ?_
      refine lV (yLoadA (vs := [_, _, _]) rfl A26 (cOwn 1 rfl rfl)) rfl rfl ?_
      refine lV (yMove rfl) rfl rfl ?_
      refine lV (yCall rfl (.c rfl (.c rfl .n)) C49 (fun w hw => travel_any y m n w (hm.eff hw) (notF h7) (notF h12))) rfl rfl ?_
      refine lE rfl ?_
      refine eAlloc Z69 fun n6 => ?_
      refine lE rfl ?_
      refine eStoreL 0 rfl rfl rfl rfl K69 rfl (rfl) ?_
      refine lNil ?_
      refine kThen ?_
      refine kSeq ?_
      refine kRegion rfl ?_
      refine lV (yFieldAddr rfl F69_0) rfl rfl ?_
      refine lV (yLoad1 rfl O3 (cOwn 0 rfl rfl)) rfl rfl ?_
      refine lV (yFieldAddr rfl F69_1) rfl rfl ?_
      refine lV (yLoad1 rfl O3 (cOwn 0 rfl rfl)) rfl rfl ?_
      refine lV (yBuild (.c rfl (.c rfl .n)) (fun w => B24_0_1 w)) rfl rfl ?_
      refine lE rfl ?_
      refine eStoreL 1 rfl rfl rfl rfl K24 rfl (rfl) ?_
      refine lV (yAssign rfl) rfl rfl ?_
      refine lNil ?_
      refine kThen ?_
      refine kRet ?_
      refine fRet rfl (.cA (us := [_, _]) rfl A24 (cOwn 1 rfl rfl) (.t rfl .n)) (endRet ?_)
      have h := notF h7
      have h' := notF h12
      simp only [packV, travelE, if_neg (not_not_intro h), if_neg (not_not_intro h')]

/-! ### Deferred closures that catch a misfit -/
structure Catch (f : FuncId) : Prop where
  ret : ∀ p w, CallsDIn (FW none) 0 Try.prog f #[p] .returning w (fun e u' w' => (∃ v, e = .returned v) ∧ u' = .returning ∧ Eff w [] [] w')
  pan : ∀ (n : Nat) (x e : Int) (w : World), w.heap[n]? = some (blk [i64 x] 33) → CallsDIn (FW none) 0 Try.prog f #[.pointer (some ⟨n, 0, none⟩)] (.panicking [{ v := .iface 106 (.agg [i64 e].toArray), recovered := false }]) w
    (fun en u' w' => (∃ v, en = .returned v) ∧ u' = .panicking [{ v := .iface 106 (.agg [i64 e].toArray), recovered := true }] ∧ Eff w [(n, blk [i64 e] 33)] [] w')
theorem catchOf {f : FuncId} {fn : Func} {id : Nat} {T1 T2 : TypeId} {p1 p2 : String} {af1 af2 : Array Edge} {tys : Array TypeId}
    (hf : Try.prog.funcs[f]? = some fn)
    (hb : fn.body = some (.region id #[⟨some 1, .call ⟨.builtin .recover, #[], #[]⟩, T1, p1, af1, none⟩, ⟨some 2, .call ⟨.value (.func 54), #[.tmp 1, .tmp 0], tys⟩, T2, p2, af2, none⟩] false))
    (hn : fn.ntmps = 3) (hr : fn.results = #[]) : Catch f where
  ret p w := catchD hf hb hn hr C54 (x := .nilIface) (fun c₀ cs h => recover_idle c₀ cs h) ((caught_nil p w).mono fun _ _ ⟨he, hE⟩ => ⟨⟨_, he⟩, hE⟩)
  pan n x e w h := catchD hf hb hn hr C54 (x := .iface 106 (.agg [i64 e].toArray)) (fun c₀ cs h => recover_some _ c₀ cs h) ((caught_mis e x n w h).mono fun _ _ ⟨he, hE⟩ => ⟨⟨_, he⟩, hE⟩)
theorem D53 : Catch 53 := catchOf Try.func53 rfl rfl rfl
theorem D58 : Catch 58 := catchOf Try.func58 rfl rfl rfl
theorem D64 : Catch 64 := catchOf Try.func64 rfl rfl rfl
theorem D66 : Catch 66 := catchOf Try.func66 rfl rfl rfl
theorem D71 : Catch 71 := catchOf Try.func71 rfl rfl rfl
theorem D73 : Catch 73 := catchOf Try.func73 rfl rfl rfl
theorem D77 : Catch 77 := catchOf Try.func77 rfl rfl rfl

section
variable {N : Nat} {S : Slots} {W : World} {M L : Heap} {fn : Func} {rs : List ResultVar} {vs : List Value} {R : Ending → World → Prop} {f : FuncId} {p : Value}
theorem fRetC (hC : Catch f) (hg : callT Try.prog f = true) (hr : fn.results = rs.toArray) (h : ResV Try.prog S (Eff W M L) rs vs) (k : ∀ w, Eff W M L w → R (.returned (packV vs)) w) :
    Tr (St N S [dfr f p] W M L) (bodyPostM (FW none) 0 Try.prog fn R .ret) := fRetD hg hr h (fun w _ => hC.ret p w) k
theorem fPanC {n : Nat} {x e : Int} (i : Nat) (hC : Catch f) (hg : callT Try.prog f = true) (hi : L[i]? = some (n, blk [i64 x] 33)) (hr : fn.results = rs.toArray) (h : ResV Try.prog S (Eff W M (upd L i (blk [i64 e] 33))) rs vs)
    (k : ∀ w, Eff W M (upd L i (blk [i64 e] 33)) w → R (.returned (packV vs)) w) :
    Tr (St N S [dfr f (.pointer (some ⟨n, 0, none⟩))] W M L) (bodyPostM (FW none) 0 Try.prog fn R (.panic [{ v := .iface 106 (.agg [i64 e].toArray), recovered := false }])) :=
  fPanD hg hr h (fun w hw => (hC.pan n x e w (hw.own _ (List.mem_append.2 (.inr (List.mem_of_getElem? hi))))).mono fun _ _ _ ⟨h1, h2, h3⟩ => ⟨h1, h2, by simpa using hw.wroteL hi h3⟩) k
end
end Go.Proofs.Ytoefcofplkbnkaa
