/-
  Walks: the kinds of places; what is a list.
-/
import Derived.Test.YtdpeifbejeflhaaVi
namespace Go.Proofs.Ytdpeifbejeflhaa
open ZW

abbrev atI (f : Fld) (i : Nat) : Nat := atS f (plP f i).1 (plP f i).2
theorem atI_lt (f : Fld) (hF : FldOk f) (i : Nat) : atI f i < 8192 := Nat.lt_of_lt_of_le (setB_lt _ _) (Nat.pow_le_pow_right (by omega) (show f.ps.length ≤ 13 by have := hF.l; omega))
structure KOk (f : Fld) (i : Nat) (ks : List Nat) (em : List (Int × Value)) (g : Own) : Prop where
  o : OS 1 g (ks.map rowU)
  m : ∀ k, k ∈ ks ↔ ∃ j, j < i ∧ atI f j = k
  s : ∀ k : Nat, mGet em (k : Int) (.bool false) = .bool (decide (k ∈ ks))
  l : ks.length ≤ i
theorem KOk.same {f : Fld} {i : Nat} {ks : List Nat} {em : List (Int × Value)} {g : Own} (h : KOk f i ks em g) (hk : atI f i ∈ ks) : KOk f (i + 1) ks em g where
  o := h.o
  s := h.s
  l := by have := h.l; omega
  m := fun k => by
    rw [h.m k]
    constructor
    · rintro ⟨j, h1, h2⟩; exact ⟨j, by omega, h2⟩
    · rintro ⟨j, h1, h2⟩
      rcases Nat.lt_or_ge j i with h3 | h3
      · exact ⟨j, h3, h2⟩
      · obtain rfl : j = i := by omega
        rw [h2] at hk; exact (h.m k).1 hk
theorem KOk.more {f : Fld} {i : Nat} {ks : List Nat} {em : List (Int × Value)} {g g' : Own} (h : KOk f i ks em g) (ho : OS 1 g' ((ks ++ [atI f i]).map rowU)) : KOk f (i + 1) (ks ++ [atI f i]) (mPut em ((atI f i : Nat) : Int) (.bool true)) g' where
  o := ho
  l := by have := h.l; simp; omega
  m := fun k => by
    rw [List.mem_append, h.m k, List.mem_singleton]
    constructor
    · rintro (⟨j, h1, h2⟩ | h2)
      · exact ⟨j, by omega, h2⟩
      · exact ⟨i, by omega, h2.symm⟩
    · rintro ⟨j, h1, h2⟩
      rcases Nat.lt_or_ge j i with h3 | h3
      · exact .inl ⟨j, h3, h2⟩
      · obtain rfl : j = i := by omega
        exact .inr h2.symm
  s := fun k => by
    rw [mGet_put, h.s k]
    by_cases hk : k = atI f i
    · rw [if_pos (by omega), decide_eq_true (by simp [hk])]
    · rw [if_neg (by omega)]
      congr 1
      rw [decide_eq_decide, List.mem_append, List.mem_singleton]
      exact ⟨.inl, fun h => h.resolve_right hk⟩
/-- A field that is looked at lies there. -/
structure InK (w : World) (nf nm : Nat) (es : PMap) (y : Option Addr × Nat) (f : Fld) : Prop where
  b : w.heap[nf]? = some (blk (fieldC y f (useS f) nm) 81)
  m : w.heap[nm]? = some (mapP es)
  r : Rep5 f es f.ps.length fun _ _ => False
  p : InF w y f
theorem InK.eff {w w' : World} {nf nm : Nat} {es : PMap} {y : Option Addr × Nat} {f : Fld} {L : Heap} (h : InK w nf nm es y f) (he : Eff w [] L w') : InK w' nf nm es y f := ⟨Eff.old' he h.b, Eff.old' he h.m, h.r, h.p.eff0 he⟩
section
variable (y : Option Addr × Nat) (f : Fld) (nm nf : Nat) (es : PMap)
set_option maxRecDepth 100000 in
set_option maxHeartbeats 4000000 in
theorem kinds_any (w : World) (hk : InK w nf nm es y f) (hF : FldOk f) : Calls Try.prog 48 [.pointer (some ⟨nf, 0, none⟩)].toArray w
    (RetX w (fun x : Own × List Nat => OS 1 x.1 (x.2.map rowU) ∧ x.2.length ≤ 1089 ∧ ∀ k, k ∈ x.2 ↔ ∃ i, i < plN f ∧ atI f i = k) (fun x => osV x.1 (x.2.map rowU).length) (fun _ => []) (fun x => osL 71 x.1)) := by
  have hb := hk.b
  have hEE := hF.e
  have hNN := hF.n
  unfold spn at hEE hNN
  have hpn : plN f ≤ 1089 := by
    have h1 : plH f ≤ 33 := by unfold plH; omega
    have h2 : plW f ≤ 33 := by unfold plW; omega
    exact Nat.mul_le_mul h1 h2
  refine fEnter Try.func48 rfl Try.ntmps48 rfl ?_
  refine kSeq ?_
  refine kRegion rfl ?_
  refine lE rfl ?_
  refine eBox1 rfl rfl fun n1 => ?_
  refine lE rfl ?_
  refine eAlloc Z108 fun n2 => ?_
  refine lNil ?_
  refine kThen ?_
  refine kSeq ?_
  refine kRegion rfl ?_
  refine lE rfl ?_
  refine eMakeMap (k := .u64) fun n6 => ?_
  refine lE rfl ?_
  refine eAlloc Z123 fun n3 => ?_
  refine lE rfl ?_
  refine eStoreL 0 rfl rfl rfl rfl K123 rfl (rfl) ?_
  refine lNil ?_
  refine kThen ?_
  refine kSeq ?_
  refine kSeq ?_
  refine kRegion rfl ?_
  refine lV (yLoad1 rfl O69 (cOwn 3 rfl rfl)) rfl rfl ?_
  refine lE rfl ?_
  refine eCallX rfl (.c rfl .n) C30 (fun w hw => places_any nf w) fun nb _ => ?_
  refine lNil ?_
  refine kThen ?_
  refine kBlock ?_
  refine kRangeC (.ret) [(nb, _)] (plV' f) (plN f) (plN f) (fun i C => ∃ (ks : List Nat) (em : List (Int × Value)) (g : Own), KOk f i ks em g ∧ C = [(n3, blk [.map (some n6)] 123), (n6, mapO .u64 em), (n2, blk [osV g (ks.map rowU).length] 108), (n1, blk [.pointer (some ⟨nf, 0, none⟩)] 69)] ++ osL 71 g) (fun _ => False) [(n3, _), (n6, _), (n2, _), (n1, _)] rfl C53 rfl (.h rfl (.h rfl (.h rfl (.h rfl (.h rfl .n))))) (⟨[], [], .e none, ⟨OS.empty, by simp, fun k => rfl, Nat.le_refl _⟩, rfl⟩) (places1_any y f (useS f) nm nf nb w hb hF) ?_ ?_ ?_ ?_
  · intro l r i C Z hi hC hr
    obtain ⟨ks, em, g, hK, rfl⟩ := hC
    have hO := hK.o
    have hlen := hK.l
    have hlt := atI_lt f hF i
    refine kRegion rfl ?_
    refine lE rfl ?_
    refine eAlloc Z87 fun n4 => ?_
    refine lE rfl ?_
    refine eStoreL 0 rfl rfl rfl rfl K87 rfl (rfl) ?_
    refine lNil ?_
    refine kThen ?_
    refine rBeginI (i := 1) rfl hr.1 ?_
    refine kBlock ?_
    refine kSeq ?_
    refine kDrawE [(0, none), (3, none), (4, none), (5, none)] [] [0, 1, 2, 3, 4, 5, 6] 0 hMix (by kernel_rfl) ?_
    refine .run rfl (yLoad1 rfl O69 (cOwn 6 rfl rfl)) rfl rfl ?_
    refine .run rfl (yNilCheckP rfl) rfl rfl ?_
    refine .run rfl (yFieldAddr rfl F81_2) rfl rfl ?_
    refine .run rfl (yLoad1 rfl O79 (cOldB (hb) rfl)) rfl rfl ?_
    refine .run rfl (yLoadA (vs := [_, _]) rfl A87 (cOwn 0 rfl rfl)) rfl rfl ?_
    refine .run rfl (yvSame (u := u64 (atI f i)) (yLookupP (p := plP f i) HMP79 rfl rfl (fun w hw => ⟨es, Eff.old' hw hk.m, (hk.r _ _).2 id⟩)) (rfl)) rfl rfl ?_
    refine .run rfl (yAssign rfl) rfl rfl ?_
    refine .done ?_
    refine effDone closedSt (hLeft [0, 3, 4, 5] (by kernel_rfl) (.c (fun _ _ hs => hs.ef) (.c (fun _ _ hs => hs.ef) (.c (fun _ _ hs => hs.ef) (.c (fun _ _ hs => hs.ef) .n))))) (by kernel_rfl) ?_
    refine kThen ?_
    refine kSeq ?_
    refine kRegion rfl ?_
    refine lV (yLoad1 rfl O123 (cOwn 3 rfl rfl)) rfl rfl ?_
    refine lV (yMove rfl) rfl rfl ?_
    refine lV (yLookup MP123 ZV4 rfl rfl (fun w hw => hw.blkAt 4 rfl)) rfl rfl ?_
    refine same (t := 18) (u := .bool (decide (atI f i ∈ ks))) rfl (hK.s _) ?_
    refine lV (yNot rfl) rfl rfl ?_
    refine lNil ?_
    refine kThen ?_
    refine splitB (t := 19) rfl (fun h19 => ?_) (fun h19 => ?_)
    · refine kIfT rfl ?_
      refine kSeq ?_
      refine kRegion rfl ?_
      refine lV (yLoad1 rfl O123 (cOwn 3 rfl rfl)) rfl rfl ?_
      refine lV (yMove rfl) rfl rfl ?_
      refine lE rfl ?_
      refine eMapUpdate 4 MP123 rfl rfl rfl rfl ?_
      refine lNil ?_
      refine kThen ?_
      refine kRegion rfl ?_
      refine lV (yLoad1 rfl O108 (cOwn 5 rfl rfl)) rfl rfl ?_
      refine lV (yMove rfl) rfl rfl ?_
      refine lE rfl ?_
      refine eBuildSlice (.c rfl .n) (fun w => BS108_1_0 w) fun n24 => ?_
      refine lE rfl ?_
      refine eAppend (gs := g) ([(n24, _), (n4, _), (l, _), (nb, _), (n3, _), (n6, _), (n2, _), (n1, _)] ++ Z) [rowU (atI f i)] AP108 rfl rfl (.h rfl (.h rfl (.h rfl (.h rfl (.h rfl (.h rfl (.h rfl (.h rfl (by exact (show SubP ((Z ++ osL 71 g)) ((osL 71 g ++ Z)) from SubP.comm _ _)))))))))) hO rfl (by simp) (SlN.own 0 rfl rfl) (by simp; rfl) (by simp; omega) (by simp; omega) fun h hh => ?_
      refine same (t := 25) (u := osV h ((ks ++ [atI f i]).map rowU).length) rfl (by rw [List.map_append]; rfl) ?_
      refine lE rfl ?_
      refine eStoreL 6 rfl rfl rfl rfl K108 rfl (rfl) ?_
      refine lNil ?_
      refine kInN ?_
      exact rNormalI 2 rfl hr ([(n3, _), (n6, _), (n2, _), (n1, _)] ++ osL 71 h) ⟨ks ++ [atI f i], mPut em ((atI f i : Nat) : Int) (.bool true), h, hK.more (by rw [List.map_append]; exact hh), rfl⟩ (.k rfl (.k rfl (.h rfl (.h rfl (.h rfl (.h rfl (.h rfl (.h rfl (by exact (show SubP ((osL 71 h ++ Z)) ((Z ++ osL 71 h)) from SubP.comm _ _))))))))))
    · have hmem : atI f i ∈ ks := by simpa using h19
      refine kIfF rfl ?_
      refine kSkip ?_
      refine kInN ?_
      exact rNormalI 1 rfl hr ([(n3, _), (n6, _), (n2, _), (n1, _)] ++ osL 71 g) ⟨ks, em, g, hK.same hmem, rfl⟩ (.k rfl (.h rfl (.h rfl (.h rfl (.h rfl (.h rfl (.h rfl .r)))))))
  · exact fun h => absurd h (Nat.lt_irrefl _)
  · intro _ C hC r l o
    obtain ⟨ks, em, g, hK, rfl⟩ := hC
    refine kInN ?_
    refine kThen ?_
    refine kSeq ?_
    refine kRegion rfl ?_
    refine lV (yLoad1 rfl O108 (cOwn 5 rfl rfl)) rfl rfl ?_
    refine lE rfl ?_
    refine eStoreL 5 rfl rfl rfl rfl K108 rfl (rfl) ?_
    refine lNil ?_
    refine kThen ?_
    refine kRet ?_
    refine fMark 1 rfl (.inl rfl) ?_
    refine fRet rfl (.c1 rfl O108 (cOwn 5 rfl rfl) .n) ?_
    exact endX (g, ks) ⟨hK.o, Nat.le_trans hK.l hpn, hK.m⟩ rfl rfl (.k rfl (.k rfl (.k rfl (.k rfl (.k rfl (.k rfl (.k rfl .r)))))))
  · exact fun h => absurd h (Nat.lt_irrefl _)
/-- Do all places have enough plates of a set. -/
def listB (f : Fld) (s : Nat) : Bool := decide (∀ i, i < plN f → servB f (atI f i &&& s) = true)
theorem listB_any {f : Fld} {s : Nat} {ks : List Nat} (h : ∀ k, k ∈ ks ↔ ∃ i, i < plN f ∧ atI f i = k) : (!ks.any fun k => !servB f (k &&& s)) = listB f s := by
  unfold listB
  rw [Bool.eq_iff_iff, Bool.not_eq_true', List.any_eq_false, decide_eq_true_iff]
  constructor
  · intro hk i hi
    have := hk (atI f i) ((h _).2 ⟨i, hi, rfl⟩)
    simpa using this
  · intro hk k hm
    obtain ⟨i, hi, rfl⟩ := (h k).1 hm
    simp [hk i hi]
set_option maxRecDepth 100000 in
theorem isList11_any (n1 nt k s : Nat) (w : World) (hk : InK w nf nm es y f) (hF : FldOk f) (hG : f.times = 1 ∨ 1 ≤ f.gap) (h1 : w.heap[n1]? = some (blk [.pointer (some ⟨nf, 0, none⟩)] 69)) (ht : w.heap[nt]? = some (blk [u64 s] 71)) (hkl : k < 8192) (hsl : s < 8192) :
    Calls Try.prog 51 [u64 k, .pointer (some ⟨n1, 0, none⟩), .pointer (some ⟨nt, 0, none⟩)].toArray w (Ret w (.bool (!servB f (k &&& s)))) := by
  have hb := hk.b
  have hle := Nat.and_le_left (n := k) (m := s)
  refine fEnter Try.func51 rfl Try.ntmps51 rfl ?_
  refine kSeq ?_
  refine kRegion rfl ?_
  refine lV (yAssign rfl) rfl rfl ?_
  refine lNil ?_
  refine kThen ?_
  refine kSeq ?_
  refine kRegion rfl ?_
  refine lV (yLoad1 rfl O69 (cOldB (h1) rfl)) rfl rfl ?_
  refine lV (yMove rfl) rfl rfl ?_
  refine lV (yLoad1 rfl O71 (cOldB (ht) rfl)) rfl rfl ?_
  refine lV (yAnd rfl rfl rfl (by omega) (by omega)) rfl rfl ?_
  refine lV (yCall rfl (.c rfl (.c rfl .n)) C31 (fun w hw => serves_any y f (useS f) nm nf (k &&& s) w (Eff.old' hw hb) (hk.p.eff0 hw) hF hG (by omega))) rfl rfl ?_
  refine lV (yNot rfl) rfl rfl ?_
  refine lV (yAssign rfl) rfl rfl ?_
  refine lNil ?_
  refine kThen ?_
  refine kRet ?_
  refine fRet rfl (.t rfl .n) (endRet ?_)
  rfl
set_option maxRecDepth 100000 in
theorem isList1_any (n1 n3 s c : Nat) (a : Option Addr) (ks : List Nat) (w : World) (hk : InK w nf nm es y f) (hF : FldOk f) (hG : f.times = 1 ∨ 1 ≤ f.gap) (h1 : w.heap[n1]? = some (blk [.pointer (some ⟨nf, 0, none⟩)] 69)) (h3 : w.heap[n3]? = some (blk [.slice a ks.length c] 108))
    (hs : SlE w a ks.length 1 (fun i => rowU (ks.getD i 0))) (hm : ∀ k, k ∈ ks ↔ ∃ i, i < plN f ∧ atI f i = k) (hln : ks.length ≤ 1089) (hsl : s < 8192) :
    Calls Try.prog 49 [u64 s, .pointer (some ⟨n3, 0, none⟩), .pointer (some ⟨n1, 0, none⟩)].toArray w (Ret w (.bool (listB f s))) := by
  refine fEnter Try.func49 rfl Try.ntmps49 rfl ?_
  refine kSeq ?_
  refine kRegion rfl ?_
  refine lE rfl ?_
  refine eBox1 rfl rfl fun n3b => ?_
  refine lV (yAssign rfl) rfl rfl ?_
  refine lNil ?_
  refine kThen ?_
  refine kSeq ?_
  refine kRegion rfl ?_
  refine lV (yLoad1 rfl O108 (cOldB (h3) rfl)) rfl rfl ?_
  refine lV (yMakeFunc .n (.c rfl (.c rfl .n))) rfl rfl ?_
  refine lV (yCall rfl (.c rfl (.c rfl .n)) C50 (fun w hw => containsUn_any _ _ _ 51 _ w ks (fun k => !servB f (k &&& s)) rfl (by omega) (hs.eff0 hw) C51 (fun w' hw' k hkm => isList11_any y f nm nf es n1 n3b k s w' ((hk.eff hw).eff hw') hF hG (Eff.old' hw' (Eff.old' hw h1)) (Eff.old' hw' (hw.blkAt 0 rfl)) (by obtain ⟨i, _, e⟩ := (hm k).1 hkm; rw [← e]; exact atI_lt f hF i) hsl))) rfl rfl ?_
  refine lV (yNot rfl) rfl rfl ?_
  refine lV (yAssign rfl) rfl rfl ?_
  refine lNil ?_
  refine kThen ?_
  refine kRet ?_
  refine fRet rfl (.t rfl .n) (endRet ?_)
  simp only [packV]; rw [listB_any hm]
set_option maxRecDepth 100000 in
theorem isList_any (w : World) (hk : InK w nf nm es y f) (hF : FldOk f) : Calls Try.prog 26 [.pointer (some ⟨nf, 0, none⟩)].toArray w
    (RetX w (fun x : (Own × List Nat) × Nat × Nat => OS 1 x.1.1 (x.1.2.map rowU) ∧ x.1.2.length ≤ 1089 ∧ ∀ k, k ∈ x.1.2 ↔ ∃ i, i < plN f ∧ atI f i = k) (fun x => .func (.func 49) [].toArray [.pointer (some ⟨x.2.1, 0, none⟩), .pointer (some ⟨x.2.2, 0, none⟩)].toArray) (fun _ => [])
      (fun x => [(x.2.1, blk [osV x.1.1 (x.1.2.map rowU).length] 108), (x.2.2, blk [.pointer (some ⟨nf, 0, none⟩)] 69)] ++ osL 71 x.1.1)) := by
  have hb := hk.b
  refine fEnter Try.func26 rfl Try.ntmps26 rfl ?_
  refine kSeq ?_
  refine kRegion rfl ?_
  refine lE rfl ?_
  refine eBox1 rfl rfl fun n1 => ?_
  refine lV (yAssign rfl) rfl rfl ?_
  refine lNil ?_
  refine kThen ?_
  refine kSeq ?_
  refine kRegion rfl ?_
  refine lV (yLoad1 rfl O69 (cOwn 0 rfl rfl)) rfl rfl ?_
  refine lE rfl ?_
  refine eCallO rfl (.c rfl .n) C48 (fun w hw => kinds_any y f nm nf es w (hk.eff hw) hF) fun x hx => ?_
  obtain ⟨g, ks⟩ := x
  dsimp only at hx ⊢
  refine lE rfl ?_
  refine eAlloc Z108 fun n3 => ?_
  refine lE rfl ?_
  refine eStoreL 0 rfl rfl rfl rfl K108 rfl (rfl) ?_
  refine lNil ?_
  refine kThen ?_
  refine kSeq ?_
  refine kRegion rfl ?_
  refine lV (yMakeFunc .n (.c rfl (.c rfl .n))) rfl rfl ?_
  refine lV (yAssign rfl) rfl rfl ?_
  refine lNil ?_
  refine kThen ?_
  refine kRet ?_
  refine fRet rfl (.t rfl .n) ?_
  exact endX ((g, ks), (n3, n1)) hx rfl rfl .r
end
end Go.Proofs.Ytdpeifbejeflhaa
