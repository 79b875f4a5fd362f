/-
  Walk: a field is opened.
-/
import Derived.Test.YtdpeifbejeflhaaVc
namespace Go.Proofs.Ytdpeifbejeflhaa
open ZW

abbrev PMap := List ((Int × Int) × Value)
/-- What a map says of each place: the plates ahead of k that have it, and plate k where that is told. -/
def Rep5 (f : Fld) (es : PMap) (k : Nat) (q : Int → Int → Prop) : Prop := ∀ a b, (q a b → pGet es (a, b) (u64 0) = u64 (setB (atB f a b) k ||| 1 * 2 ^ k)) ∧ (¬ q a b → pGet es (a, b) (u64 0) = u64 (setB (atB f a b) k))
theorem Rep5.put {f : Fld} {es : PMap} {k : Nat} {q q' : Int → Int → Prop} (h : Rep5 f es k q) {a b : Int} (hq : ¬ q a b) (hq' : ∀ x y, q' x y ↔ q x y ∨ (x = a ∧ y = b)) : Rep5 f (pPut es (a, b) (u64 (setB (atB f a b) k ||| 1 * 2 ^ k))) k q' := fun x y => by
  rw [pGet_put]
  by_cases he : x = a ∧ y = b
  · obtain ⟨rfl, rfl⟩ := he
    rw [if_pos rfl]
    exact ⟨fun _ => rfl, fun hn => absurd ((hq' x y).2 (.inr ⟨rfl, rfl⟩)) hn⟩
  · rw [if_neg (fun e => he ⟨congrArg Prod.fst e, congrArg Prod.snd e⟩)]
    have := h x y
    exact ⟨fun hx => this.1 (((hq' x y).1 hx).resolve_right he), fun hx => this.2 fun hq => hx ((hq' x y).2 (.inl hq))⟩
theorem Rep5.congr {f : Fld} {es : PMap} {k : Nat} {q q' : Int → Int → Prop} (h : Rep5 f es k q) (hq : ∀ x y, q' x y ↔ q x y) : Rep5 f es k q' := fun x y => by
  have := h x y
  rw [hq x y]; exact this
theorem Rep5.next {f : Fld} {es : PMap} {k : Nat} {q : Int → Int → Prop} (h : Rep5 f es k q) (hq : ∀ a b, q a b ↔ atB f a b k = true) : Rep5 f es (k + 1) fun _ _ => False := fun a b => by
  refine ⟨fun h => h.elim, fun _ => ?_⟩
  have := h a b
  unfold setB
  by_cases hc : atB f a b k = true
  · rw [if_pos hc]; exact this.1 ((hq a b).2 hc)
  · rw [if_neg hc]; exact this.2 fun h => hc ((hq a b).1 h)
theorem u64_or {a b : Nat} (ha : a < 8192) (hb : b < 8192) : a ||| b < 8192 := Nat.or_lt_two_pow (n := 13) ha hb
set_option maxRecDepth 100000 in
set_option maxHeartbeats 4000000 in
theorem open_any (y : Option Addr × Nat) (f : Fld) (w : World) (hm : InF w y f) (hF : FldOk f) : Calls Try.prog 23 [.agg (fldC y f).toArray].toArray w
    (RetX w (fun x : Nat × Nat × PMap => Rep5 f x.2.2 f.ps.length fun _ _ => False) (fun x => .pointer (some ⟨x.1, 0, none⟩)) (fun _ => []) (fun x => [(x.1, blk (fieldC y f (useS f) x.2.1) 81), (x.2.1, mapP x.2.2)])) := by
  have hl := hF.l
  have hE := hF.e
  have hN := hF.n
  unfold spn at hE hN
  refine fEnter Try.func23 rfl Try.ntmps23 rfl ?_
  refine kSeq ?_
  refine kRegion rfl ?_
  refine lE rfl ?_
  refine eBoxA rfl fun n1 => ?_
  refine lV (yAssign rfl) rfl rfl ?_
  refine lNil ?_
  refine kThen ?_
  refine kSeq ?_
  refine kRegion rfl ?_
  refine lV (yLoadA (vs := [_, _, _, _, _, _, _, _, _, _]) rfl A30 (cOwn 0 rfl rfl)) rfl rfl ?_
  refine lV (yCall rfl (.c rfl .n) C41 (fun w hw => isField_ok y f w (hm.eff0 hw) hF)) rfl rfl ?_
  refine lV (yCall rfl (.c rfl (.c rfl .n)) C28 (fun w hw => kmust_ok 1 w)) rfl rfl ?_
  refine lNil ?_
  refine kThen ?_
  refine kSeq ?_
  refine kRegion rfl ?_
  refine lV (yLoadA (vs := [_, _, _, _, _, _, _, _, _, _]) rfl A30 (cOwn 0 rfl rfl)) rfl rfl ?_
  refine lE rfl ?_
  refine eMakeMapP fun nm => ?_
  refine lV (yBuild (.c rfl (.c rfl .n)) (fun w => B81_0_2 w)) rfl rfl ?_
  refine lE rfl ?_
  refine eBoxA rfl fun nf => ?_
  refine lE rfl ?_
  refine eAlloc Z69 fun n3 => ?_
  refine lE rfl ?_
  refine eStoreL 0 rfl rfl rfl rfl K69 rfl (rfl) ?_
  refine lNil ?_
  refine kThen ?_
  refine kSeq ?_
  refine kSeq ?_
  refine kRegion rfl ?_
  refine lV (yFieldAddr rfl F30_0) rfl rfl ?_
  refine lV (yLoad1 rfl O28 (cOwn 3 rfl rfl)) rfl rfl ?_
  refine lV (yLen rfl S28) rfl rfl ?_
  refine lV (yMove rfl) rfl rfl ?_
  refine lNil ?_
  refine kThen ?_
  refine kBlock ?_
  refine kLoopX (ι := Nat × PMap) (fun x => x.1 ≤ f.ps.length ∧ Rep5 f x.2 x.1 (fun _ _ => False)) (fun x => [(18, i64 (x.1 : Nat))]) [(0, _), (1, _), (2, _), (8, _), (9, _), (10, _), (11, _), (12, _), (13, _), (14, _), (3, _), (15, _), (16, _), (17, _)] (fun x => []) (fun x => [(nf, blk (fieldC y f (setB (useB f) x.1) nm) 81), (nm, mapP x.2)]) [(n3, _), (n1, _)] (fun x => f.ps.length - x.1) (0, []) (⟨Nat.zero_le _, fun a b => ⟨fun h => h.elim, fun _ => rfl⟩⟩) rfl (.c rfl .n) (.c rfl (.c rfl (.c rfl (.c rfl (.c rfl (.c rfl (.c rfl (.c rfl (.c rfl (.c rfl (.c rfl (.c rfl (.c rfl (.c rfl .n)))))))))))))) (.c 0 rfl (.c 2 rfl (.c 0 rfl (.c 0 rfl .n)))) ?_
  rintro ⟨i, es⟩ ⟨hi, hes⟩
  dsimp only at hi hes ⊢
  refine kSeq ?_
  refine kRegion rfl ?_
  refine lV (yLss rfl rfl) rfl rfl ?_
  refine lNil ?_
  refine kThen ?_
  refine kSeq ?_
  refine split (t := 19) rfl (fun h19 => ?_) (fun h19 => ?_)
  · refine kIfT rfl ?_
    refine kSkip ?_
    refine kThen ?_
    refine kSeq ?_
    refine kBlock ?_
    refine kSeq ?_
    refine kRegion rfl ?_
    refine lV (yMove rfl) rfl rfl ?_
    refine lV (yIndexS  rfl rfl S28 (hm.r) ((by omega))) rfl rfl ?_
    refine lV (yLoadA (vs := [_, _, _, _, _, _]) rfl A37 (cSl0 (hm.r) ((by omega)) rfl)) rfl rfl ?_
    refine lE rfl ?_
    refine eAlloc Z37 fun n5 => ?_
    refine lV (yAssign rfl) rfl rfl ?_
    refine lE rfl ?_
    refine eStoreL 0 rfl rfl rfl rfl K37 rfl (rfl) ?_
    refine lNil ?_
    obtain ⟨x, hx⟩ : ∃ x, x = f.ps.getD i sky0 := ⟨_, rfl⟩
    have hxm : x ∈ f.ps := hx ▸ getD_mem (by omega) sky0
    have hsk := hF.a x hxm
    unfold skyOk spn at hsk
    have hmu1 : f.ps.length - (i + 1) < f.ps.length - i := by omega
    have hlt := setB_lt (useB f) i
    have hi11 : i ≤ 11 := by omega
    have hp11 : 2 ^ i ≤ 2 ^ 11 := Nat.pow_le_pow_right (by omega) hi11
    rw [← hx]
    refine kThen ?_
    refine kSeq ?_
    refine kSeq ?_
    refine kRegion rfl ?_
    refine lE rfl ?_
    refine eCallX rfl (.n) C43 (fun w hw => tests_any w) fun x0 _ => ?_
    obtain ⟨t1, t2⟩ := x0
    dsimp only
    refine lV (yMakeFunc .n (.c rfl (.c rfl .n))) rfl rfl ?_
    refine lV (yCall rfl (.c rfl (.c rfl .n)) C42 (fun w hw => containsFn_any t1 _ _ _ 44 _ w [0, 1, 2] (fun j => !tstB f x j) rfl (by decide) (sleRows (f := rowT t1) (fun _ => rfl) 0 [0, 1, 2] rfl (hw.blkAt 0 rfl)) C44 (fun w' hw' j hj => tst_call y f _ nm nf t1 n3 n5 x w' j (Eff.old' hw' (hw.blkAt 5 rfl)) (Eff.old' hw' (hw.blkAt 1 rfl)) (Eff.old' hw' (hw.blkAt 3 rfl)) (Eff.old' hw' (hw.blkAt 2 rfl)) (by simp at hj; omega)))) rfl rfl ?_
    refine same (t := 25) (u := .bool (!decide (useP f x))) rfl (congrArg Value.bool (tests_all f x)) ?_
    refine lNil ?_
    refine kThen ?_
    refine splitB (t := 25) rfl (fun h25 => ?_) (fun h25 => ?_)
    · refine kIfT rfl ?_
      refine kExit ?_
      refine kThenX ?_
      refine kInX ?_
      refine kThen ?_
      have hnu : ¬ useP f x := by simpa using h25
      have hround : i + 1 ≤ f.ps.length ∧ Rep5 f es (i + 1) (fun _ _ => False) := ⟨by omega, hes.next fun a b => ⟨fun h => h.elim, fun h => hnu (by unfold atB at h; rw [← hx, decide_eq_true_eq] at h; exact h.1)⟩⟩
      have hset : setB (useB f) (i + 1) = setB (useB f) i := by show (if useB f i = true then _ else _) = _; rw [if_neg (by unfold useB; rw [← hx, decide_eq_true_eq]; exact hnu)]
      rw [← hset]
      refine kRegion rfl ?_
      refine lV (yAdd rfl rfl (by omega)) rfl rfl ?_
      refine lV (yMove rfl) rfl rfl ?_
      refine lNil ?_
      exact kRoundX (i + 1, es) (hround) (hmu1) rfl (.c rfl .n) (.c rfl (.c rfl (.c rfl (.c rfl (.c rfl (.c rfl (.c rfl (.c rfl (.c rfl (.c rfl (.c rfl (.c rfl (.c rfl (.c rfl .n)))))))))))))) (.k rfl (.k rfl (.k rfl (.h rfl (.h rfl (.h rfl (.h rfl .n)))))))
    · have hu : useP f x := by simpa using h25
      have hset : setB (useB f) (i + 1) = setB (useB f) i ||| 1 * 2 ^ i := by show (if useB f i = true then _ else _) = _; rw [if_pos (by unfold useB; rw [← hx, decide_eq_true_eq]; exact hu)]
      refine kIfF rfl ?_
      refine kSkip ?_
      refine kThen ?_
      refine kSeq ?_
      refine forgetP [(nf, _), (nm, _), (n5, _), (n3, _), (n1, _)] (.c 5 rfl (.c 5 rfl (.c 2 rfl (.c 2 rfl (.c 2 rfl .n))))) ?_
      refine kDrawE [(0, none), (3, none)] [] [0, 1, 2, 3, 4, 5, 6, 7, 8] 1 hMix (by kernel_rfl) ?_
      refine .run rfl (yLoad1 rfl O69 (cOwn 3 rfl rfl)) rfl rfl ?_
      refine .run rfl (yNilCheckP rfl) rfl rfl ?_
      refine .run rfl (yFieldAddr rfl F81_1) rfl rfl ?_
      refine .run rfl (yLoad1 rfl O71 (cOwn 0 rfl rfl)) rfl rfl ?_
      refine .run rfl (yMove rfl) rfl rfl ?_
      refine .run rfl (yShl (a := 1) rfl rfl rfl (by omega) (by omega)) rfl rfl ?_
      refine .run rfl (yOr rfl rfl rfl (by omega) (by omega)) rfl rfl ?_
      refine .run rfl (yNilCheckP rfl) rfl rfl ?_
      refine .run rfl (yFieldAddr rfl F81_1) rfl rfl ?_
      refine .done ?_
      refine effStep 9 [] (by kernel_rfl) closedSt (hLeft [0, 3] (by kernel_rfl) (.c (fun _ _ hs => hs.ef) (.c (fun _ _ hs => hs.ef) .n))) ?_
      refine .c ?_ .n
      refine effOne rfl (gNone rfl (fStoreL 0 rfl rfl rfl rfl K71 rfl (rfl))) ?_
      refine effDone closedSt (hLeft [] (by kernel_rfl) .n) (by kernel_rfl) ?_
      rw [← hset]
      obtain ⟨A, hA⟩ : ∃ A, A = max x.e.1 f.e.1 := ⟨_, rfl⟩
      obtain ⟨A2, hA2⟩ : ∃ A, A = min x.e.2 f.e.2 := ⟨_, rfl⟩
      obtain ⟨B, hB⟩ : ∃ A, A = max x.n.1 f.n.1 := ⟨_, rfl⟩
      obtain ⟨B2, hB2⟩ : ∃ A, A = min x.n.2 f.n.2 := ⟨_, rfl⟩
      have hat : ∀ a b, atB f a b i = true ↔ (A ≤ a ∧ a ≤ A2) ∧ B ≤ b ∧ b ≤ B2 := fun a b => by
        unfold atB inP; rw [← hx, decide_eq_true_eq, ← hA, ← hA2, ← hB, ← hB2]
        exact ⟨fun h => h.2, fun h => ⟨hu, h⟩⟩
      have bA : 0 ≤ A ∧ A ≤ 32 ∧ 0 ≤ A2 ∧ A2 ≤ 32 ∧ 0 ≤ B ∧ B ≤ 32 ∧ 0 ≤ B2 ∧ B2 ≤ 32 := by omega
      have hAB : A ≤ A2 ∧ B ≤ B2 := by unfold useP at hu; omega
      refine kThen ?_
      refine kSeq ?_
      refine kRegion rfl ?_
      refine lV (yFieldAddr rfl F37_0) rfl rfl ?_
      refine lV (yFieldAddr rfl F24_0) rfl rfl ?_
      refine lV (yLoad1 rfl O3 (cOwn 2 rfl rfl)) rfl rfl ?_
      refine lV (yFieldAddr rfl F30_1) rfl rfl ?_
      refine lV (yFieldAddr rfl F24_0) rfl rfl ?_
      refine lV (yLoad1 rfl O3 (cOwn 4 rfl rfl)) rfl rfl ?_
      refine lV (yMax rfl rfl) rfl rfl ?_
      refine same (t := 41) (u := i64 A) rfl (by rw [hA]) ?_
      refine lV (yAssign rfl) rfl rfl ?_
      refine lNil ?_
      refine kThen ?_
      refine kBlock ?_
      refine kLoopX (ι := Int × PMap) (fun z => (A ≤ z.1 ∧ z.1 ≤ 33) ∧ (A ≤ A2 → z.1 ≤ A2 + 1) ∧ Rep5 f z.2 i (fun a b => (A ≤ a ∧ a < z.1) ∧ B ≤ b ∧ b ≤ B2)) (fun z => [(6, i64 z.1)]) [(0, _), (1, _), (2, _), (8, _), (9, _), (10, _), (11, _), (12, _), (13, _), (14, _), (3, _), (15, _), (16, _), (17, _), (18, _), (19, _), (20, _), (21, _), (22, _), (5, _), (4, _), (23, _), (24, _), (25, _), (26, _), (27, _), (28, _), (29, _), (30, _), (31, _), (32, _), (33, _), (34, _), (35, _), (36, _), (37, _), (38, _), (39, _), (40, _), (41, _)] (fun z => []) (fun z => [(nm, mapP z.2)]) [(nf, _), (n5, _), (n3, _), (n1, _)] (fun z => (33 - z.1).toNat) (A, es) (⟨by dsimp only; omega, fun _ => by dsimp only; omega, hes.congr fun a b => ⟨fun h => by dsimp only at h; omega, fun h => h.elim⟩⟩) rfl (.c rfl .n) (.c rfl (.c rfl (.c rfl (.c rfl (.c rfl (.c rfl (.c rfl (.c rfl (.c rfl (.c rfl (.c rfl (.c rfl (.c rfl (.c rfl (.c rfl (.c rfl (.c rfl (.c rfl (.c rfl (.c rfl (.c rfl (.c rfl (.c rfl (.c rfl (.c rfl (.c rfl (.c rfl (.c rfl (.c rfl (.c rfl (.c rfl (.c rfl (.c rfl (.c rfl (.c rfl (.c rfl (.c rfl (.c rfl (.c rfl (.c rfl .n)))))))))))))))))))))))))))))))))))))))) (.c 0 rfl (.c 1 rfl (.c 1 rfl (.c 1 rfl (.c 0 rfl .n))))) ?_
      rintro ⟨a, ea⟩ ⟨ha1, ha2, hea⟩
      dsimp only at ha1 ha2 hea ⊢
      refine kSeq ?_
      refine kSeq ?_
      refine kRegion rfl ?_
      refine lV (yMove rfl) rfl rfl ?_
      refine lV (yFieldAddr rfl F37_0) rfl rfl ?_
      refine lV (yFieldAddr rfl F24_1) rfl rfl ?_
      refine lV (yLoad1 rfl O3 (cOwn 1 rfl rfl)) rfl rfl ?_
      refine lV (yFieldAddr rfl F30_1) rfl rfl ?_
      refine lV (yFieldAddr rfl F24_1) rfl rfl ?_
      refine lV (yLoad1 rfl O3 (cOwn 3 rfl rfl)) rfl rfl ?_
      refine lV (yMin rfl rfl) rfl rfl ?_
      refine same (t := 49) (u := i64 A2) rfl (by rw [hA2]) ?_
      refine lV (yLeq rfl rfl) rfl rfl ?_
      refine split (t := 50) rfl (fun h50 => ?_) (fun h50 => ?_)
      · refine lNil ?_
        refine kThen ?_
        refine kIfT rfl ?_
        refine kSkip ?_
        refine kThen ?_
        refine kSeq ?_
        refine kBlock ?_
        refine kSeq ?_
        refine kRegion rfl ?_
        refine lV (yFieldAddr rfl F37_1) rfl rfl ?_
        refine lV (yFieldAddr rfl F24_0) rfl rfl ?_
        refine lV (yLoad1 rfl O3 (cOwn 1 rfl rfl)) rfl rfl ?_
        refine lV (yFieldAddr rfl F30_2) rfl rfl ?_
        refine lV (yFieldAddr rfl F24_0) rfl rfl ?_
        refine lV (yLoad1 rfl O3 (cOwn 3 rfl rfl)) rfl rfl ?_
        refine lV (yMax rfl rfl) rfl rfl ?_
        refine same (t := 59) (u := i64 B) rfl (by rw [hB]) ?_
        refine lV (yAssign rfl) rfl rfl ?_
        refine lNil ?_
        refine kThen ?_
        refine kBlock ?_
        refine kLoopX (ι := Int × PMap) (fun z => (B ≤ z.1 ∧ z.1 ≤ 33) ∧ (B ≤ B2 → z.1 ≤ B2 + 1) ∧ Rep5 f z.2 i (fun a' b => (A ≤ a' ∧ (a' < a ∧ b ≤ B2 ∨ a' = a ∧ b < z.1)) ∧ B ≤ b)) (fun z => [(7, i64 z.1)]) [(0, _), (1, _), (2, _), (8, _), (9, _), (10, _), (11, _), (12, _), (13, _), (14, _), (3, _), (15, _), (16, _), (17, _), (18, _), (19, _), (20, _), (21, _), (22, _), (5, _), (4, _), (23, _), (24, _), (25, _), (26, _), (27, _), (28, _), (29, _), (30, _), (31, _), (32, _), (33, _), (34, _), (35, _), (36, _), (37, _), (38, _), (39, _), (40, _), (41, _), (6, _), (42, _), (43, _), (44, _), (45, _), (46, _), (47, _), (48, _), (49, _), (50, _), (53, _), (54, _), (55, _), (56, _), (57, _), (58, _), (59, _)] (fun z => []) (fun z => [(nm, mapP z.2)]) [(nf, _), (n5, _), (n3, _), (n1, _)] (fun z => (33 - z.1).toNat) (B, ea) (⟨by dsimp only; omega, fun _ => by dsimp only; omega, hea.congr fun a b => by dsimp only; omega⟩) rfl (.c rfl .n) (.c rfl (.c rfl (.c rfl (.c rfl (.c rfl (.c rfl (.c rfl (.c rfl (.c rfl (.c rfl (.c rfl (.c rfl (.c rfl (.c rfl (.c rfl (.c rfl (.c rfl (.c rfl (.c rfl (.c rfl (.c rfl (.c rfl (.c rfl (.c rfl (.c rfl (.c rfl (.c rfl (.c rfl (.c rfl (.c rfl (.c rfl (.c rfl (.c rfl (.c rfl (.c rfl (.c rfl (.c rfl (.c rfl (.c rfl (.c rfl (.c rfl (.c rfl (.c rfl (.c rfl (.c rfl (.c rfl (.c rfl (.c rfl (.c rfl (.c rfl (.c rfl (.c rfl (.c rfl (.c rfl (.c rfl (.c rfl (.c rfl .n))))))))))))))))))))))))))))))))))))))))))))))))))))))))) (.h rfl (.h rfl (.h rfl (.h rfl (.h rfl .n))))) ?_
        rintro ⟨b, eb⟩ ⟨hb1, hb2, heb⟩
        dsimp only at hb1 hb2 heb ⊢
        refine kSeq ?_
        refine kSeq ?_
        refine kRegion rfl ?_
        refine lV (yMove rfl) rfl rfl ?_
        refine lV (yFieldAddr rfl F37_1) rfl rfl ?_
        refine lV (yFieldAddr rfl F24_1) rfl rfl ?_
        refine lV (yLoad1 rfl O3 (cOwn 1 rfl rfl)) rfl rfl ?_
        refine lV (yFieldAddr rfl F30_2) rfl rfl ?_
        refine lV (yFieldAddr rfl F24_1) rfl rfl ?_
        refine lV (yLoad1 rfl O3 (cOwn 3 rfl rfl)) rfl rfl ?_
        refine lV (yMin rfl rfl) rfl rfl ?_
        refine same (t := 67) (u := i64 B2) rfl (by rw [hB2]) ?_
        refine lV (yLeq rfl rfl) rfl rfl ?_
        refine split (t := 68) rfl (fun h68 => ?_) (fun h68 => ?_)
        · refine lNil ?_
          refine kThen ?_
          refine kIfT rfl ?_
          refine kSkip ?_
          refine kThen ?_
          refine kSeq ?_
          refine kBlock ?_
          have hg : pGet eb (a, b) (u64 0) = u64 (setB (atB f a b) i) := (heb a b).2 (by omega)
          obtain ⟨u0, hu0, hs0⟩ := pPut_touch eb (a, b) (u64 (setB (atB f a b) i ||| 1 * 2 ^ i)) (u64 0)
          have hlt2 := setB_lt (atB f a b) i
          have hroundB : (B ≤ b + 1 ∧ b + 1 ≤ 33) ∧ (B ≤ B2 → b + 1 ≤ B2 + 1) ∧ Rep5 f (pPut eb (a, b) (u64 (setB (atB f a b) i ||| 1 * 2 ^ i))) i (fun a' b' => (A ≤ a' ∧ (a' < a ∧ b' ≤ B2 ∨ a' = a ∧ b' < b + 1)) ∧ B ≤ b') :=
            ⟨by omega, fun _ => by omega, heb.put (by omega) fun x y => by omega⟩
          have hmuB : (33 - (b + 1)).toNat < (33 - b).toNat := by omega
          refine kDrawE [(0, none), (3, none)] [(7, (fun w => ∃ es, w.heap[nm]? = some (mapP es) ∧ pGet es (a, b) (u64 0) = u64 (setB (atB f a b) i)))] [0, 1, 2, 3, 4, 5, 6, 7, 8, 9, 10] 3 hMix (by kernel_rfl) ?_
          refine .run rfl (yLoad1 rfl O69 (cOwn 2 rfl rfl)) rfl rfl ?_
          refine .run rfl (yNilCheckP rfl) rfl rfl ?_
          refine .run rfl (yFieldAddr rfl F81_2) rfl rfl ?_
          refine .run rfl (yLoad1 rfl O79 (cOwn 0 rfl rfl)) rfl rfl ?_
          refine .run rfl (yMove rfl) rfl rfl ?_
          refine .run rfl (yMove rfl) rfl rfl ?_
          refine .run rfl (yBuild (.c rfl (.c rfl .n)) (fun w => B87_0_1 w)) rfl rfl ?_
          refine .run rfl (yLookupP (p := (a, b)) HMP79 rfl rfl (fun w hw => hw)) rfl rfl ?_
          refine .run rfl (yMove rfl) rfl rfl ?_
          refine .run rfl (yShl (a := 1) rfl rfl rfl (by omega) (by omega)) rfl rfl ?_
          refine .run rfl (yOr rfl rfl rfl (by omega) (by omega)) rfl rfl ?_
          refine .done ?_
          refine effStep 11 [] (by kernel_rfl) closedSt (hLeft [0, 3, 7] (by kernel_rfl) (.c (fun _ _ hs => hs.ef) (.c (fun _ _ hs => hs.ef) (.c (fun _ _ hs => ⟨eb, hs.ef.blkAt 4 rfl, hg⟩) .n)))) ?_
          refine .c ?_ .n
          refine effOne rfl (gNone rfl (eMapEntryP (p := (a, b)) 4 HMP79 rfl rfl rfl trSelf)) ?_
          refine effStep 12 [] (by kernel_rfl) closedSt (hLeft [7] (by kernel_rfl) (.c (fun _ _ hs => ⟨_, hs.ef.blkAt 4 rfl, (pGet_touch eb (a, b) (u64 0)).trans hg⟩) .n)) ?_
          refine .c ?_ .n
          refine effOne rfl (gNone rfl (fV (yExtract rfl rfl) rfl)) ?_
          refine effStep 13 [] (by kernel_rfl) closedSt (hLeft [7] (by kernel_rfl) (.c (fun _ _ hs => ⟨_, hs.ef.blkAt 4 rfl, (pGet_touch eb (a, b) (u64 0)).trans hg⟩) .n)) ?_
          refine .c ?_ .n
          refine effOne rfl (gNone rfl (eEntryStoreP 4 rfl rfl rfl rfl (hu0) trSelf)) ?_
          refine effDone closedSt (hLeft [] (by kernel_rfl) .n) (by kernel_rfl) ?_
          rw [hs0]
          refine kInN ?_
          refine kThen ?_
          refine kRegion rfl ?_
          refine lV (yMove rfl) rfl rfl ?_
          refine lV (yAdd rfl rfl (by omega)) rfl rfl ?_
          refine lV (yAssign rfl) rfl rfl ?_
          refine lNil ?_
          exact kRoundX (b + 1, pPut eb (a, b) (u64 (setB (atB f a b) i ||| 1 * 2 ^ i))) (hroundB) (hmuB) rfl (.c rfl .n) (.c rfl (.c rfl (.c rfl (.c rfl (.c rfl (.c rfl (.c rfl (.c rfl (.c rfl (.c rfl (.c rfl (.c rfl (.c rfl (.c rfl (.c rfl (.c rfl (.c rfl (.c rfl (.c rfl (.c rfl (.c rfl (.c rfl (.c rfl (.c rfl (.c rfl (.c rfl (.c rfl (.c rfl (.c rfl (.c rfl (.c rfl (.c rfl (.c rfl (.c rfl (.c rfl (.c rfl (.c rfl (.c rfl (.c rfl (.c rfl (.c rfl (.c rfl (.c rfl (.c rfl (.c rfl (.c rfl (.c rfl (.c rfl (.c rfl (.c rfl (.c rfl (.c rfl (.c rfl (.c rfl (.c rfl (.c rfl (.c rfl .n))))))))))))))))))))))))))))))))))))))))))))))))))))))))) (.h rfl (.h rfl (.h rfl (.h rfl (.h rfl .n)))))
        · refine lNil ?_
          refine kThen ?_
          refine kIfF rfl ?_
          refine kExit ?_
          refine kThenX ?_
          refine kThenX ?_
          refine kInX ?_
          refine kInN ?_
          refine kThen ?_
          have hroundA : (A ≤ a + 1 ∧ a + 1 ≤ 33) ∧ (A ≤ A2 → a + 1 ≤ A2 + 1) ∧ Rep5 f eb i (fun a' b' => (A ≤ a' ∧ a' < a + 1) ∧ B ≤ b' ∧ b' ≤ B2) :=
            ⟨by omega, fun _ => by omega, heb.congr fun x y => by omega⟩
          have hmuA : (33 - (a + 1)).toNat < (33 - a).toNat := by omega
          refine kRegion rfl ?_
          refine lV (yMove rfl) rfl rfl ?_
          refine lV (yAdd rfl rfl (by omega)) rfl rfl ?_
          refine lV (yAssign rfl) rfl rfl ?_
          refine lNil ?_
          exact kRoundX (a + 1, eb) (hroundA) (hmuA) rfl (.c rfl .n) (.c rfl (.c rfl (.c rfl (.c rfl (.c rfl (.c rfl (.c rfl (.c rfl (.c rfl (.c rfl (.c rfl (.c rfl (.c rfl (.c rfl (.c rfl (.c rfl (.c rfl (.c rfl (.c rfl (.c rfl (.c rfl (.c rfl (.c rfl (.c rfl (.c rfl (.c rfl (.c rfl (.c rfl (.c rfl (.c rfl (.c rfl (.c rfl (.c rfl (.c rfl (.c rfl (.c rfl (.c rfl (.c rfl (.c rfl (.c rfl .n)))))))))))))))))))))))))))))))))))))))) (.h rfl (.h rfl (.h rfl (.h rfl (.h rfl .n)))))
      · refine lNil ?_
        refine kThen ?_
        refine kIfF rfl ?_
        refine kExit ?_
        refine kThenX ?_
        refine kThenX ?_
        refine kInX ?_
        refine kInN ?_
        refine kThen ?_
        have hround2 : i + 1 ≤ f.ps.length ∧ Rep5 f ea (i + 1) (fun _ _ => False) := ⟨by omega, hea.next fun a' b' => by rw [hat]; omega⟩
        refine kRegion rfl ?_
        refine lV (yAdd rfl rfl (by omega)) rfl rfl ?_
        refine lV (yMove rfl) rfl rfl ?_
        refine lNil ?_
        exact kRoundX (i + 1, ea) (hround2) (hmu1) rfl (.c rfl .n) (.c rfl (.c rfl (.c rfl (.c rfl (.c rfl (.c rfl (.c rfl (.c rfl (.c rfl (.c rfl (.c rfl (.c rfl (.c rfl (.c rfl .n)))))))))))))) (.c 2 rfl (.c 2 rfl (.c 0 rfl (.c 1 rfl .n))))
  · refine kIfF rfl ?_
    refine kExit ?_
    refine kThenX ?_
    refine kThenX ?_
    refine kInX ?_
    refine kThen ?_
    refine kSeq ?_
    refine kRegion rfl ?_
    refine lV (yLoad1 rfl O69 (cOwn 0 rfl rfl)) rfl rfl ?_
    refine lV (yAssign rfl) rfl rfl ?_
    refine lNil ?_
    refine kThen ?_
    refine kRet ?_
    refine fRet rfl (.t rfl .n) ?_
    exact endX (nf, nm, es) (by obtain rfl : i = f.ps.length := (by omega); exact hes) rfl rfl (by obtain rfl : i = f.ps.length := (by omega); exact (.k rfl (.k rfl (.h rfl (.h rfl .n)))))
end Go.Proofs.Ytdpeifbejeflhaa
