/-
  Walk: PlateTrue.
-/
import Derived.Test.YtlcdohhhhlhpmaaId
namespace Go.Proofs.Ytlcdohhhhlhpmaa
open ZW

theorem forgetM {W w w' : World} {M2 L L2 : Heap} (h : Eff W [] L w) (k : Eff w M2 L2 w') (hm : ∀ p ∈ M2, W.heap.size ≤ p.1) : Eff W [] L2 w' := by
  refine ⟨k.os.trans h.os, k.tape.trans h.tape, k.output.trans h.output, Nat.le_trans h.size k.size, fun j hj _ => ?_, fun p hp => k.own p (by simp at hp; simp [hp]), fun p hp => Nat.le_trans h.size (k.new p hp), fun p hp => by simp at hp, ?_⟩
  · rw [k.frame j (Nat.lt_of_lt_of_le hj h.size) fun p hp e => by have := hm p hp; omega]
    exact h.frame j hj (by simp)
  · have := k.nd
    rw [List.map_append, List.nodup_append] at this
    simpa using this.2.1
theorem two_new {W w : World} {na nb : Nat} {o o' o2 o3 : Obj} (hw : Eff W [] [(na, o), (nb, o')] w) : ∀ p ∈ ([(na, o2), (nb, o3)] : Heap), W.heap.size ≤ p.1 := by
  intro p hp
  simp only [List.mem_cons, List.not_mem_nil, or_false] at hp
  rcases hp with rfl | rfl
  · exact hw.new (na, o) (by simp)
  · exact hw.new (nb, o') (by simp)
theorem drawOk_of {W w : World} {na nb : Nat} {a : Option Addr} {l : List Nat} {o o' : Obj} (hw : Eff W [] [(na, o), (nb, o')] w) (hs : SlE W a l.length 1 (l16C l)) (h0 : 0 < l.length) (hq : ∀ x ∈ l, x < 65536) : DrawOk na nb a l := by
  have h1 : W.heap.size ≤ na := hw.new (na, o) (by simp)
  have h2 : W.heap.size ≤ nb := hw.new (nb, o') (by simp)
  have hnd := hw.nd
  simp at hnd
  have hb := sl_lt hs h0
  exact ⟨hnd, by omega, by omega, h0, hq⟩
set_option maxRecDepth 100000 in
theorem draws_any (a : Option Addr) (c n : Nat) (w : World) : Calls Try.prog 36 [.slice a n c].toArray w
    (RetX w (fun _ : Nat × Nat => True) (fun x => drawF x.1 x.2) (fun _ => []) (fun x => [(x.1, blk [i64 0] 3), (x.2, blk [.slice a n c] 43)])) := by
  refine fEnter Try.func36 rfl Try.ntmps36 rfl ?_
  refine kSeq ?_
  refine kRegion rfl ?_
  refine lE rfl ?_
  refine eBox1 rfl rfl fun n1 => ?_
  refine lV (yAssign rfl) rfl rfl ?_
  refine lNil ?_
  refine kThen ?_
  refine kSeq ?_
  refine kRegion rfl ?_
  refine lE rfl ?_
  refine eAlloc Z3 fun n3 => ?_
  refine lE rfl ?_
  refine eStoreL 0 rfl rfl rfl rfl K3 rfl (rfl) ?_
  refine lNil ?_
  refine kThen ?_
  refine kSeq ?_
  refine kRegion rfl ?_
  refine lV (yMakeFunc .n (.c rfl (.c rfl .n))) rfl rfl ?_
  refine lV (yAssign rfl) rfl rfl ?_
  refine lNil ?_
  refine kThen ?_
  refine kRet ?_
  refine fRet rfl (.t rfl .n) ?_
  exact endX (n3, n1) trivial rfl rfl .r
set_option maxHeartbeats 8000000 in
set_option maxRecDepth 100000 in
theorem ptrue_any (a : Option Addr) (c : Nat) (l : List Nat) (w : World) (hl : SlE w a l.length 1 (l16C l)) (hq : ∀ x ∈ l, x < 65536) : Calls Try.prog 6 [.slice a l.length c].toArray w (Ret w (.bool true)) := by
  refine fEnter Try.func6 rfl Try.ntmps6 rfl ?_
  refine kSeq ?_
  refine kRegion rfl ?_
  refine lV (yAssign rfl) rfl rfl ?_
  refine lNil ?_
  refine kThen ?_
  refine kSeq ?_
  refine kSeq ?_
  refine kRegion rfl ?_
  refine lV (yMove rfl) rfl rfl ?_
  refine lV (yLen rfl S43) rfl rfl ?_
  refine lV (yEql rfl rfl) rfl rfl ?_
  refine split (t := 32) rfl (fun h32 => ?_) (fun h32 => ?_)
  · refine lNil ?_
    refine kThen ?_
    refine kIfT rfl ?_
    refine kSeq ?_
    refine kRegion rfl ?_
    refine lV (yCall rfl .n C14 (fun w hw => alive_any w)) rfl rfl ?_
    refine lV (yAssign rfl) rfl rfl ?_
    refine lNil ?_
    refine kThen ?_
    refine kRet ?_
    refine kThenR ?_
    refine fRet rfl (.t rfl .n) (endRet ?_)
    rfl
  · refine lNil ?_
    refine kThen ?_
    refine kIfF rfl ?_
    refine kSkip ?_
    refine kThen ?_
    refine kSeq ?_
    refine kRegion rfl ?_
    refine lV (yMove rfl) rfl rfl ?_
    refine lE rfl ?_
    refine eCallO rfl (.c rfl .n) C36 (fun w hw => draws_any a c l.length w) fun x _ => ?_
    obtain ⟨na, nb⟩ := x
    dsimp only
    refine lE rfl ?_
    refine eCallM (fun _ => []) (fun x => E3 x.g1 x.g2 x.g3) rfl (.c rfl .n) C35 (fun w hw => made_any na nb a c l w (hw.blkAt 0 rfl) ⟨hw.blkAt 1 rfl, hl.eff0 hw⟩ (drawOk_of hw hl (by omega) hq)) (fun y w w' _ h k => forgetM h k (two_new h)) fun x hx => ?_
    obtain ⟨lh, st, s, co, im, sk, g1, g2, g3, k⟩ := x
    obtain ⟨hT, hB, o1, o2, o3⟩ := hx
    dsimp only at hT hB o1 o2 o3 ⊢
    obtain ⟨p, hp⟩ : ∃ p : Plt, p = ⟨lh, st⟩ := ⟨_, rfl⟩
    obtain ⟨B, hBB⟩ : ∃ B : Heap, E3 g1 g2 g3 = B := ⟨_, rfl⟩
    rw [hBB, ← hp]
    rw [← hp] at hT
    have hst : st = p.st := by rw [hp]
    rw [hst] at hB o1
    have b1 : SubP (osL 58 g1) B := hBB ▸ SubP.leftOf (SubP.leftA _ _)
    have b2 : SubP (osL 45 g2) B := hBB ▸ SubP.leftOf SubP.tail
    have b3 : SubP (osL 45 g3) B := hBB ▸ SubP.tail
    have hin : ∀ w', Eff w [] B w' → InP w' (osA g1, osC g1) p := fun w' hw' => OS.rowsE (f := rowS) star0 o1 hw' b1
    have hl10 := hT.ok.n
    have hL6 : p.st.length ≤ 1000000 := by omega
    have hil := hT.im_len
    have hsl := hT.sk_len
    obtain ⟨z, hz⟩ : ∃ z, z = scaleE p := ⟨_, rfl⟩
    have ts := true_scale hT
    rw [← hz] at ts
    rw [List.length_map, List.length_map]
    refine lV (yMove rfl) rfl rfl ?_
    refine lV (yExtract rfl rfl) rfl rfl ?_
    refine lV (yExtract rfl rfl) rfl rfl ?_
    refine lV (yExtract rfl rfl) rfl rfl ?_
    refine lV (yExtract rfl rfl) rfl rfl ?_
    refine lV (yExtract rfl rfl) rfl rfl ?_
    refine lE rfl ?_
    refine eAlloc Z26 fun n3 => ?_
    refine lE rfl ?_
    refine eAlloc Z45 fun n5 => ?_
    refine lE rfl ?_
    refine eStoreL 1 rfl rfl rfl rfl K26 rfl (rfl) ?_
    refine lV (yAssign rfl) rfl rfl ?_
    refine lE rfl ?_
    refine eStoreL 0 rfl rfl rfl rfl K45 rfl (rfl) ?_
    refine lV (yAssign rfl) rfl rfl ?_
    refine lV (yAssign rfl) rfl rfl ?_
    refine lNil ?_
    refine kThen ?_
    refine kSeq ?_
    refine kRegion rfl ?_
    refine lV (yLoadA (vs := [_, _, _]) rfl A26 (cOwn 1 rfl rfl)) rfl rfl ?_
    refine lV (yCall rfl (.c rfl .n) C15 (fun w hw => scale_any (osA g1, osC g1) p w (hin w (hw.sub (.d 0 (.d 0 .r)))))) rfl rfl ?_
    refine same (t := 45) (u := .tuple [.agg [i64 z.1.1, i64 z.1.2].toArray, i64 0].toArray) rfl (by rw [← ts.1, ← hz]) ?_
    refine lV (yMove rfl) rfl rfl ?_
    refine lV (yExtract rfl rfl) rfl rfl ?_
    refine lV (yExtract rfl rfl) rfl rfl ?_
    refine lE rfl ?_
    refine eAlloc Z23 fun n8 => ?_
    refine lE rfl ?_
    refine eStoreL 0 rfl rfl rfl rfl K23 rfl (rfl) ?_
    refine lV (yAssign rfl) rfl rfl ?_
    refine lNil ?_
    refine kThen ?_
    refine kSeq ?_
    refine kRegion rfl ?_
    refine lV (yLoadA (vs := [_, _, _]) rfl A26 (cOwn 2 rfl rfl)) rfl rfl ?_
    refine lV (yCall rfl (.c rfl .n) C26 (fun w hw => clash_any (osA g1, osC g1) p w (hin w (hw.sub (.d 0 (.d 0 (.d 0 .r))))))) rfl rfl ?_
    refine same (t := 50) (u := .tuple [i64 0, i64 0].toArray) rfl (by rw [true_clash hT]) ?_
    refine lV (yMove rfl) rfl rfl ?_
    refine lV (yExtract rfl rfl) rfl rfl ?_
    refine lV (yExtract rfl rfl) rfl rfl ?_
    refine lV (yAssign rfl) rfl rfl ?_
    refine lV (yAssign rfl) rfl rfl ?_
    refine lNil ?_
    refine kThen ?_
    refine kSeq ?_
    refine kRegion rfl ?_
    refine lV (yLoadA (vs := [_, _, _]) rfl A26 (cOwn 2 rfl rfl)) rfl rfl ?_
    refine lV (yCall rfl (.c rfl .n) C28 (fun w hw => drop_any (osA g1, osC g1) p w (hin w (hw.sub (.d 0 (.d 0 (.d 0 .r))))))) rfl rfl ?_
    refine same (t := 55) (u := .tuple [i64 0, i64 0].toArray) rfl (by rw [true_drop hT]) ?_
    refine lV (yMove rfl) rfl rfl ?_
    refine lV (yExtract rfl rfl) rfl rfl ?_
    refine lV (yExtract rfl rfl) rfl rfl ?_
    refine lV (yAssign rfl) rfl rfl ?_
    refine lV (yAssign rfl) rfl rfl ?_
    refine lNil ?_
    refine kThen ?_
    refine kSeq ?_
    refine kSeq ?_
    refine kRegion rfl ?_
    refine lV (yMove rfl) rfl rfl ?_
    refine lV (yNeq rfl rfl) rfl rfl ?_
    refine knownN (t := 59) rfl (by simp) ?_
    refine lV (yMove rfl) rfl rfl ?_
    refine lGY rfl rfl rfl (oV (yMove rfl) rfl ?_)
    refine lGY rfl rfl rfl (oV (yLoadA (vs := [_, _]) rfl A23 (cOwn 0 rfl rfl)) rfl ?_)
    refine lGY rfl rfl rfl (oV (yCall rfl (.c rfl (.c rfl .n)) C37 (fun w hw => inside_any _ _ _ w)) rfl ?_)
    refine knownB (t := 63) (c := true) rfl (decide_eq_true ts.2) ?_
    refine lGY rfl rfl rfl (oV (yNot rfl) rfl ?_)
    refine lV (yPickF rfl rfl) rfl rfl ?_
    refine lV (yMove rfl) rfl rfl ?_
    refine lGY rfl rfl rfl (oV (yMove rfl) rfl ?_)
    refine lGY rfl rfl rfl (oV (yNeq rfl rfl) rfl ?_)
    refine knownN (t := 68) rfl (by simp) ?_
    refine lV (yPickF rfl rfl) rfl rfl ?_
    refine lV (yMove rfl) rfl rfl ?_
    refine lGY rfl rfl rfl (oV (yMove rfl) rfl ?_)
    refine lGY rfl rfl rfl (oV (yNeq rfl rfl) rfl ?_)
    refine knownN (t := 72) rfl (by simp) ?_
    refine lV (yPickF rfl rfl) rfl rfl ?_
    refine lV (yMove rfl) rfl rfl ?_
    refine lGY rfl rfl rfl (oV (yMove rfl) rfl ?_)
    refine lGY rfl rfl rfl (oV (yNeq rfl rfl) rfl ?_)
    refine knownN (t := 76) rfl (by simp) ?_
    refine lV (yPickF rfl rfl) rfl rfl ?_
    refine lV (yMove rfl) rfl rfl ?_
    refine lGY rfl rfl rfl (oV (yMove rfl) rfl ?_)
    refine lGY rfl rfl rfl (oV (yNeq rfl rfl) rfl ?_)
    refine knownN (t := 80) rfl (by simp) ?_
    refine lV (yPickF rfl rfl) rfl rfl ?_
    refine lNil ?_
    refine kThen ?_
    refine kIfF rfl ?_
    refine kSkip ?_
    refine kThen ?_
    refine kSeq ?_
    obtain ⟨q, hq'⟩ : ∃ q, q = zeroE p := ⟨_, rfl⟩
    refine kRegion rfl ?_
    refine lV (yLoadA (vs := [_, _, _]) rfl A26 (cOwn 2 rfl rfl)) rfl rfl ?_
    refine lV (yCall rfl (.c rfl .n) C17 (fun w hw => zero_any (osA g1, osC g1) p w (hin w (hw.sub (.d 0 (.d 0 (.d 0 .r))))))) rfl rfl ?_
    refine same (t := 84) (u := .tuple [.agg [i64 q.1.1, i64 q.1.2].toArray, .agg [i64 q.2.1.1, i64 q.2.1.2].toArray, i64 q.2.2].toArray) rfl (by rw [← hq']) ?_
    refine lV (yMove rfl) rfl rfl ?_
    refine lV (yExtract rfl rfl) rfl rfl ?_
    refine lV (yExtract rfl rfl) rfl rfl ?_
    refine lV (yExtract rfl rfl) rfl rfl ?_
    refine lE rfl ?_
    refine eAlloc Z23 fun n14 => ?_
    refine lE rfl ?_
    refine eAlloc Z23 fun n15 => ?_
    refine lE rfl ?_
    refine eStoreL 1 rfl rfl rfl rfl K23 rfl (rfl) ?_
    refine lE rfl ?_
    refine eStoreL 0 rfl rfl rfl rfl K23 rfl (rfl) ?_
    refine lV (yAssign rfl) rfl rfl ?_
    refine lNil ?_
    refine kThen ?_
    refine kSeq ?_
    refine kSeq ?_
    refine kRegion rfl ?_
    refine lV (yLoadA (vs := [_, _, _]) rfl A26 (cOwn 4 rfl rfl)) rfl rfl ?_
    refine lV (yCall rfl (.c rfl .n) C38 (fun w hw => rknown_any (osA g1, osC g1) p w (hin w (hw.sub (.d 0 (.d 0 (.d 0 (.d 0 (.d 0 .r))))))) (by omega))) rfl rfl ?_
    refine lV (yEql rfl rfl) rfl rfl ?_
    refine split (t := 90) rfl (fun h90 => ?_) (fun h90 => ?_)
    · refine lNil ?_
      refine kThen ?_
      refine kIfT rfl ?_
      refine kSeq ?_
      refine kRegion rfl ?_
      refine lV (yMove rfl) rfl rfl ?_
      refine lV (yEql rfl rfl) rfl rfl ?_
      refine known (t := 92) rfl (by rw [hq', true_doubt hT (by omega)]) ?_
      refine lV (yMove rfl) rfl rfl ?_
      refine lGY rfl rfl rfl (oV (yCall rfl .n C14 (fun w hw => alive_any w)) rfl ?_)
      refine lV (yPickT rfl rfl) rfl rfl ?_
      refine lV (yAssign rfl) rfl rfl ?_
      refine lNil ?_
      refine kThen ?_
      refine kRet ?_
      refine kThenR ?_
      refine fRet rfl (.t rfl .n) (endRet ?_)
      rfl
    · refine lNil ?_
      refine kThen ?_
      refine kIfF rfl ?_
      refine kSkip ?_
      refine kThen ?_
      refine kSeq ?_
      refine kSeq ?_
      have hk : knownP p ≠ 0 := by omega
      have tz := true_zero hT hk
      rw [← hq'] at tz
      refine kRegion rfl ?_
      refine lV (yMove rfl) rfl rfl ?_
      refine lV (yNeq rfl rfl) rfl rfl ?_
      refine knownN (t := 97) rfl (fun h => h tz.1) ?_
      refine lV (yMove rfl) rfl rfl ?_
      refine lGY rfl rfl rfl (oV (yFieldAddr rfl F45_0) rfl ?_)
      refine lGY rfl rfl rfl (oV (yLoad1 rfl O3 (cOwn 3 rfl rfl)) rfl ?_)
      refine lGY rfl rfl rfl (oV (yLoadA (vs := [_, _]) rfl A23 (cOwn 1 rfl rfl)) rfl ?_)
      refine lGY rfl rfl rfl (oV (yCall rfl (.c rfl (.c rfl .n)) C37 (fun w hw => inside_any _ _ _ w)) rfl ?_)
      refine knownB (t := 102) (c := true) rfl (decide_eq_true tz.2.1) ?_
      refine lGY rfl rfl rfl (oV (yNot rfl) rfl ?_)
      refine lV (yPickF rfl rfl) rfl rfl ?_
      refine lV (yMove rfl) rfl rfl ?_
      refine lGY rfl rfl rfl (oV (yFieldAddr rfl F45_1) rfl ?_)
      refine lGY rfl rfl rfl (oV (yLoad1 rfl O3 (cOwn 3 rfl rfl)) rfl ?_)
      refine lGY rfl rfl rfl (oV (yLoadA (vs := [_, _]) rfl A23 (cOwn 0 rfl rfl)) rfl ?_)
      refine lGY rfl rfl rfl (oV (yCall rfl (.c rfl (.c rfl .n)) C37 (fun w hw => inside_any _ _ _ w)) rfl ?_)
      refine knownB (t := 109) (c := true) rfl (decide_eq_true tz.2.2) ?_
      refine lGY rfl rfl rfl (oV (yNot rfl) rfl ?_)
      refine lV (yPickF rfl rfl) rfl rfl ?_
      refine lNil ?_
      refine kThen ?_
      refine kIfF rfl ?_
      refine kSkip ?_
      refine kThen ?_
      refine kSeq ?_
      refine kSeq ?_
      refine kRegion rfl ?_
      refine lV (yMove rfl) rfl rfl ?_
      refine lV (yLen rfl S46) rfl rfl ?_
      refine lV (yMove rfl) rfl rfl ?_
      refine lNil ?_
      refine kThen ?_
      refine kBlock ?_
      refine kLoopX (ι := Nat) (fun i => i ≤ sk.length) (fun i => [(114, i64 (i : Nat))]) [(3, _), (5, _), (6, _), (7, _), (112, _), (113, _)] (fun i => []) (fun i => B) [(n15, _), (n14, _), (n8, _), (n5, _), (n3, _)] (fun i => sk.length - i) 0 (Nat.zero_le _) rfl (.c rfl .n) (.c rfl (.c rfl (.c rfl (.c rfl (.c rfl (.c rfl .n)))))) (.c 0 rfl (.c 0 rfl (.c 0 rfl (.c 0 rfl (.c 0 rfl .r))))) ?_
      rintro i hi
      refine kSeq ?_
      refine kRegion rfl ?_
      refine lV (yLss rfl rfl) rfl rfl ?_
      refine lNil ?_
      refine kThen ?_
      refine kSeq ?_
      refine split (t := 115) rfl (fun h115 => ?_) (fun h115 => ?_)
      · refine kIfT rfl ?_
        refine kSkip ?_
        refine kThen ?_
        refine kSeq ?_
        refine kBlock ?_
        refine kSeq ?_
        have hi1 : i + 1 ≤ sk.length := by omega
        have hi2 : sk.length - (i + 1) < sk.length - i := by omega
        have hi3 : -9223372036854775808 ≤ (i : Int) + 1 ∧ (i : Int) + 1 ≤ 9223372036854775807 := by omega
        have hil2 : i < p.st.length := by omega
        have hil3 : i < im.length := by omega
        have hb1 := hB i hil2 false
        have hb2 := hB i hil2 true
        simp only [pd, Bool.false_eq_true, if_false, if_true] at hb1 hb2
        have tst := true_star hT hk hil2
        have tf := true_find hT hk hil2 (fun d => by have := hB i hil2 d; omega)
        obtain ⟨e, he⟩ : ∃ e, e = sk.getD i (0, 0) := ⟨_, rfl⟩
        obtain ⟨m, hm⟩ : ∃ m, m = im.getD i (0, 0) := ⟨_, rfl⟩
        rw [← he] at tst tf hb1 hb2
        rw [← hm] at tf
        obtain ⟨r, hr⟩ : ∃ r, r = starE p (i : Nat) := ⟨_, rfl⟩
        obtain ⟨fr, hfr⟩ : ∃ fr, fr = findE p e.1 e.2 := ⟨_, rfl⟩
        rw [← hr] at tst
        rw [← hfr] at tf
        refine kRegion rfl ?_
        refine lV (yMove rfl) rfl rfl ?_
        refine lV (yIndexS  rfl rfl S46 ((fun w hw => OS.rowsE (f := rowE) (0, 0) o3 ((hw.sub (.d 0 (.d 0 (.d 0 (.d 0 (.d 0 .r)))))).sub b3) .r)) ((by omega))) rfl rfl ?_
        refine lV (yLoadA (vs := [_, _]) rfl A45 (cSl0 ((fun w hw => OS.rowsE (f := rowE) (0, 0) o3 ((hw.sub (.d 0 (.d 0 (.d 0 (.d 0 (.d 0 .r)))))).sub b3) .r)) ((by omega)) rfl)) rfl rfl ?_
        refine same (t := 118) (u := .agg [i64 e.1, i64 e.2].toArray) rfl (by rw [he]) ?_
        refine lE rfl ?_
        refine eAlloc Z45 fun n18 => ?_
        refine lV (yAssign rfl) rfl rfl ?_
        refine lE rfl ?_
        refine eStoreL 0 rfl rfl rfl rfl K45 rfl (rfl) ?_
        refine lNil ?_
        refine kThen ?_
        refine kSeq ?_
        refine kRegion rfl ?_
        refine lV (yLoadA (vs := [_, _, _]) rfl A26 (cOwn 5 rfl rfl)) rfl rfl ?_
        refine lV (yMove rfl) rfl rfl ?_
        refine lV (yCall rfl (.c rfl (.c rfl .n)) C19 (fun w hw => star_any (osA g1, osC g1) p (i : Nat) w (hin w (hw.sub (.d 0 (.d 0 (.d 0 (.d 0 (.d 0 (.d 0 .r)))))))) hL6)) rfl rfl ?_
        refine same (t := 122) (u := .tuple [.agg [i64 r.1.1, i64 r.1.2].toArray, .agg [i64 r.2.1.1, i64 r.2.1.2].toArray, i64 r.2.2].toArray) rfl (by rw [← hr]) ?_
        refine lV (yMove rfl) rfl rfl ?_
        refine lV (yExtract rfl rfl) rfl rfl ?_
        refine lV (yExtract rfl rfl) rfl rfl ?_
        refine lV (yExtract rfl rfl) rfl rfl ?_
        refine lE rfl ?_
        refine eAlloc Z23 fun n19 => ?_
        refine lE rfl ?_
        refine eAlloc Z23 fun n20 => ?_
        refine lE rfl ?_
        refine eStoreL 1 rfl rfl rfl rfl K23 rfl (rfl) ?_
        refine lE rfl ?_
        refine eStoreL 0 rfl rfl rfl rfl K23 rfl (rfl) ?_
        refine lV (yAssign rfl) rfl rfl ?_
        refine lNil ?_
        refine kThen ?_
        refine kSeq ?_
        refine kRegion rfl ?_
        refine lV (yLoadA (vs := [_, _, _]) rfl A26 (cOwn 7 rfl rfl)) rfl rfl ?_
        refine lV (yFieldAddr rfl F45_0) rfl rfl ?_
        refine lV (yLoad1 rfl O3 (cOwn 2 rfl rfl)) rfl rfl ?_
        refine lV (yFieldAddr rfl F45_1) rfl rfl ?_
        refine lV (yLoad1 rfl O3 (cOwn 2 rfl rfl)) rfl rfl ?_
        refine lV (yCall rfl (.c rfl (.c rfl (.c rfl .n))) C24 (fun w hw => find_any (osA g1, osC g1) p e.1 e.2 w (hin w (hw.sub (.d 0 (.d 0 (.d 0 (.d 0 (.d 0 (.d 0 (.d 0 (.d 0 .r)))))))))))) rfl rfl ?_
        refine same (t := 132) (u := .tuple [.agg [i64 fr.1.1, i64 fr.1.2].toArray, .agg [i64 fr.2.1.1, i64 fr.2.1.2].toArray, i64 fr.2.2].toArray) rfl (by rw [← hfr]) ?_
        refine lV (yMove rfl) rfl rfl ?_
        refine lV (yExtract rfl rfl) rfl rfl ?_
        refine lV (yExtract rfl rfl) rfl rfl ?_
        refine lV (yExtract rfl rfl) rfl rfl ?_
        refine lE rfl ?_
        refine eAlloc Z23 fun n22 => ?_
        refine lE rfl ?_
        refine eAlloc Z23 fun n23 => ?_
        refine lE rfl ?_
        refine eStoreL 1 rfl rfl rfl rfl K23 rfl (rfl) ?_
        refine lE rfl ?_
        refine eStoreL 0 rfl rfl rfl rfl K23 rfl (rfl) ?_
        refine lV (yAssign rfl) rfl rfl ?_
        refine lNil ?_
        refine kThen ?_
        refine kSeq ?_
        refine kSeq ?_
        refine kDrawE [(4, none), (5, none), (6, none), (11, none), (12, none), (13, none), (23, none), (25, none), (26, none), (27, none), (33, none), (35, none), (36, none), (37, none)] [] [0, 1, 2, 3, 4, 5, 6, 7, 8, 9, 10, 11, 12, 13, 14, 15, 16, 17, 18, 19, 20, 21, 22, 23, 24, 25, 26, 27, 28, 29, 30, 31, 32, 33, 34, 35, 36, 37, 38, 39] 0 hMix (by kernel_rfl) ?_
        refine .run rfl (yMove rfl) rfl rfl ?_
        refine .run rfl (yvFalse (yNeq rfl rfl) (fun h => h tst.1)) rfl rfl ?_
        refine .run rfl (yMove rfl) rfl rfl ?_
        refine .runG rfl (yFieldAddr rfl F45_0) rfl rfl rfl rfl ?_
        refine .runG rfl (yLoad1 rfl O3 (cOwn 4 rfl rfl)) rfl rfl rfl rfl ?_
        refine .runG rfl (yLoadA (vs := [_, _]) rfl A23 (cOwn 3 rfl rfl)) rfl rfl rfl rfl ?_
        refine .runG rfl (yvIs (c := true) (yCall rfl (.c rfl (.c rfl .n)) C37 (fun w hw => inside_any _ _ _ w)) (decide_eq_true tst.2.1)) rfl rfl rfl rfl ?_
        refine .runG rfl (yNot rfl) rfl rfl rfl rfl ?_
        refine .run rfl (yPickF rfl rfl) rfl rfl ?_
        refine .run rfl (yMove rfl) rfl rfl ?_
        refine .runG rfl (yFieldAddr rfl F45_1) rfl rfl rfl rfl ?_
        refine .runG rfl (yLoad1 rfl O3 (cOwn 4 rfl rfl)) rfl rfl rfl rfl ?_
        refine .runG rfl (yLoadA (vs := [_, _]) rfl A23 (cOwn 2 rfl rfl)) rfl rfl rfl rfl ?_
        refine .runG rfl (yvIs (c := true) (yCall rfl (.c rfl (.c rfl .n)) C37 (fun w hw => inside_any _ _ _ w)) (decide_eq_true tst.2.2)) rfl rfl rfl rfl ?_
        refine .runG rfl (yNot rfl) rfl rfl rfl rfl ?_
        refine .run rfl (yPickF rfl rfl) rfl rfl ?_
        refine .run rfl (yMove rfl) rfl rfl ?_
        refine .runG rfl (yMove rfl) rfl rfl rfl rfl ?_
        refine .runG rfl (yvFalse (yNeq rfl rfl) (fun h => h tf.1)) rfl rfl rfl rfl ?_
        refine .run rfl (yPickF rfl rfl) rfl rfl ?_
        refine .run rfl (yMove rfl) rfl rfl ?_
        refine .runG rfl (yMove rfl) rfl rfl rfl rfl ?_
        refine .runG rfl (yMove rfl) rfl rfl rfl rfl ?_
        refine .runG rfl (yIndexS  rfl rfl S46 ((fun w hw => OS.rowsE (f := rowE) (0, 0) o2 ((hw.sub (.d 0 (.d 0 (.d 0 (.d 0 (.d 0 (.d 0 (.d 0 (.d 0 (.d 0 (.d 0 .r))))))))))).sub b2) .r)) (hil3)) rfl rfl rfl rfl ?_
        refine .runG rfl (yFieldAddr rfl F45_0) rfl rfl rfl rfl ?_
        refine .runG rfl (yvSame (u := i64 m.1) (yLoad1 rfl O3 (cSl ((fun w hw => OS.rowsE (f := rowE) (0, 0) o2 ((hw.sub (.d 0 (.d 0 (.d 0 (.d 0 (.d 0 (.d 0 (.d 0 (.d 0 (.d 0 (.d 0 .r))))))))))).sub b2) .r)) (hil3) rfl)) (by rw [hm])) rfl rfl rfl rfl ?_
        refine .runG rfl (yLoadA (vs := [_, _]) rfl A23 (cOwn 1 rfl rfl)) rfl rfl rfl rfl ?_
        refine .runG rfl (yvIs (c := true) (yCall rfl (.c rfl (.c rfl .n)) C37 (fun w hw => inside_any _ _ _ w)) (decide_eq_true tf.2.1)) rfl rfl rfl rfl ?_
        refine .runG rfl (yNot rfl) rfl rfl rfl rfl ?_
        refine .run rfl (yPickF rfl rfl) rfl rfl ?_
        refine .run rfl (yMove rfl) rfl rfl ?_
        refine .runG rfl (yMove rfl) rfl rfl rfl rfl ?_
        refine .runG rfl (yMove rfl) rfl rfl rfl rfl ?_
        refine .runG rfl (yIndexS  rfl rfl S46 ((fun w hw => OS.rowsE (f := rowE) (0, 0) o2 ((hw.sub (.d 0 (.d 0 (.d 0 (.d 0 (.d 0 (.d 0 (.d 0 (.d 0 (.d 0 (.d 0 .r))))))))))).sub b2) .r)) (hil3)) rfl rfl rfl rfl ?_
        refine .runG rfl (yFieldAddr rfl F45_1) rfl rfl rfl rfl ?_
        refine .runG rfl (yvSame (u := i64 m.2) (yLoad1 rfl O3 (cSl (k := 1) ((fun w hw => OS.rowsE (f := rowE) (0, 0) o2 ((hw.sub (.d 0 (.d 0 (.d 0 (.d 0 (.d 0 (.d 0 (.d 0 (.d 0 (.d 0 (.d 0 .r))))))))))).sub b2) .r)) (hil3) rfl)) (by rw [hm])) rfl rfl rfl rfl ?_
        refine .runG rfl (yLoadA (vs := [_, _]) rfl A23 (cOwn 0 rfl rfl)) rfl rfl rfl rfl ?_
        refine .runG rfl (yvIs (c := true) (yCall rfl (.c rfl (.c rfl .n)) C37 (fun w hw => inside_any _ _ _ w)) (decide_eq_true tf.2.2)) rfl rfl rfl rfl ?_
        refine .runG rfl (yNot rfl) rfl rfl rfl rfl ?_
        refine .run rfl (yPickF rfl rfl) rfl rfl ?_
        refine .done ?_
        refine effDone closedSt (hLeft [4, 5, 6, 11, 12, 13, 23, 25, 26, 27, 33, 35, 36, 37] (by kernel_rfl) (.c (fun _ _ hs => hs.ef) (.c (fun _ _ hs => hs.ef) (.c (fun _ _ hs => hs.ef) (.c (fun _ _ hs => hs.ef) (.c (fun _ _ hs => hs.ef) (.c (fun _ _ hs => hs.ef) (.c (fun _ _ hs => hs.ef) (.c (fun _ _ hs => hs.ef) (.c (fun _ _ hs => hs.ef) (.c (fun _ _ hs => hs.ef) (.c (fun _ _ hs => hs.ef) (.c (fun _ _ hs => hs.ef) (.c (fun _ _ hs => hs.ef) (.c (fun _ _ hs => hs.ef) .n))))))))))))))) (by kernel_rfl) ?_
        refine kThen ?_
        refine kIfF rfl ?_
        refine kSkip ?_
        refine kThen ?_
        refine kSeq ?_
        refine kRegion rfl ?_
        refine lV (yMove rfl) rfl rfl ?_
        refine lV (yLen rfl S46) rfl rfl ?_
        refine lV (yMove rfl) rfl rfl ?_
        refine lNil ?_
        refine kThen ?_
        refine kBlock ?_
        refine kLoopX (ι := Nat) (fun j => j ≤ sk.length) (fun j => [(178, i64 (j : Nat))]) [(3, _), (5, _), (6, _), (7, _), (17, _), (18, _), (112, _), (113, _), (114, _), (176, _), (177, _)] (fun j => []) (fun j => B) [(n18, _), (n15, _), (n14, _), (n8, _), (n5, _), (n3, _)] (fun j => sk.length - j) 0 (Nat.zero_le _) rfl (.c rfl .n) (.c rfl (.c rfl (.c rfl (.c rfl (.c rfl (.c rfl (.c rfl (.c rfl (.c rfl (.c rfl (.c rfl .n))))))))))) (.c 4 rfl (.c 4 rfl (.c 4 rfl (.c 4 rfl (.c 4 rfl (.c 4 rfl (.d 0 (.d 0 (.d 0 (.d 0 .r)))))))))) ?_
        rintro j hj
        refine kSeq ?_
        refine kRegion rfl ?_
        refine lV (yLss rfl rfl) rfl rfl ?_
        refine lNil ?_
        refine kThen ?_
        refine kSeq ?_
        refine split (t := 179) rfl (fun h179 => ?_) (fun h179 => ?_)
        · refine kIfT rfl ?_
          refine kSkip ?_
          refine kThen ?_
          refine kSeq ?_
          refine kBlock ?_
          refine kSeq ?_
          have hj1 : j + 1 ≤ sk.length := by omega
          have hj2 : sk.length - (j + 1) < sk.length - j := by omega
          have hj3 : -9223372036854775808 ≤ (j : Int) + 1 ∧ (j : Int) + 1 ≤ 9223372036854775807 := by omega
          have hjl2 : j < p.st.length := by omega
          have hb3 := hB j hjl2 false
          have hb4 := hB j hjl2 true
          simp only [pd, Bool.false_eq_true, if_false, if_true] at hb3 hb4
          have ta := true_apart hT hil2 hjl2
          obtain ⟨f, hf⟩ : ∃ e, e = sk.getD j (0, 0) := ⟨_, rfl⟩
          rw [← he, ← hf] at ta
          rw [← hf] at hb3 hb4
          obtain ⟨ap, hap⟩ : ∃ r, r = apartE p (i : Nat) (j : Nat) := ⟨_, rfl⟩
          rw [← hap] at ta
          have h64 : In64 (f.1 - e.1) := ⟨by omega, by omega⟩
          have h65 : In64 (f.2 - e.2) := ⟨by omega, by omega⟩
          refine kRegion rfl ?_
          refine lV (yMove rfl) rfl rfl ?_
          refine lV (yIndexS  rfl rfl S46 ((fun w hw => OS.rowsE (f := rowE) (0, 0) o3 ((hw.sub (.d 0 (.d 0 (.d 0 (.d 0 (.d 0 (.d 0 .r))))))).sub b3) .r)) ((by omega))) rfl rfl ?_
          refine lV (yLoadA (vs := [_, _]) rfl A45 (cSl0 ((fun w hw => OS.rowsE (f := rowE) (0, 0) o3 ((hw.sub (.d 0 (.d 0 (.d 0 (.d 0 (.d 0 (.d 0 .r))))))).sub b3) .r)) ((by omega)) rfl)) rfl rfl ?_
          refine same (t := 182) (u := .agg [i64 f.1, i64 f.2].toArray) rfl (by rw [hf]) ?_
          refine lE rfl ?_
          refine eAlloc Z45 fun n26 => ?_
          refine lV (yAssign rfl) rfl rfl ?_
          refine lE rfl ?_
          refine eStoreL 0 rfl rfl rfl rfl K45 rfl (rfl) ?_
          refine lNil ?_
          refine kThen ?_
          refine kSeq ?_
          refine kRegion rfl ?_
          refine lV (yLoadA (vs := [_, _, _]) rfl A26 (cOwn 6 rfl rfl)) rfl rfl ?_
          refine lV (yMove rfl) rfl rfl ?_
          refine lV (yMove rfl) rfl rfl ?_
          refine lV (yCall rfl (.c rfl (.c rfl (.c rfl .n))) C21 (fun w hw => apart_any (osA g1, osC g1) p (i : Nat) (j : Nat) w (hin w (hw.sub (.d 0 (.d 0 (.d 0 (.d 0 (.d 0 (.d 0 (.d 0 .r))))))))) hL6)) rfl rfl ?_
          refine same (t := 187) (u := .tuple [.agg [i64 ap.1.1, i64 ap.1.2].toArray, .agg [i64 ap.2.1.1, i64 ap.2.1.2].toArray, i64 ap.2.2].toArray) rfl (by rw [← hap]) ?_
          refine lV (yMove rfl) rfl rfl ?_
          refine lV (yExtract rfl rfl) rfl rfl ?_
          refine lV (yExtract rfl rfl) rfl rfl ?_
          refine lV (yExtract rfl rfl) rfl rfl ?_
          refine lE rfl ?_
          refine eAlloc Z23 fun n27 => ?_
          refine lE rfl ?_
          refine eAlloc Z23 fun n28 => ?_
          refine lE rfl ?_
          refine eStoreL 1 rfl rfl rfl rfl K23 rfl (rfl) ?_
          refine lE rfl ?_
          refine eStoreL 0 rfl rfl rfl rfl K23 rfl (rfl) ?_
          refine lV (yAssign rfl) rfl rfl ?_
          refine lNil ?_
          refine kThen ?_
          refine kSeq ?_
          refine kRegion rfl ?_
          refine lV (yMove rfl) rfl rfl ?_
          refine lV (yNeq rfl rfl) rfl rfl ?_
          refine knownN (t := 192) rfl (fun h => h ta.1) ?_
          refine lV (yMove rfl) rfl rfl ?_
          refine lGY rfl rfl rfl (oV (yFieldAddr rfl F45_0) rfl ?_)
          refine lGY rfl rfl rfl (oV (yLoad1 rfl O3 (cOwn 2 rfl rfl)) rfl ?_)
          refine lGY rfl rfl rfl (oV (yFieldAddr rfl F45_0) rfl ?_)
          refine lGY rfl rfl rfl (oV (yLoad1 rfl O3 (cOwn 3 rfl rfl)) rfl ?_)
          refine lGY rfl rfl rfl (oV (yArith rfl rfl ((.inr (.inl ⟨rfl, IntWalk.i64_in _ h64⟩)))) rfl ?_)
          refine lGY rfl rfl rfl (oV (yLoadA (vs := [_, _]) rfl A23 (cOwn 1 rfl rfl)) rfl ?_)
          refine lGY rfl rfl rfl (oV (yCall rfl (.c rfl (.c rfl .n)) C37 (fun w hw => inside_any _ _ _ w)) rfl ?_)
          refine knownB (t := 200) (c := true) rfl (decide_eq_true ta.2.1) ?_
          refine lGY rfl rfl rfl (oV (yNot rfl) rfl ?_)
          refine lV (yPickF rfl rfl) rfl rfl ?_
          refine lV (yMove rfl) rfl rfl ?_
          refine lGY rfl rfl rfl (oV (yFieldAddr rfl F45_1) rfl ?_)
          refine lGY rfl rfl rfl (oV (yLoad1 rfl O3 (cOwn 2 rfl rfl)) rfl ?_)
          refine lGY rfl rfl rfl (oV (yFieldAddr rfl F45_1) rfl ?_)
          refine lGY rfl rfl rfl (oV (yLoad1 rfl O3 (cOwn 3 rfl rfl)) rfl ?_)
          refine lGY rfl rfl rfl (oV (yArith rfl rfl ((.inr (.inl ⟨rfl, IntWalk.i64_in _ h65⟩)))) rfl ?_)
          refine lGY rfl rfl rfl (oV (yLoadA (vs := [_, _]) rfl A23 (cOwn 0 rfl rfl)) rfl ?_)
          refine lGY rfl rfl rfl (oV (yCall rfl (.c rfl (.c rfl .n)) C37 (fun w hw => inside_any _ _ _ w)) rfl ?_)
          refine knownB (t := 210) (c := true) rfl (decide_eq_true ta.2.2) ?_
          refine lGY rfl rfl rfl (oV (yNot rfl) rfl ?_)
          refine lV (yPickF rfl rfl) rfl rfl ?_
          refine lNil ?_
          refine kThen ?_
          refine kIfF rfl ?_
          refine kSkip ?_
          refine kInN ?_
          refine kThen ?_
          refine kRegion rfl ?_
          refine lV (yArith rfl rfl ((.inl ⟨rfl, IntWalk.i64_in _ hj3⟩))) rfl rfl ?_
          refine lV (yMove rfl) rfl rfl ?_
          refine lNil ?_
          exact kRoundX (j + 1) (hj1) (hj2) rfl (.c rfl .n) (.c rfl (.c rfl (.c rfl (.c rfl (.c rfl (.c rfl (.c rfl (.c rfl (.c rfl (.c rfl (.c rfl .n))))))))))) (.c 3 rfl (.c 3 rfl (.c 3 rfl (.c 3 rfl (.c 3 rfl (.c 3 rfl (.d 0 (.d 0 (.d 0 .r)))))))))
        · refine kIfF rfl ?_
          refine kExit ?_
          refine kThenX ?_
          refine kThenX ?_
          refine kInX ?_
          refine kInN ?_
          refine kThen ?_
          refine kRegion rfl ?_
          refine lV (yArith rfl rfl ((.inl ⟨rfl, IntWalk.i64_in _ hi3⟩))) rfl rfl ?_
          refine lV (yMove rfl) rfl rfl ?_
          refine lNil ?_
          exact kRoundX (i + 1) (hi1) (hi2) rfl (.c rfl .n) (.c rfl (.c rfl (.c rfl (.c rfl (.c rfl (.c rfl .n)))))) (.c 1 rfl (.c 1 rfl (.c 1 rfl (.c 1 rfl (.c 1 rfl (.d 0 .r))))))
      · refine kIfF rfl ?_
        refine kExit ?_
        refine kThenX ?_
        refine kThenX ?_
        refine kInX ?_
        refine kThen ?_
        refine kSeq ?_
        refine kRegion rfl ?_
        refine lV (yCall rfl .n C14 (fun w hw => alive_any w)) rfl rfl ?_
        refine lV (yAssign rfl) rfl rfl ?_
        refine lNil ?_
        refine kThen ?_
        refine kRet ?_
        refine fRet rfl (.t rfl .n) (endRet ?_)
        rfl
end Go.Proofs.Ytlcdohhhhlhpmaa
