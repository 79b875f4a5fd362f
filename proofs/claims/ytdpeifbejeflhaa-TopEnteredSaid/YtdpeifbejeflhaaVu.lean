/-
  Walk: the first way.
-/
import Derived.Test.YtdpeifbejeflhaaVt
namespace Go.Proofs.Ytdpeifbejeflhaa
open ZW

theorem wC_sl {x : Way} {b : Nat} {w : World} (hb : w.heap[b]? = some (blk (wC x) 61)) {n : Nat} (hn : n ≤ 8) : SlE w (some ⟨b, 0, none⟩) n 1 (fun i => rowI (((List.range n).map x).getD i 0)) where
  len _ _ := rfl
  at_ _ := rfl
  cell i j hi hj := by
    obtain rfl : j = 0 := by omega
    have hg : ((List.range n).map x).getD i 0 = x i := by simp [List.getD, hi]
    rw [hg]
    show w.cell? ⟨b, 0 + i * 1 + 0, none⟩ = some (i64 (x i))
    rw [cell_blk hb]
    rcases lt8 (show i < 8 by omega) with rfl | rfl | rfl | rfl | rfl | rfl | rfl | rfl <;> rfl
/-- The first way, as it is told. -/
def fstL (s : Shl) : List Int := (List.range s.n.toNat).map ((rightW s).getD 0 w0)
section
variable (ys yn : Option Addr × Nat) (s : Shl)
set_option maxRecDepth 100000 in
set_option maxHeartbeats 4000000 in
theorem first_ok (w : World) (hm : InSh w ys yn s) (hS : ShlOk s) (hcb : canB s = true) : Calls Try.prog 6 [.agg (shlC ys yn s).toArray].toArray w
    (RetX w (fun g : Own => OS 1 g ((fstL s).map rowI)) (fun g => .tuple [osV g ((fstL s).map rowI).length, i64 0].toArray) (fun _ => []) (fun g => osL 3 g)) := by
  have hn8 := hS.n
  have hpos := of_decide_eq_true hcb
  refine fEnter Try.func6 rfl Try.ntmps6 rfl ?_
  refine kSeq ?_
  refine kRegion rfl ?_
  refine lE rfl ?_
  refine eBoxA rfl fun n1 => ?_
  refine lE rfl ?_
  refine eAlloc Z22 fun n2 => ?_
  refine lE rfl ?_
  refine eAlloc Z33 fun n3 => ?_
  refine lNil ?_
  refine kThen ?_
  refine kSeq ?_
  refine kRegion rfl ?_
  refine lE rfl ?_
  refine eDefer rfl (.c rfl .n) ?_
  refine lNil ?_
  refine kThen ?_
  refine kSeq ?_
  refine kRegion rfl ?_
  refine lV (yLoadA (vs := [_, _, _, _, _]) rfl A27 (cOwn 2 rfl rfl)) rfl rfl ?_
  refine lE rfl ?_
  refine eCallO rfl (.c rfl .n) C15 (fun w hw => topen_any ys yn s w (hm.eff hw) hS) fun x hx => ?_
  obtain ⟨nS, nm, gn, gw⟩ := x
  obtain ⟨hgn, hgw⟩ := hx
  dsimp only at hgn hgw ⊢
  have hIn : ∀ {M L : Heap} {w' : World} {m : Value}, Eff w M L w' → (nS, shBox ys yn s (osV gn (s.ns.map rowN).length) (osV gw ((allW s).map wC).length) m) ∈ M ++ L → (∀ p ∈ osL 98 gn ++ osL 61 gw, p ∈ M ++ L) → InS w' nS ys yn s (osA gn, osC gn) (osA gw, osC gw) m := fun hw h1 h2 =>
    ⟨by have := hw.own _ h1; simpa using this, hgn.rows (f := rowN) note0 fun p hp => hw.own p (h2 p (List.mem_append.2 (.inl hp))), hgw.rows (f := wC) w0 fun p hp => hw.own p (h2 p (List.mem_append.2 (.inr hp)))⟩
  refine lE rfl ?_
  refine eCallW 4 rfl rfl (.c rfl .n) C16 (fun w hw hb => tmust2_ok ys yn s nS nm (osA gn, osC gn) (osA gw, osC gw) w hS (hIn hw (by simp) (fun p hp => by rcases List.mem_append.1 hp with h | h <;> simp [h])) (hw.blkAt 4 rfl) hcb) ?_
  refine lE rfl ?_
  refine eAlloc Z51 fun n4 => ?_
  refine lE rfl ?_
  refine eStoreL 0 rfl rfl rfl rfl K51 rfl (rfl) ?_
  refine lNil ?_
  refine kThen ?_
  refine kSeq ?_
  refine kSeq ?_
  refine kDrawE [(0, none), (1, none), (2, none)] [] [0, 1, 2] 1 hMix (by kernel_rfl) ?_
  refine .run rfl (yLoad1 rfl O51 (cOwn 0 rfl rfl)) rfl rfl ?_
  refine .run rfl (yLoad1 rfl O51 (cOwn 0 rfl rfl)) rfl rfl ?_
  refine .run rfl (yCall rfl (.c rfl .n) C18 (fun w hw => every_any ys yn s nS s.ns.length (osC gn) (osA gn) _ _ w (by have := hw.blkAt 4 rfl; simpa using this) hS.k)) rfl rfl ?_
  refine .done ?_
  refine effStep 3 [] (by kernel_rfl) closedSt (hLeft [0, 1, 2] (by kernel_rfl) (.c (fun _ _ hs => hs.ef) (.c (fun _ _ hs => hs.ef) (.c (fun _ _ hs => hs.ef) .n)))) ?_
  refine .c ?_ .n
  refine effOne rfl (gNone rfl (fCallX rfl (.c rfl (.c rfl .n)) C17 (fun w hw => tright_any nS (2 ^ s.ns.length - 1) w))) ?_
  refine effDone (closedEx fun x3 => closedSt) (hLeft [] (by kernel_rfl) .n) (by kernel_rfl) ?_
  refine trEx fun x3 => ?_
  obtain ⟨⟨na, nb⟩, _⟩ := x3
  dsimp only
  refine kThen ?_
  refine kBlock ?_
  refine kRangeD ((fun w => RtI w na nb nS ys yn s (osA gn, osC gn) (osA gw, osC gw) (.map (some nm)))) (.ret) [] (fun i => wV ((rightW s).getD i w0)) ((rightW s).length) (0) (fun _ C => C = [(nb, blk [u64 (2 ^ s.ns.length - 1)] 58), (na, blk [.pointer (some ⟨nS, 0, none⟩)] 51), (n4, blk [.pointer (some ⟨nS, 0, none⟩)] 51), (n3, blk [i64 0] 33), (n2, blk [.slice none 0 0] 22), (nS, shBox ys yn s (osV gn (s.ns.map rowN).length) (osV gw ((allW s).map wC).length) (.map (some nm)))] ++ (osL 98 gn ++ osL 61 gw)) (fun C => ∃ g : Own, OS 1 g ((fstL s).map rowI) ∧ C = [(n3, blk [i64 0] 33), (n2, blk [osV g ((fstL s).map rowI).length] 22)] ++ osL 3 g) ([(nb, blk [u64 (2 ^ s.ns.length - 1)] 58), (na, blk [.pointer (some ⟨nS, 0, none⟩)] 51), (n4, blk [.pointer (some ⟨nS, 0, none⟩)] 51), (n3, blk [i64 0] 33), (n2, blk [.slice none 0 0] 22), (nS, shBox ys yn s (osV gn (s.ns.map rowN).length) (osV gw ((allW s).map wC).length) (.map (some nm)))] ++ (osL 98 gn ++ osL 61 gw)) rfl C39 rfl (.h rfl (.h rfl (.h rfl (.h rfl (.h rfl (.k rfl (.h rfl (.k rfl .r)))))))) (rfl) (fun i C hC w' L hw => by
    subst hC
    exact ⟨hIn hw (by simp) (fun p hp => by rcases List.mem_append.1 hp with h | h <;> simp [h]), hw.own (na, blk [.pointer (some ⟨nS, 0, none⟩)] 51) (by simp), hw.own (nb, blk [u64 (2 ^ s.ns.length - 1)] 58) (by simp)⟩) (right1_any ys yn s nS w hS na nb (osA gn, osC gn) (osA gw, osC gw) (.map (some nm))) ?_ ?_ ?_ ?_
  · exact fun l r i C Z hi => absurd hi (Nat.not_lt_zero _)
  · intro _ l r C Z hC hr
    subst hC
    refine kRegion rfl ?_
    refine lE rfl ?_
    refine eAlloc Z61 fun n5 => ?_
    refine lE rfl ?_
    refine eStoreL 0 rfl rfl rfl rfl K61 rfl (rfl) ?_
    refine lNil ?_
    refine kThen ?_
    refine rBeginI (i := 1) rfl hr.1 ?_
    refine kBlock ?_
    refine kSeq ?_
    refine forgetP ([(l, _), (n5, _), (n4, _), (n3, _), (n2, _), (nS, _)] ++ Z) (.c 1 rfl (.c 0 rfl (.c 2 rfl (.c 2 rfl (.c 2 rfl (.c 2 rfl (.d 0 (.d 0 SubP.tail)))))))) ?_
    refine kRegion rfl ?_
    refine lV (yLoad1 rfl O51 (cOwn 2 rfl rfl)) rfl rfl ?_
    refine lV (yNilCheckP rfl) rfl rfl ?_
    refine lV (yFieldAddr rfl F67_0) rfl rfl ?_
    refine lV (yFieldAddr rfl F27_0) rfl rfl ?_
    refine lV (yLoad1 rfl O3 (cOwn 5 rfl rfl)) rfl rfl ?_
    refine same (t := 18) (u := i64 (s.n.toNat : Nat)) rfl (by congr 1; omega) ?_
    refine lV (ySliceA rfl rfl R61 ((by omega))) rfl rfl ?_
    refine lE rfl ?_
    refine eCallO rfl (.c rfl .n) C19 (fun w hw => cloneInt_any (some ⟨n5, 0, none⟩) 8 s.n.toNat w (fstL s) (by simp [fstL]) (by omega) (wC_sl (hw.blkAt 1 rfl) (by omega))) fun g hg => ?_
    refine lE rfl ?_
    refine eStoreL 4 rfl rfl rfl rfl K22 rfl (rfl) ?_
    refine lE rfl ?_
    refine eStoreL 3 rfl rfl rfl rfl K33 rfl (rfl) ?_
    refine lNil ?_
    refine kThen ?_
    refine kRet ?_
    refine kInR ?_
    exact rRetI 0 rfl ([(n3, blk [i64 0] 33), (n2, blk [osV g ((fstL s).map rowI).length] 22)] ++ osL 3 g) ⟨g, hg, rfl⟩ (.h rfl (.k rfl (.k rfl (.h rfl (.h rfl (.k rfl (by exact (show SubP ((osL 3 g ++ Z)) ((Z ++ osL 3 g)) from SubP.comm _ _))))))))
  · exact fun h => absurd h (by omega)
  · intro _ C hC r l o
    obtain ⟨g, hg, rfl⟩ := hC
    refine kRet ?_
    refine kInR ?_
    refine kThenR ?_
    refine fMark 1 rfl (.inl rfl) ?_
    refine tfRetE rfl (.c1 rfl O22 (cOwn 3 rfl rfl) (.c1 rfl O33 (cOwn 2 rfl rfl) .n)) ?_
    exact endX g hg rfl rfl (.k rfl (.k rfl (.k rfl (.k rfl .r))))
set_option maxRecDepth 100000 in
set_option maxHeartbeats 4000000 in
theorem first_clash (w : World) (hm : InSh w ys yn s) (hS : ShlOk s) (hcb : canB s = false) : Calls Try.prog 6 [.agg (shlC ys yn s).toArray].toArray w (Ret w (.tuple [.slice none 0 0, i64 10].toArray)) := by
  refine fEnter Try.func6 rfl Try.ntmps6 rfl ?_
  refine kSeq ?_
  refine kRegion rfl ?_
  refine lE rfl ?_
  refine eBoxA rfl fun n1 => ?_
  refine lE rfl ?_
  refine eAlloc Z22 fun n2 => ?_
  refine lE rfl ?_
  refine eAlloc Z33 fun n3 => ?_
  refine lNil ?_
  refine kThen ?_
  refine kSeq ?_
  refine kRegion rfl ?_
  refine lE rfl ?_
  refine eDefer rfl (.c rfl .n) ?_
  refine lNil ?_
  refine kThen ?_
  refine kSeq ?_
  refine kRegion rfl ?_
  refine lV (yLoadA (vs := [_, _, _, _, _]) rfl A27 (cOwn 2 rfl rfl)) rfl rfl ?_
  refine lE rfl ?_
  refine eCallO rfl (.c rfl .n) C15 (fun w hw => topen_any ys yn s w (hm.eff hw) hS) fun x hx => ?_
  obtain ⟨nS, nm, gn, gw⟩ := x
  obtain ⟨hgn, hgw⟩ := hx
  dsimp only at hgn hgw ⊢
  have hIn : ∀ {M L : Heap} {w' : World} {m : Value}, Eff w M L w' → (nS, shBox ys yn s (osV gn (s.ns.map rowN).length) (osV gw ((allW s).map wC).length) m) ∈ M ++ L → (∀ p ∈ osL 98 gn ++ osL 61 gw, p ∈ M ++ L) → InS w' nS ys yn s (osA gn, osC gn) (osA gw, osC gw) m := fun hw h1 h2 =>
    ⟨by have := hw.own _ h1; simpa using this, hgn.rows (f := rowN) note0 fun p hp => hw.own p (h2 p (List.mem_append.2 (.inl hp))), hgw.rows (f := wC) w0 fun p hp => hw.own p (h2 p (List.mem_append.2 (.inr hp)))⟩
  refine lE rfl ?_
  refine eCallPW 4 rfl rfl (.c rfl .n) C16 (fun w hw => tmust2_pan ys yn s nS nm (osA gn, osC gn) (osA gw, osC gw) w hS (hIn hw (by simp) (fun p hp => by rcases List.mem_append.1 hp with h | h <;> simp [h])) (hw.blkAt 4 rfl) hcb) ?_
  refine kThenP ?_
  exact tfPanE 0 rfl rfl (.c1 rfl O22 (cOwn 1 rfl rfl) (.c1 rfl O33 (cOwn 0 rfl rfl) .n)) (endRet rfl)
end
end Go.Proofs.Ytdpeifbejeflhaa
