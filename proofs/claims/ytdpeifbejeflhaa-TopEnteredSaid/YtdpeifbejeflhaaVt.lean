/-
  Walks: can, must.
-/
import Derived.Test.YtdpeifbejeflhaaVs
namespace Go.Proofs.Ytdpeifbejeflhaa
open ZW

section
variable {P : Program} {ro : Option Nat} {Q : Exit → Act → World → Prop} {next : Act → World → Prop} {N : Nat} {S : Slots} {D : List Deferred} {W : World} {M L : Heap}
variable {dst : Option Tmp} {ty : TypeId} {pos : String} {af : Array Edge} {g : Option (Nat × Bool)}
/-- The call writes a block, and panics. -/
def PanW (w : World) (b : Nat) (o : Obj) (v : Value) : Ending → World → Prop := fun e w' => e = .panicked [{ v, recovered := false }] ∧ Eff w [(b, o)] [] w'
theorem eCallPW {x : Operand} {xs : List Operand} {f : FuncId} {us cs vs : List Value} {tys : Array TypeId} {v : Value} {b : Nat} {o o' : Obj} (i : Nat) (hi : L[i]? = some (b, o)) (hx : opd S x = some (.func (.func f) us.toArray cs.toArray)) (ha : AllOpd S xs vs)
    (hf : callT P f = true) (hc : ∀ w, Eff W M L w → Calls P f (us ++ vs ++ cs).toArray w (PanW w b o' v))
    (k : Tr (St N S D W M (upd L i o')) (Q (.panic [{ v, recovered := false }]))) : Tr (St N S D W M L) (opW P ro N ⟨dst, .call ⟨.value x, xs.toArray, tys⟩, ty, pos, af, g⟩ next Q) := fun a w hs hN => by
  refine opW_enter rfl (exec_call hx ha hf hs.knows w) ((hc w hs.ef).mono ?_) hN
  rintro e w' ⟨rfl, hE⟩
  exact k _ _ (hs.eff (by simpa using hs.ef.wroteL hi hE))
end
abbrev canB (s : Shl) : Bool := decide (0 < (rightW s).length)
section
variable (ys yn : Option Addr × Nat) (s : Shl) (nS nm : Nat) (an aw : Option Addr × Nat)
abbrev knH (b : Bool) : Obj := mapO .u64 (mPut [] ((2 ^ s.ns.length - 1 : Nat) : Int) (.bool b))
set_option maxRecDepth 100000 in
set_option maxHeartbeats 4000000 in
theorem can_any (w : World) (hS : ShlOk s) (hk : InS w nS ys yn s an aw (.map (some nm))) (hm : w.heap[nm]? = some (mapO .u64 [])) :
    Calls Try.prog 38 [.pointer (some ⟨nS, 0, none⟩), u64 (2 ^ s.ns.length - 1)].toArray w (Wr w nm (knH s (canB s)) (.bool (canB s))) := by
  have hb := hk.b
  refine fEnter Try.func38 rfl Try.ntmps38 rfl ?_
  refine kSeq ?_
  refine kRegion rfl ?_
  refine lV (yAssign rfl) rfl rfl ?_
  refine lNil ?_
  refine kThen ?_
  refine kSeq ?_
  refine kSeq ?_
  refine kRegion rfl ?_
  refine lV (yMove rfl) rfl rfl ?_
  refine lV (yNilCheckP rfl) rfl rfl ?_
  refine lV (yFieldAddr rfl F67_3) rfl rfl ?_
  refine lV (yLoad1 rfl O65 (cOldB (hb) rfl)) rfl rfl ?_
  refine lV (yMove rfl) rfl rfl ?_
  refine lV (yLookupOk MP65 ZV4 rfl rfl (fun w hw => Eff.old' hw hm)) rfl rfl ?_
  refine lV (yMove rfl) rfl rfl ?_
  refine lV (yExtract rfl rfl) rfl rfl ?_
  refine lV (yExtract rfl rfl) rfl rfl ?_
  refine knownB (t := 16) (c := false) rfl (rfl) ?_
  refine lV (yAssign rfl) rfl rfl ?_
  refine lV (yAssign rfl) rfl rfl ?_
  refine lNil ?_
  refine kThen ?_
  refine kSeq ?_
  refine kRegion rfl ?_
  refine lV (yMove rfl) rfl rfl ?_
  refine lNil ?_
  refine kThen ?_
  refine kIfF rfl ?_
  refine kSkip ?_
  refine kThen ?_
  refine kSeq ?_
  refine kRegion rfl ?_
  refine lE rfl ?_
  refine eAlloc Z4 fun n7 => ?_
  refine lE rfl ?_
  refine eStoreL 0 rfl rfl rfl rfl K4 rfl (rfl) ?_
  refine lNil ?_
  refine kThen ?_
  refine kSeq ?_
  refine kSeq ?_
  refine kRegion rfl ?_
  refine lV (yMove rfl) rfl rfl ?_
  refine lV (yMove rfl) rfl rfl ?_
  refine lE rfl ?_
  refine eCallX rfl (.c rfl (.c rfl .n)) C17 (fun w hw => tright_any nS _ w) fun ⟨na, nb⟩ _ => ?_
  refine lNil ?_
  refine kThen ?_
  refine kBlock ?_
  refine kRangeD ((fun w => RtI w na nb nS ys yn s an aw (.map (some nm)))) ((.exit 0)) [] (fun i => wV ((rightW s).getD i w0)) ((rightW s).length) (0) (fun _ C => C = [(nb, blk [u64 (2 ^ s.ns.length - 1)] 58), (na, blk [.pointer (some ⟨nS, 0, none⟩)] 51), (n7, blk [.bool false] 4)]) (fun C => C = [(nb, blk [u64 (2 ^ s.ns.length - 1)] 58), (na, blk [.pointer (some ⟨nS, 0, none⟩)] 51), (n7, blk [.bool true] 4)]) [(nb, blk [u64 (2 ^ s.ns.length - 1)] 58), (na, blk [.pointer (some ⟨nS, 0, none⟩)] 51), (n7, blk [.bool false] 4)] rfl C39 rfl (.h rfl (.h rfl (.h rfl .n))) (rfl) (fun i C hC w' L hw => by
    subst hC
    exact ⟨hk.eff hw, hw.own (na, blk [.pointer (some ⟨nS, 0, none⟩)] 51) (by simp), hw.own (nb, blk [u64 (2 ^ s.ns.length - 1)] 58) (by simp)⟩) (right1_any ys yn s nS w hS na nb an aw (.map (some nm))) ?_ ?_ ?_ ?_
  · exact fun l r i C Z hi => absurd hi (Nat.not_lt_zero _)
  · intro hpos l r C Z hC hr
    subst hC
    refine kSkip ?_
    refine kThen ?_
    refine rBeginI (i := 0) rfl hr.1 ?_
    refine kBlock ?_
    refine kSeq ?_
    refine kRegion rfl ?_
    refine lE rfl ?_
    refine eStoreL 3 rfl rfl rfl rfl K4 rfl (rfl) ?_
    refine lNil ?_
    refine kThen ?_
    refine kExit ?_
    refine kInY rfl ?_
    exact rExitI 0 rfl [(nb, _), (na, _), (n7, _)] rfl (.h rfl (.h rfl (.h rfl (.h rfl .r))))
  · intro hpos C hC r l o
    subst hC
    have hcb : canB s = false := decide_eq_false (by omega)
    refine kInN ?_
    refine kThen ?_
    refine kSeq ?_
    refine tellM hm ?_
    refine kDrawE [(5, none)] [(3, (fun w' => w'.heap[nS]? = some (shBox ys yn s (.slice an.1 s.ns.length an.2) (.slice aw.1 (allW s).length aw.2) (.map (some nm)))))] [0, 1, 2, 3, 4, 5] 1 hMix (by kernel_rfl) ?_
    refine .run rfl (yMove rfl) rfl rfl ?_
    refine .run rfl (yNilCheckP rfl) rfl rfl ?_
    refine .run rfl (yFieldAddr rfl F67_3) rfl rfl ?_
    refine .run rfl (yLoad1 rfl O65 (cFact (fun w hw => hw) rfl)) rfl rfl ?_
    refine .run rfl (yMove rfl) rfl rfl ?_
    refine .run rfl (yLoad1 rfl O4 (cOwn 5 rfl rfl)) rfl rfl ?_
    refine .done ?_
    refine effStep 6 [] (by kernel_rfl) closedSt (hLeft [3, 5] (by kernel_rfl) (.c (fun _ _ hs => Eff.old' ((Eff.one hm).unM hs.ef) hb) (.c (fun _ _ hs => hs.ef) .n))) ?_
    refine .c ?_ .n
    refine effOne rfl (gNone rfl (eMapUpdateM 0 MP65 rfl rfl rfl rfl trSelf)) ?_
    refine effDone closedSt (hLeft [] (by kernel_rfl) .n) (by kernel_rfl) ?_
    refine kThen ?_
    refine kSeq ?_
    refine kRegion rfl ?_
    refine lV (yLoad1 rfl O4 (cOwn 5 rfl rfl)) rfl rfl ?_
    refine lV (yAssign rfl) rfl rfl ?_
    refine lNil ?_
    refine kThen ?_
    refine kRet ?_
    refine fMark 1 rfl (.inl rfl) ?_
    refine fRet rfl (.t rfl .n) ?_
    rw [hcb]
    exact endW rfl rfl
  · intro hpos C hC r l o
    subst hC
    have hcb : canB s = true := decide_eq_true hpos
    refine kExit ?_
    refine kInX ?_
    refine kThen ?_
    refine kSeq ?_
    refine tellM hm ?_
    refine kDrawE [(5, none)] [(3, (fun w' => w'.heap[nS]? = some (shBox ys yn s (.slice an.1 s.ns.length an.2) (.slice aw.1 (allW s).length aw.2) (.map (some nm)))))] [0, 1, 2, 3, 4, 5] 1 hMix (by kernel_rfl) ?_
    refine .run rfl (yMove rfl) rfl rfl ?_
    refine .run rfl (yNilCheckP rfl) rfl rfl ?_
    refine .run rfl (yFieldAddr rfl F67_3) rfl rfl ?_
    refine .run rfl (yLoad1 rfl O65 (cFact (fun w hw => hw) rfl)) rfl rfl ?_
    refine .run rfl (yMove rfl) rfl rfl ?_
    refine .run rfl (yLoad1 rfl O4 (cOwn 5 rfl rfl)) rfl rfl ?_
    refine .done ?_
    refine effStep 6 [] (by kernel_rfl) closedSt (hLeft [3, 5] (by kernel_rfl) (.c (fun _ _ hs => Eff.old' ((Eff.one hm).unM hs.ef) hb) (.c (fun _ _ hs => hs.ef) .n))) ?_
    refine .c ?_ .n
    refine effOne rfl (gNone rfl (eMapUpdateM 0 MP65 rfl rfl rfl rfl trSelf)) ?_
    refine effDone closedSt (hLeft [] (by kernel_rfl) .n) (by kernel_rfl) ?_
    refine kThen ?_
    refine kSeq ?_
    refine kRegion rfl ?_
    refine lV (yLoad1 rfl O4 (cOwn 5 rfl rfl)) rfl rfl ?_
    refine lV (yAssign rfl) rfl rfl ?_
    refine lNil ?_
    refine kThen ?_
    refine kRet ?_
    refine fMark 1 rfl (.inl rfl) ?_
    refine fRet rfl (.t rfl .n) ?_
    rw [hcb]
    exact endW rfl rfl
set_option maxRecDepth 100000 in
theorem tmust2_ok (w : World) (hS : ShlOk s) (hk : InS w nS ys yn s an aw (.map (some nm))) (hm : w.heap[nm]? = some (mapO .u64 [])) (hcb : canB s = true) :
    Calls Try.prog 16 [.pointer (some ⟨nS, 0, none⟩)].toArray w (Wr w nm (knH s true) (.pointer (some ⟨nS, 0, none⟩))) := by
  have hb := hk.b
  refine fEnterM (Eff.one hm) Try.func16 rfl Try.ntmps16 rfl ?_
  refine kSeq ?_
  refine kRegion rfl ?_
  refine lV (yAssign rfl) rfl rfl ?_
  refine lNil ?_
  refine kThen ?_
  refine kSeq ?_
  refine kRegion rfl ?_
  refine lV (yMove rfl) rfl rfl ?_
  refine lV (yMove rfl) rfl rfl ?_
  refine lV (yCall rfl (.c rfl .n) C18 (fun w hw => every_any ys yn s nS s.ns.length an.2 an.1 _ _ w (Eff.old' ((Eff.one hm).unM hw) hb) hS.k)) rfl rfl ?_
  refine lE rfl ?_
  refine eCallWM 0 rfl rfl (.c rfl (.c rfl .n)) C38 (fun w hw hb => can_any ys yn s nS nm an aw w hS (hk.eff ((Eff.one hm).unM hw)) (hw.blkAt 0 rfl)) ?_
  refine knownB (t := 6) (c := true) rfl (hcb) ?_
  refine lV (yCall rfl (.c rfl (.c rfl .n)) C34 (fun w hw => tmust_ok 10 w)) rfl rfl ?_
  refine lNil ?_
  refine kThen ?_
  refine kSeq ?_
  refine kRegion rfl ?_
  refine lV (yMove rfl) rfl rfl ?_
  refine lV (yAssign rfl) rfl rfl ?_
  refine lNil ?_
  refine kThen ?_
  refine kRet ?_
  refine fRet rfl (.t rfl .n) ?_
  exact endW rfl (by rw [hcb])
set_option maxRecDepth 100000 in
theorem tmust2_pan (w : World) (hS : ShlOk s) (hk : InS w nS ys yn s an aw (.map (some nm))) (hm : w.heap[nm]? = some (mapO .u64 [])) (hcb : canB s = false) :
    Calls Try.prog 16 [.pointer (some ⟨nS, 0, none⟩)].toArray w (PanW w nm (knH s false) (tfailV 10)) := by
  have hb := hk.b
  refine fEnterM (Eff.one hm) Try.func16 rfl Try.ntmps16 rfl ?_
  refine kSeq ?_
  refine kRegion rfl ?_
  refine lV (yAssign rfl) rfl rfl ?_
  refine lNil ?_
  refine kThen ?_
  refine kSeq ?_
  refine kRegion rfl ?_
  refine lV (yMove rfl) rfl rfl ?_
  refine lV (yMove rfl) rfl rfl ?_
  refine lV (yCall rfl (.c rfl .n) C18 (fun w hw => every_any ys yn s nS s.ns.length an.2 an.1 _ _ w (Eff.old' ((Eff.one hm).unM hw) hb) hS.k)) rfl rfl ?_
  refine lE rfl ?_
  refine eCallWM 0 rfl rfl (.c rfl (.c rfl .n)) C38 (fun w hw hb => can_any ys yn s nS nm an aw w hS (hk.eff ((Eff.one hm).unM hw)) (hw.blkAt 0 rfl)) ?_
  refine knownB (t := 6) (c := false) rfl (hcb) ?_
  refine lE rfl ?_
  refine eCallP rfl (.c rfl (.c rfl .n)) C34 (fun w hw => tmust_pan 10 w) ?_
  refine kThenP ?_
  refine fPan ?_
  rw [hcb]
  exact fun w' hw' => ⟨rfl, hw'.sub .n⟩
end
end Go.Proofs.Ytdpeifbejeflhaa
