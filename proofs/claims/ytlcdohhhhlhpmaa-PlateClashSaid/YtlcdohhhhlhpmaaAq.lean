/-
  Walks: the least of the smallest sets.
-/
import Derived.Test.YtlcdohhhhlhpmaaAp
namespace Go.Proofs.Ytlcdohhhhlhpmaa
open ZW

/-- How many there are in a set. -/
def popF : Nat → Nat → Nat
  | 0, _ => 0
  | f + 1, n => n % 2 + popF f (n / 2)
def popc (n : Nat) : Nat := popF 13 n
def oc1 (s : Nat) : Nat := (s / 2 ^ 1 &&& 6148914691236517205) + (s &&& 6148914691236517205)
def oc2 (s : Nat) : Nat := (s / 2 ^ 2 &&& 3689348814741910323) + (s &&& 3689348814741910323)
def oc3 (s : Nat) : Nat := (s / 2 ^ 4 + s) &&& 1085102592571150095
def oc4 (s : Nat) : Nat := s + s / 2 ^ 8
def oc5 (s : Nat) : Nat := s + s / 2 ^ 16
def oc6 (s : Nat) : Nat := s + s / 2 ^ 32
theorem oc_popc : ∀ s, s < 8192 → (oc6 (oc5 (oc4 (oc3 (oc2 (oc1 s))))) &&& 127) = popF 13 s := by
  have h : ((List.range 8192).all fun s => (oc6 (oc5 (oc4 (oc3 (oc2 (oc1 s))))) &&& 127) == popF 13 s) = true := by kernel_rfl
  intro s hs
  simpa using List.all_eq_true.1 h s (List.mem_range.2 hs)
theorem oc1_lt {s n : Nat} (h : s < n) : oc1 s < 2 * n := by
  have h1 := Nat.and_le_left (n := s / 2 ^ 1) (m := 6148914691236517205)
  have h2 := Nat.and_le_left (n := s) (m := 6148914691236517205)
  unfold oc1; omega
theorem oc2_lt {s n : Nat} (h : s < n) : oc2 s < 2 * n := by
  have h1 := Nat.and_le_left (n := s / 2 ^ 2) (m := 3689348814741910323)
  have h2 := Nat.and_le_left (n := s) (m := 3689348814741910323)
  unfold oc2; omega
theorem oc3_lt {s n : Nat} (h : s < n) : oc3 s < 2 * n := by
  have h1 := Nat.and_le_left (n := s / 2 ^ 4 + s) (m := 1085102592571150095)
  unfold oc3; omega

set_option maxRecDepth 100000 in
theorem ones64_any (s : Nat) (w : World) (hs : s < 8192) : Calls Try.prog 133 [.int .u64 (s : Nat)].toArray w (Ret w (i64 (popF 13 s : Nat))) := by
  have h1 := oc1_lt hs
  have h2 := oc2_lt h1
  have h3 := oc3_lt h2
  have h4 : oc4 (oc3 (oc2 (oc1 s))) < 200000 := by unfold oc4; omega
  have h5 : oc5 (oc4 (oc3 (oc2 (oc1 s)))) < 400000 := by unfold oc5; omega
  have h6 : oc6 (oc5 (oc4 (oc3 (oc2 (oc1 s))))) < 800000 := by unfold oc6; omega
  have hc := oc_popc s hs
  have e1 : oc1 s = _ := rfl
  have e2 : ∀ s, oc2 s = _ := fun _ => rfl
  have q1 := Nat.and_le_left (n := s / 2 ^ 1) (m := 6148914691236517205)
  have q2 := Nat.and_le_left (n := s) (m := 6148914691236517205)
  have q3 := Nat.and_le_left (n := oc1 s / 2 ^ 2) (m := 3689348814741910323)
  have q4 := Nat.and_le_left (n := oc1 s) (m := 3689348814741910323)
  refine fEnter Try.func133 rfl Try.ntmps133 rfl ?_
  refine kSeq ?_
  refine kRegion rfl ?_
  refine lV (yAssign rfl) rfl rfl ?_
  refine lNil ?_
  refine kThen ?_
  refine kSeq ?_
  refine kRegion rfl ?_
  refine lV (yMove rfl) rfl rfl ?_
  refine lV (yShr (b := 1) rfl rfl rfl (by omega)) rfl rfl ?_
  refine lV (yAnd (b := 6148914691236517205) rfl rfl rfl (by omega) (by omega)) rfl rfl ?_
  refine lV (yMove rfl) rfl rfl ?_
  refine lV (yAnd (b := 6148914691236517205) rfl rfl rfl (by omega) (by omega)) rfl rfl ?_
  refine lV (yAddN  rfl rfl rfl (by omega)) rfl rfl ?_
  refine same (t := 8) (u := .int .u64 ((oc1 s : Nat) : Int)) rfl (rfl) ?_
  refine lV (yAssign rfl) rfl rfl ?_
  refine lNil ?_
  refine kThen ?_
  refine kSeq ?_
  refine kRegion rfl ?_
  refine lV (yMove rfl) rfl rfl ?_
  refine lV (yShr (b := 2) rfl rfl rfl (by omega)) rfl rfl ?_
  refine lV (yAnd (b := 3689348814741910323) rfl rfl rfl (by omega) (by omega)) rfl rfl ?_
  refine lV (yMove rfl) rfl rfl ?_
  refine lV (yAnd (b := 3689348814741910323) rfl rfl rfl (by omega) (by omega)) rfl rfl ?_
  refine lV (yAddN  rfl rfl rfl (by omega)) rfl rfl ?_
  refine same (t := 14) (u := .int .u64 ((oc2 (oc1 s) : Nat) : Int)) rfl (rfl) ?_
  refine lV (yAssign rfl) rfl rfl ?_
  refine lNil ?_
  refine kThen ?_
  refine kSeq ?_
  refine kRegion rfl ?_
  refine lV (yMove rfl) rfl rfl ?_
  refine lV (yShr (b := 4) rfl rfl rfl (by omega)) rfl rfl ?_
  refine lV (yMove rfl) rfl rfl ?_
  refine lV (yAddN  rfl rfl rfl (by omega)) rfl rfl ?_
  refine lV (yAnd (b := 1085102592571150095) rfl rfl rfl (by omega) (by omega)) rfl rfl ?_
  refine same (t := 19) (u := .int .u64 ((oc3 (oc2 (oc1 s)) : Nat) : Int)) rfl (rfl) ?_
  refine lV (yAssign rfl) rfl rfl ?_
  refine lNil ?_
  refine kThen ?_
  refine kSeq ?_
  refine kRegion rfl ?_
  refine lV (yMove rfl) rfl rfl ?_
  refine lV (yMove rfl) rfl rfl ?_
  refine lV (yShr (b := 8) rfl rfl rfl (by omega)) rfl rfl ?_
  refine lV (yAddN  rfl rfl rfl (by omega)) rfl rfl ?_
  refine same (t := 23) (u := .int .u64 ((oc4 (oc3 (oc2 (oc1 s))) : Nat) : Int)) rfl (rfl) ?_
  refine lV (yAssign rfl) rfl rfl ?_
  refine lNil ?_
  refine kThen ?_
  refine kSeq ?_
  refine kRegion rfl ?_
  refine lV (yMove rfl) rfl rfl ?_
  refine lV (yMove rfl) rfl rfl ?_
  refine lV (yShr (b := 16) rfl rfl rfl (by omega)) rfl rfl ?_
  refine lV (yAddN  rfl rfl rfl (by omega)) rfl rfl ?_
  refine same (t := 27) (u := .int .u64 ((oc5 (oc4 (oc3 (oc2 (oc1 s)))) : Nat) : Int)) rfl (rfl) ?_
  refine lV (yAssign rfl) rfl rfl ?_
  refine lNil ?_
  refine kThen ?_
  refine kSeq ?_
  refine kRegion rfl ?_
  refine lV (yMove rfl) rfl rfl ?_
  refine lV (yMove rfl) rfl rfl ?_
  refine lV (yShr (b := 32) rfl rfl rfl (by omega)) rfl rfl ?_
  refine lV (yAddN  rfl rfl rfl (by omega)) rfl rfl ?_
  refine same (t := 31) (u := .int .u64 ((oc6 (oc5 (oc4 (oc3 (oc2 (oc1 s))))) : Nat) : Int)) rfl (rfl) ?_
  refine lV (yAssign rfl) rfl rfl ?_
  refine lNil ?_
  refine kThen ?_
  refine kSeq ?_
  refine kRegion rfl ?_
  refine lV (yMove rfl) rfl rfl ?_
  refine lV (yConvInt rfl U168 U3 (conv_ok (by omega))) rfl rfl ?_
  refine lV (yAnd (b := 127) rfl rfl rfl (by omega) (by omega)) rfl rfl ?_
  refine lV (yAssign rfl) rfl rfl ?_
  refine lNil ?_
  refine kThen ?_
  refine kRet ?_
  refine fRet rfl (.t rfl .n) (endRet ?_)
  simp only [packV]; rw [hc]
set_option maxRecDepth 100000 in
theorem ones_any (s : Nat) (w : World) (hs : s < 8192) : Calls Try.prog 115 [.int .u64 (s : Nat)].toArray w (Ret w (i64 (popF 13 s : Nat))) := by
  refine fEnter Try.func115 rfl Try.ntmps115 rfl ?_
  refine kSeq ?_
  refine kRegion rfl ?_
  refine lV (yAssign rfl) rfl rfl ?_
  refine lNil ?_
  refine kThen ?_
  refine kSeq ?_
  refine kIfF rfl ?_
  refine kSkip ?_
  refine kThen ?_
  refine kSeq ?_
  refine kRegion rfl ?_
  refine lV (yMove rfl) rfl rfl ?_
  refine lV (yCall rfl (.c rfl .n) C133 (fun w hw => ones64_any s w hs)) rfl rfl ?_
  refine lV (yAssign rfl) rfl rfl ?_
  refine lNil ?_
  refine kThen ?_
  refine kRet ?_
  refine fRet rfl (.t rfl .n) (endRet ?_)
  rfl


theorem Eff.lessL {w w' : World} {A B L : Heap} (h : Eff w (A ++ B) L w') (hb : ∀ p ∈ B, w.heap[p.1]? = some p.2) : Eff w A L w' := by
  have hnd := h.nd
  simp only [List.map_append, List.nodup_append] at hnd
  refine ⟨h.os, h.tape, h.output, h.size, fun k hk hA => ?_, fun p hp => h.own p (by rcases List.mem_append.1 hp with hp | hp <;> simp [hp]), h.new, fun p hp => h.old p (by simp [hp]), ?_⟩
  · by_cases hm : ∃ p ∈ B, p.1 = k
    · obtain ⟨p, hp, rfl⟩ := hm
      rw [h.own p (by simp [hp]), hb p hp]
    · refine h.frame k hk fun p hp e => ?_
      rcases List.mem_append.1 hp with hp | hp
      · exact hA p hp e
      · exact hm ⟨p, hp, e⟩
  · simp only [List.map_append, List.nodup_append]
    exact ⟨hnd.1.1, hnd.2.1, fun a ha b hb => hnd.2.2 a (by simp [List.mem_append, ha]) b hb⟩
/-- One set more, if it is less and something is so of it. -/
def bestP (isB : Nat → Bool) (s b : Nat) : Nat := if (b = 0 ∨ s < b) ∧ isB s = true then s else b
/-- All sets with so many stars more, from one on. -/
def onP (isB : Nat → Bool) (stars : Nat) : Nat → Nat → Nat → Nat → Nat
  | 0, _, s, b => bestP isB s b
  | m + 1, fr, s, b => (List.range (lenT stars)).foldl (fun b i => if fr ≤ i ∧ stars.testBit i = true then onP isB stars m (i + 1) (s ||| 1 * 2 ^ i) b else b) b
def onT (isB : Nat → Bool) (stars m fr s b n : Nat) : Nat := (List.range n).foldl (fun b i => if fr ≤ i ∧ stars.testBit i = true then onP isB stars m (i + 1) (s ||| 1 * 2 ^ i) b else b) b
theorem onT_succ (isB : Nat → Bool) (stars m fr s b n : Nat) : onT isB stars m fr s b (n + 1) = if fr ≤ n ∧ stars.testBit n = true then onP isB stars m (n + 1) (s ||| 1 * 2 ^ n) (onT isB stars m fr s b n) else onT isB stars m fr s b n := range_foldl_succ _ _ _
theorem onT_from (isB : Nat → Bool) (stars m fr s b : Nat) : ∀ n, n ≤ fr → onT isB stars m fr s b n = b
  | 0, _ => rfl
  | n + 1, h => by rw [onT_succ, if_neg (by omega), onT_from isB stars m fr s b n (by omega)]
def subS (s t : Nat) : Prop := ∀ i, s.testBit i = true → t.testBit i = true
theorem subS_lt {s t : Nat} (h : subS s t) (ht : t < 1024) : s < 1024 := by
  refine Nat.lt_pow_two_of_testBit (n := 10) s fun i hi => ?_
  cases hb : s.testBit i with
  | false => rfl
  | true =>
    have := h i hb
    rw [Nat.testBit_lt_two_pow (Nat.lt_of_lt_of_le (show t < 2 ^ 10 from ht) (Nat.pow_le_pow_right (by omega) hi))] at this
    cases this
theorem subS_or {s t i : Nat} (h : subS s t) (hi : t.testBit i = true) : subS (s ||| 1 * 2 ^ i) t := fun k hk => by
  rw [Nat.testBit_or, Bool.or_eq_true, Nat.one_mul, Nat.testBit_two_pow] at hk
  rcases hk with hk | hk
  · exact h k hk
  · have : i = k := by simpa using hk
    exact this ▸ hi
theorem bestP_lt {isB : Nat → Bool} {s b : Nat} (hs : s < 1024) (hb : b < 1024) : bestP isB s b < 1024 := by unfold bestP; split <;> omega
theorem onP_lt (isB : Nat → Bool) (stars : Nat) (ht : stars < 1024) : ∀ m fr s b, subS s stars → b < 1024 → onP isB stars m fr s b < 1024
  | 0, _, s, b, hs, hb => bestP_lt (subS_lt hs ht) hb
  | m + 1, fr, s, b, hs, hb => by
    have h : ∀ n, onT isB stars m fr s b n < 1024 := by
      intro n
      induction n with
      | zero => exact hb
      | succ n ih =>
        rw [onT_succ]
        split
        · rename_i h; exact onP_lt isB stars ht m _ _ _ (subS_or hs h.2) ih
        · exact ih
    exact h _

theorem onT_lt (isB : Nat → Bool) (stars : Nat) (ht : stars < 1024) (m fr s b n : Nat) (hs : subS s stars) (hb : b < 1024) : onT isB stars m fr s b n < 1024 := by
  induction n with
  | zero => exact hb
  | succ n ih =>
    rw [onT_succ]
    split
    · rename_i h; exact onP_lt isB stars ht m _ _ _ (subS_or hs h.2) ih
    · exact ih
theorem bit1_iff (s i : Nat) : (((s / 2 ^ i &&& 1 : Nat) : Int) = 1) ↔ s.testBit i = true := by
  rw [Nat.testBit_eq_decide_div_mod_eq, decide_eq_true_eq, Nat.and_one_is_mod]
  omega
theorem Eff.selfM {W w : World} {M L : Heap} (h : Eff W M L w) : Eff w M [] w := by
  have h2 := h.nd
  rw [List.map_append, List.nodup_append] at h2
  exact ⟨rfl, rfl, rfl, Nat.le_refl _, fun _ _ _ => rfl, fun p hp => h.own p (by simp at hp; simp [hp]), fun p hp => by simp at hp, fun p hp => h.lt (by simp [hp]), by simpa using h2.1⟩
set_option maxRecDepth 100000 in
set_option maxHeartbeats 4000000 in
theorem on_any (F : FuncId) (caps : List Value) (hF : callT Try.prog F = true) (isB : Nat → Bool) (stars : Nat) (ht : stars < 1024) (bn isn sn fn : Nat) : ∀ (m fr s b : Nat) (W : World), m ≤ 10 → fr ≤ 10 → subS s stars → b < 1024 →
    Eff W [(bn, blk [.int .u64 (b : Nat)] 114), (isn, blk [.func (.func F) [].toArray caps.toArray] 112), (sn, blk [.int .u64 (stars : Nat)] 114), (fn, blk [.func (.func 113) [].toArray [.pointer (some ⟨bn, 0, none⟩), .pointer (some ⟨isn, 0, none⟩), .pointer (some ⟨sn, 0, none⟩), .pointer (some ⟨fn, 0, none⟩)].toArray] 142)] [] W →
    (∀ w o L, Eff W [(bn, o)] L w → ∀ s, subS s stars → Calls Try.prog F ([Value.int .u64 (s : Nat)] ++ caps).toArray w (Ret w (.bool (isB s)))) →
    Calls Try.prog 113 [.int .u64 (s : Nat), i64 (m : Nat), i64 (fr : Nat), .pointer (some ⟨bn, 0, none⟩), .pointer (some ⟨isn, 0, none⟩), .pointer (some ⟨sn, 0, none⟩), .pointer (some ⟨fn, 0, none⟩)].toArray W (Wr W bn (blk [.int .u64 ((onP isB stars m fr s b : Nat) : Int)] 114) (.tuple #[])) := by
  intro m
  induction m with
  | zero =>
    intro fr s b W hm hfr hs hb hE hI
    have hlt := subS_lt hs ht
    have hr : ∀ p ∈ [(isn, blk [.func (.func F) [].toArray caps.toArray] 112), (sn, blk [.int .u64 (stars : Nat)] 114), (fn, blk [.func (.func 113) [].toArray [.pointer (some ⟨bn, 0, none⟩), .pointer (some ⟨isn, 0, none⟩), .pointer (some ⟨sn, 0, none⟩), .pointer (some ⟨fn, 0, none⟩)].toArray] 142)], W.heap[p.1]? = some p.2 := fun p hp => hE.own p (by simp only [List.append_nil]; exact List.mem_cons_of_mem _ hp)
    refine fEnterM hE Try.func113 rfl Try.ntmps113 rfl ?_
    refine kSeq ?_
    refine kSeq ?_
    refine kRegion rfl ?_
    refine lV (yMove rfl) rfl rfl ?_
    refine lV (yEql rfl rfl) rfl rfl ?_
    refine known (t := 12) rfl (by decide) ?_
    refine lNil ?_
    refine kThen ?_
    refine kIfT rfl ?_
    refine kSeq ?_
    refine kSeq ?_
    refine kRegion rfl ?_
    refine lV (yLoad1 rfl O114 (cOwn 0 rfl rfl)) rfl rfl ?_
    refine lV (yEql rfl rfl) rfl rfl ?_
    refine lV (yMove rfl) rfl rfl ?_
    refine split (t := 15) rfl (fun h15 => ?_) (fun h15 => ?_)
    · refine lGN rfl rfl rfl rfl rfl ?_
      refine lGN rfl rfl rfl rfl rfl ?_
      refine lGN rfl rfl rfl rfl rfl ?_
      refine lV (yPickT rfl rfl) rfl rfl ?_
      refine lV (yMove rfl) rfl rfl ?_
      refine lGY rfl rfl rfl (oV (yLoad1 rfl O112 (cOwn 1 rfl rfl)) rfl ?_)
      refine lGY rfl rfl rfl (oV (yMove rfl) rfl ?_)
      refine lGY rfl rfl rfl (oV (yCall (us := []) (cs := caps) rfl (.c rfl .n) hF (fun w' hw => hI w' _ _ (Eff.lessL (A := [_]) (B := [_, _, _]) hw hr) s hs)) rfl ?_)
      refine lV (yPickT rfl rfl) rfl rfl ?_
      refine lNil ?_
      refine kThen ?_
      refine splitB (t := 24) rfl (fun h24 => ?_) (fun h24 => ?_)
      · refine kIfT rfl ?_
        refine kRegion rfl ?_
        refine lV (yMove rfl) rfl rfl ?_
        refine lE rfl ?_
        refine eStoreM 0 rfl rfl rfl rfl K114 rfl (rfl) ?_
        refine lNil ?_
        refine kThen ?_
        refine kRet ?_
        refine kThenR ?_
        refine fRet rfl .n ?_
        first
        | exact fun w' hw' => ⟨rfl, by
            rw [show onP isB stars 0 fr s b = s from by unfold onP bestP; rw [if_pos ⟨by omega, h24⟩]]
            exact (Eff.lessL (A := [_]) (B := [_, _, _]) hw' hr).sub .n⟩
        | exact fun w' hw' => ⟨rfl, by
            rw [show onP isB stars 0 fr s b = b from by
              unfold onP bestP
              rw [if_neg]
              rintro ⟨h1, h2⟩
              first | omega | (rw [h24] at h2; cases h2)]
            exact (Eff.lessL (A := [_]) (B := [_, _, _]) hw' hr).sub .n⟩
      · refine kIfF rfl ?_
        refine kSkip ?_
        refine kThen ?_
        refine kRet ?_
        refine kThenR ?_
        refine fRet rfl .n ?_
        first
        | exact fun w' hw' => ⟨rfl, by
            rw [show onP isB stars 0 fr s b = s from by unfold onP bestP; rw [if_pos ⟨by omega, h24⟩]]
            exact (Eff.lessL (A := [_]) (B := [_, _, _]) hw' hr).sub .n⟩
        | exact fun w' hw' => ⟨rfl, by
            rw [show onP isB stars 0 fr s b = b from by
              unfold onP bestP
              rw [if_neg]
              rintro ⟨h1, h2⟩
              first | omega | (rw [h24] at h2; cases h2)]
            exact (Eff.lessL (A := [_]) (B := [_, _, _]) hw' hr).sub .n⟩
    · refine lGY rfl rfl rfl (oV (yMove rfl) rfl ?_)
      refine lGY rfl rfl rfl (oV (yLoad1 rfl O114 (cOwn 0 rfl rfl)) rfl ?_)
      refine lGY rfl rfl rfl (oV (yLss rfl rfl) rfl ?_)
      refine lV (yPickF rfl rfl) rfl rfl ?_
      refine lV (yMove rfl) rfl rfl ?_
      refine split (t := 20) rfl (fun h20 => ?_) (fun h20 => ?_)
      · refine lGY rfl rfl rfl (oV (yLoad1 rfl O112 (cOwn 1 rfl rfl)) rfl ?_)
        refine lGY rfl rfl rfl (oV (yMove rfl) rfl ?_)
        refine lGY rfl rfl rfl (oV (yCall (us := []) (cs := caps) rfl (.c rfl .n) hF (fun w' hw => hI w' _ _ (Eff.lessL (A := [_]) (B := [_, _, _]) hw hr) s hs)) rfl ?_)
        refine lV (yPickT rfl rfl) rfl rfl ?_
        refine lNil ?_
        refine kThen ?_
        refine splitB (t := 24) rfl (fun h24 => ?_) (fun h24 => ?_)
        · refine kIfT rfl ?_
          refine kRegion rfl ?_
          refine lV (yMove rfl) rfl rfl ?_
          refine lE rfl ?_
          refine eStoreM 0 rfl rfl rfl rfl K114 rfl (rfl) ?_
          refine lNil ?_
          refine kThen ?_
          refine kRet ?_
          refine kThenR ?_
          refine fRet rfl .n ?_
          first
          | exact fun w' hw' => ⟨rfl, by
              rw [show onP isB stars 0 fr s b = s from by unfold onP bestP; rw [if_pos ⟨by omega, h24⟩]]
              exact (Eff.lessL (A := [_]) (B := [_, _, _]) hw' hr).sub .n⟩
          | exact fun w' hw' => ⟨rfl, by
              rw [show onP isB stars 0 fr s b = b from by
                unfold onP bestP
                rw [if_neg]
                rintro ⟨h1, h2⟩
                first | omega | (rw [h24] at h2; cases h2)]
              exact (Eff.lessL (A := [_]) (B := [_, _, _]) hw' hr).sub .n⟩
        · refine kIfF rfl ?_
          refine kSkip ?_
          refine kThen ?_
          refine kRet ?_
          refine kThenR ?_
          refine fRet rfl .n ?_
          first
          | exact fun w' hw' => ⟨rfl, by
              rw [show onP isB stars 0 fr s b = s from by unfold onP bestP; rw [if_pos ⟨by omega, h24⟩]]
              exact (Eff.lessL (A := [_]) (B := [_, _, _]) hw' hr).sub .n⟩
          | exact fun w' hw' => ⟨rfl, by
              rw [show onP isB stars 0 fr s b = b from by
                unfold onP bestP
                rw [if_neg]
                rintro ⟨h1, h2⟩
                first | omega | (rw [h24] at h2; cases h2)]
              exact (Eff.lessL (A := [_]) (B := [_, _, _]) hw' hr).sub .n⟩
      · refine lGN rfl rfl rfl rfl rfl ?_
        refine lGN rfl rfl rfl rfl rfl ?_
        refine lGN rfl rfl rfl rfl rfl ?_
        refine lV (yPickF rfl rfl) rfl rfl ?_
        refine lNil ?_
        refine kThen ?_
        refine kIfF rfl ?_
        refine kSkip ?_
        refine kThen ?_
        refine kRet ?_
        refine kThenR ?_
        refine fRet rfl .n ?_
        first
        | exact fun w' hw' => ⟨rfl, by
            rw [show onP isB stars 0 fr s b = s from by unfold onP bestP; rw [if_pos ⟨by omega, h24⟩]]
            exact (Eff.lessL (A := [_]) (B := [_, _, _]) hw' hr).sub .n⟩
        | exact fun w' hw' => ⟨rfl, by
            rw [show onP isB stars 0 fr s b = b from by
              unfold onP bestP
              rw [if_neg]
              rintro ⟨h1, h2⟩
              first | omega | (rw [h24] at h2; cases h2)]
            exact (Eff.lessL (A := [_]) (B := [_, _, _]) hw' hr).sub .n⟩
  | succ m ih =>
    intro fr s b W hm hfr hs hb0 hE hI
    have hlt := subS_lt hs ht
    have hlen := lenT_le stars ht
    have hr : ∀ p ∈ [(isn, blk [.func (.func F) [].toArray caps.toArray] 112), (sn, blk [.int .u64 (stars : Nat)] 114), (fn, blk [.func (.func 113) [].toArray [.pointer (some ⟨bn, 0, none⟩), .pointer (some ⟨isn, 0, none⟩), .pointer (some ⟨sn, 0, none⟩), .pointer (some ⟨fn, 0, none⟩)].toArray] 142)], W.heap[p.1]? = some p.2 := fun p hp => hE.own p (by simp only [List.append_nil]; exact List.mem_cons_of_mem _ hp)
    refine fEnterM hE Try.func113 rfl Try.ntmps113 rfl ?_
    refine kSeq ?_
    refine kSeq ?_
    refine kRegion rfl ?_
    refine lV (yMove rfl) rfl rfl ?_
    refine lV (yEql rfl rfl) rfl rfl ?_
    refine knownN (t := 12) rfl (by omega) ?_
    refine lNil ?_
    refine kThen ?_
    refine kIfF rfl ?_
    refine kSkip ?_
    refine kThen ?_
    refine kSeq ?_
    refine kRegion rfl ?_
    refine lV (yMove rfl) rfl rfl ?_
    refine lV (yAssign rfl) rfl rfl ?_
    refine lNil ?_
    refine kThen ?_
    refine kBlock ?_
    refine kLoopX (ι := Nat) (fun i => (i = fr ∨ i ≤ lenT stars) ∧ fr ≤ i) (fun i => [(10, i64 (i : Nat))]) [(0, _), (1, _), (2, _), (3, _), (4, _), (5, _), (6, _), (11, _), (12, _), (26, _)] (fun i => (bn, blk [.int .u64 ((onT isB stars m fr s b i : Nat) : Int)] 114) :: [(isn, blk [.func (.func F) [].toArray caps.toArray] 112), (sn, blk [.int .u64 (stars : Nat)] 114), (fn, blk [.func (.func 113) [].toArray [.pointer (some ⟨bn, 0, none⟩), .pointer (some ⟨isn, 0, none⟩), .pointer (some ⟨sn, 0, none⟩), .pointer (some ⟨fn, 0, none⟩)].toArray] 142)]) (fun i => []) [] (fun i => lenT stars - i) fr (⟨.inl rfl, Nat.le_refl _⟩) (by rw [onT_from isB stars m fr s b fr (Nat.le_refl _)]) (.c rfl .n) (.c rfl (.c rfl (.c rfl (.c rfl (.c rfl (.c rfl (.c rfl (.c rfl (.c rfl (.c rfl .n)))))))))) .n ?_
    rintro i ⟨hi, hfi⟩
    refine kSeq ?_
    refine kSeq ?_
    refine kRegion rfl ?_
    refine lV (yMove rfl) rfl rfl ?_
    refine lV (yLoad1 rfl O114 (cOwn 2 rfl rfl)) rfl rfl ?_
    refine lV (yCall rfl (.c rfl .n) C114 (fun w hw => len_any stars w ht)) rfl rfl ?_
    refine lV (yLss rfl rfl) rfl rfl ?_
    refine lNil ?_
    refine kThen ?_
    refine split (t := 30) rfl (fun h30 => ?_) (fun h30 => ?_)
    · refine kIfT rfl ?_
      refine kSkip ?_
      refine kThen ?_
      refine kSeq ?_
      refine kBlock ?_
      refine kSeq ?_
      refine kRegion rfl ?_
      refine lV (yLoad1 rfl O114 (cOwn 2 rfl rfl)) rfl rfl ?_
      refine lV (yMove rfl) rfl rfl ?_
      refine lV (yShr rfl rfl rfl (by omega)) rfl rfl ?_
      refine lV (yAnd (b := 1) rfl rfl rfl (by have := Nat.div_le_self stars (2 ^ i); omega) (by have := Nat.div_le_self stars (2 ^ i); omega)) rfl rfl ?_
      refine lV (yEql rfl rfl) rfl rfl ?_
      refine split (t := 37) rfl (fun h37 => ?_) (fun h37 => ?_)
      · have hbt := (bit1_iff stars i).1 h37
        have hp2 : 2 ^ i ≤ 2 ^ 10 := Nat.pow_le_pow_right (by omega) (by omega)
        refine lNil ?_
        refine kThen ?_
        refine kIfT rfl ?_
        refine kDrawE [(0, none)] [] [0, 1, 2, 3, 4, 5, 6, 7, 8] 1 hMix (by kernel_rfl) ?_
        refine .run rfl (yLoad1 rfl O142 (cOwn 3 rfl rfl)) rfl rfl ?_
        refine .run rfl (yMove rfl) rfl rfl ?_
        refine .run rfl (yMove rfl) rfl rfl ?_
        refine .run rfl (yShl (a := 1) rfl rfl rfl (by omega) (by omega)) rfl rfl ?_
        refine .run rfl (yOr rfl rfl rfl (by omega) (by omega)) rfl rfl ?_
        refine .run rfl (yMove rfl) rfl rfl ?_
        refine .run rfl (yvSame (u := i64 (m : Nat)) (ySub rfl rfl (by omega)) (by congr 1; omega)) rfl rfl ?_
        refine .run rfl (yMove rfl) rfl rfl ?_
        refine .run rfl (yvSame (u := i64 ((i + 1 : Nat) : Int)) (yAdd rfl rfl (by omega)) (by congr 1)) rfl rfl ?_
        refine .done ?_
        refine effStep 9 [] (by kernel_rfl) closedSt (hLeft [0] (by kernel_rfl) (.c (fun _ _ hs => hs.ef) .n)) ?_
        refine .c ?_ .n
        refine effOne rfl (gNone rfl (eCallWM 0 rfl rfl (.c rfl (.c rfl (.c rfl .n))) C113 (fun w hw hb => ih (i + 1) (s ||| 1 * 2 ^ i) (onT isB stars m fr s b i) w (by omega) (by omega) (subS_or hs hbt) (onT_lt isB stars ht m fr s b i hs hb0) (Eff.selfM hw) (fun w' o L' hw' => hI w' o _ ((Eff.lessL (A := [_]) (B := [_, _, _]) hw hr).wroteM (i := 0) rfl hw'))) trSelf)) ?_
        refine effDone closedSt (hLeft [] (by kernel_rfl) .n) (by kernel_rfl) ?_
        refine kInN ?_
        refine kThen ?_
        refine kRegion rfl ?_
        refine lV (yMove rfl) rfl rfl ?_
        refine lV (yAdd rfl rfl (by omega)) rfl rfl ?_
        refine lV (yAssign rfl) rfl rfl ?_
        refine lNil ?_
        exact kRoundX (i + 1) (⟨.inr (by omega), by omega⟩) (by omega) (by first | (rw [onT_succ, if_pos ⟨hfi, hbt⟩]; rfl) | (rw [onT_succ, if_neg (fun h => absurd h.2 hbt)])) (.c rfl .n) (.c rfl (.c rfl (.c rfl (.c rfl (.c rfl (.c rfl (.c rfl (.c rfl (.c rfl (.c rfl .n)))))))))) .n
      · have hbt : ¬ stars.testBit i = true := fun h => h37 ((bit1_iff stars i).2 h)
        refine lNil ?_
        refine kThen ?_
        refine kIfF rfl ?_
        refine kSkip ?_
        refine kInN ?_
        refine kThen ?_
        refine kRegion rfl ?_
        refine lV (yMove rfl) rfl rfl ?_
        refine lV (yAdd rfl rfl (by omega)) rfl rfl ?_
        refine lV (yAssign rfl) rfl rfl ?_
        refine lNil ?_
        exact kRoundX (i + 1) (⟨.inr (by omega), by omega⟩) (by omega) (by first | (rw [onT_succ, if_pos ⟨hfi, hbt⟩]; rfl) | (rw [onT_succ, if_neg (fun h => absurd h.2 hbt)])) (.c rfl .n) (.c rfl (.c rfl (.c rfl (.c rfl (.c rfl (.c rfl (.c rfl (.c rfl (.c rfl (.c rfl .n)))))))))) .n
    · refine kIfF rfl ?_
      refine kExit ?_
      refine kThenX ?_
      refine kThenX ?_
      refine kInX ?_
      refine fEnd rfl .n ?_
      have hfin : onT isB stars m fr s b i = onP isB stars (m + 1) fr s b := by
        rcases hi with rfl | hi
        · show _ = onT isB stars m i s b (lenT stars)
          rw [onT_from _ _ _ _ _ _ _ (Nat.le_refl _), onT_from _ _ _ _ _ _ _ (by omega)]
        · have : i = lenT stars := by omega
          subst this; rfl
      rw [hfin]
      exact fun w' hw' => ⟨rfl, (Eff.lessL (A := [_]) (B := [_, _, _]) hw' hr).sub .n⟩
end Go.Proofs.Ytlcdohhhhlhpmaa
