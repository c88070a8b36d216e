/- event.parts -/
import Derived.Test.YthkbeigimdgamaaK
import Derived.OwnWalk
import Derived.Laws.AppendOwnNone
import Derived.Laws.OwnMore
import Derived.Deep.Cut
namespace Go.Proofs.Ythkbeigimdgamaa
open Go Go.RowKit

theorem Try.infoP : (Try.prog.info? 86).map (fun i => (i.zero, i.size, i.bytes)) = some (some (.pointer none), 1, 8) := by kernel_rfl
def ptrsL (b : Nat) (is : List Nat) : List Value := is.map fun i => .pointer (some ⟨b, i, none⟩)
theorem ownP_lit (w : World) (B b : Nat) (is : List Nat) (hB : B ≤ w.heap.size) (hl : is.length < 1000) : (w.alloc (.cells (ptrsL b is).toArray 86)).ownsRow B 86 1 (.slice (some ⟨w.heap.size, 0, none⟩) is.length is.length) is.length (ptrsL b is) := by
  have := World.ownsRow_lit (base := B) (e := 86) (size := 1) w (ptrsL b is).toArray is.length hB (by unfold maxLen; omega) (by simp [ptrsL])
  exact this
theorem ownP_ptrs {w : World} {B b : Nat} {v : Value} {is : List Nat} (h : w.ownsRow B 86 1 v is.length (ptrsL b is)) (hl : 0 < is.length) : Ptrs w B v b is := by
  obtain ⟨g, cap, hv, hB, _⟩ := World.ownsRow.form h hl
  subst hv
  refine ⟨_, cap, rfl, fun j hj => ⟨g, rfl, hB, ?_⟩⟩
  have := h.cells rfl j (.pointer (some ⟨b, is[j]!, none⟩)) (by simp [ptrsL, hj])
  rw [Addr.add_lit, Nat.zero_add] at this
  exact this

theorem wpList_appP {w : World} {ops : Array Oper} {rest : List Oper} {o : Oper} {a : Act} {Q : Exit → Act → World → Prop} (hgd : o.guard = none) (s x : Operand)
    (ho : o.op = .call { callee := .builtin .append, args := #[s, x], argTypes := #[83, 83] })
    (B b : Nat) (v : Value) (js ks : List Nat) (hs : a.eval s = v) (hown : w.ownsRow B 86 1 v js.length (ptrsL b js)) (ad : Addr) (c : Nat) (hx : a.eval x = .slice (some ad) ks.length c)
    (hcell : ∀ j, j < ks.length → w.cell? (ad.add j) = some (.pointer (some ⟨b, ks[j]!, none⟩))) (hj : 0 < js.length) (hlen : js.length + ks.length < 1000) (hbase : B ≤ w.heap.size)
    (h : ∀ v' w', Ptrs w' B v' b (js ++ ks) → Below B w w' → wpList Try.prog ops Q rest (a.put o.dst v') w') : wpList Try.prog ops Q (o :: rest) a w := by
  obtain ⟨i0, hi, hz0, hz1, hz2⟩ := info_parts Try.infoP
  have h63 : js.length + ks.length ≤ maxLen := by unfold maxLen; omega
  refine wpList_append_own w hgd s x 83 ho B 86 i0 (.pointer none) 1 8 Try.underlying83 hi hz0 hz1 hz2 rfl (by decide) v js.length (ptrsL b js) hs hown ad ks.length c (ptrsL b ks) hx (by simp [ptrsL])
    (fun j u hju => ?_) (fun u hu => ?_) h63 (by omega) hbase fun v' w' h1 h2 _ => ?_
  · have hjk : j < ks.length := by
      have := (List.getElem?_eq_some_iff.1 hju).1
      simpa [ptrsL] using this
    rw [hcell j hjk]
    simpa [ptrsL, hjk] using hju
  · simp only [ptrsL, List.mem_map] at hu
    obtain ⟨i, _, rfl⟩ := hu
    rfl
  · refine h v' w' (ownP_ptrs (by rw [List.length_append]; simpa [ptrsL] using h1) (by rw [List.length_append]; omega)) ?_
    exact (Below.refl _ _).grown h2 hbase fun k hk => (World.ownsRow.lt hown k hk).1

def eventIdx (k : Int) : List Nat := if k = 0 then [7] else if k = 1 then [1, 4, 5, 6] else if k = 2 then [1, 7] else if k = 3 then [1, 4] else if k = 4 then [1] else if k = 5 then [2, 1, 3, 7] else if k = 6 then [2, 4, 5, 7] else if k = 7 then [1] else if k = 8 then [] else if k = 9 then [2] else []
theorem eventIdx_nodup (k : Int) : (eventIdx k).Nodup := by
  unfold eventIdx
  repeat' (first | decide | split)
theorem eventIdx_range (k : Int) : ∀ i ∈ eventIdx k, 0 < i ∧ i < 8 := by
  unfold eventIdx
  repeat' (first | decide | split)
theorem eventIdx_lt (k : Int) : ∀ j, j < (eventIdx k).length → (eventIdx k)[j]! < 8 := by
  unfold eventIdx
  repeat' (first | decide | split)
theorem eventIdx_length (k : Int) : (eventIdx k).length ≤ 4 := by
  unfold eventIdx
  repeat' (first | decide | split)

set_option maxRecDepth 100000 in
set_option maxHeartbeats 3200000 in
theorem eventParts_any (b : Nat) (k : Int) (w : World) (h : w.cell? ⟨b, 0, none⟩ = some (.int .i64 k)) : Calls Try.prog 57 #[.pointer (some ⟨b, 0, none⟩)] w fun e w' => ∃ v, e = .returned v ∧ Ptrs w' w.heap.size v b (eventIdx k) ∧ Below w.heap.size w w' := by
  have hn := Below.refl w.heap.size w
  have hc : k = 0 ∨ k = 1 ∨ k = 2 ∨ k = 3 ∨ k = 4 ∨ k = 5 ∨ k = 6 ∨ k = 7 ∨ k = 8 ∨ k = 9 ∨ (k ≠ 0 ∧ k ≠ 1 ∧ k ≠ 2 ∧ k ≠ 3 ∧ k ≠ 4 ∧ k ≠ 5 ∧ k ≠ 6 ∧ k ≠ 7 ∧ k ≠ 8 ∧ k ≠ 9) := by omega
  rcases hc with rfl | rfl | rfl | rfl | rfl | rfl | rfl | rfl | rfl | rfl | ⟨g0, g1, g2, g3, g4, g5, g6, g7, g8, g9⟩
  · have P := Lib.hid (ptrs_new w w.heap.size b [7] 86 (Nat.le_refl _))
    go_enter Try.func57, Try.ntmps57
    go_wp2
    go_ret
    exact ⟨_, rfl, P.out, (hn.alloc (Nat.le_refl _) _)⟩
  · have P := Lib.hid (ptrs_new w w.heap.size b [1, 4, 5, 6] 86 (Nat.le_refl _))
    go_enter Try.func57, Try.ntmps57
    go_wp2
    go_region
    go_wp2
    go_ret
    exact ⟨_, rfl, P.out, (hn.alloc (Nat.le_refl _) _).drew⟩
  · have P := Lib.hid (ptrs_new w w.heap.size b [1, 7] 86 (Nat.le_refl _))
    go_enter Try.func57, Try.ntmps57
    go_wp2
    go_region
    go_wp2
    go_ret
    exact ⟨_, rfl, P.out, (hn.alloc (Nat.le_refl _) _).drew⟩
  · have HT := Lib.hid (fun j (hj : j < 1) => show (w.alloc (.cells (ptrsL b [4]).toArray 86)).cell? ⟨w.heap.size, j, none⟩ = some (.pointer (some ⟨b, [4][j]!, none⟩)) from by
      refine (World.cell?_alloc_mark w _ _ _ j).trans ?_
      match j, hj with
      | 0, _ => rfl)
    have BT := Lib.hid (show Below w.heap.size w (w.alloc (.cells #[.pointer (some ⟨b, 4, none⟩)] 86)) from hn.alloc (Nat.le_refl _) _)
    have HT2 := Lib.hid (fun j (hj : j < 1) => show ((w.alloc (.cells #[.pointer (some ⟨b, 4, none⟩)] 86))).cell? ⟨w.heap.size, j, none⟩ = some (.pointer (some ⟨b, [4][j]!, none⟩)) from HT.out j hj)
    have ST := Lib.hid (show ((w.alloc (.cells #[.pointer (some ⟨b, 4, none⟩)] 86))).heap.size = w.heap.size + 1 from by simp)
    go_enter Try.func57, Try.ntmps57
    go_upto_region 14 with (fail)
    have OW := Lib.hid (ownP_lit ((w.alloc (.cells #[.pointer (some ⟨b, 4, none⟩)] 86))) w.heap.size b [1] (by rw [ST.out]; omega) (by simp))
    have HT3 := Lib.hid (fun j hj => keep_cell (HT2.out j hj) (show Below ((w.alloc (.cells #[.pointer (some ⟨b, 4, none⟩)] 86))).heap.size ((w.alloc (.cells #[.pointer (some ⟨b, 4, none⟩)] 86))) (((w.alloc (.cells #[.pointer (some ⟨b, 4, none⟩)] 86))).alloc (.cells (ptrsL b [1]).toArray 86)) from (Below.refl _ _).alloc (Nat.le_refl _) _))
    rw [ST.out] at OW
    have BL := Lib.hid (show Below w.heap.size w (((w.alloc (.cells #[.pointer (some ⟨b, 4, none⟩)] 86))).alloc (.cells (ptrsL b [1]).toArray 86)) from BT.out.alloc BT.out.size _)
    clear HT HT2 h
    generalize (w.alloc (.cells #[.pointer (some ⟨b, 4, none⟩)] 86)) = wt at OW HT3 ST BL BT ⊢
    have HZ := Lib.hid (show w.heap.size ≤ (wt.alloc (.cells (ptrsL b [1]).toArray 86)).heap.size from by have := ST.out; simp; omega)
    have st := ST.out
    go_wp2_with (at_builtin; refine wpList_appP rfl (.tmp 45) (.tmp 46) rfl w.heap.size b _ [1] [4] rfl OW.out ⟨w.heap.size, 0, none⟩ 1 rfl (fun j hj => by rw [Addr.add_lit, Nat.zero_add]; exact HT3.out j hj) (by simp) (by simp) HZ.out ?_; intro v1 w1 P1 bel1)
    go_wp2
    go_ret
    exact ⟨_, rfl, P1, BL.out.trans bel1⟩
  · have OW := Lib.hid (ownP_lit w w.heap.size b [1] (Nat.le_refl _) (by simp))
    have hOW : (w.alloc (.cells #[.pointer (some ⟨b, 1, none⟩)] 86)).ownsRow w.heap.size 86 1 (.slice (some ⟨w.heap.size, 0, none⟩) 1 1) 1 (ptrsL b [1]) := OW.out
    have HOW := Lib.hid hOW
    clear hOW OW
    obtain ⟨i0, hi0⟩ : ∃ i0, Try.prog.info? 86 = some i0 := by obtain ⟨i0, hi, _⟩ := info_parts Try.infoP; exact ⟨i0, hi⟩
    have HI0 := Lib.hid hi0
    clear hi0
    go_enter Try.func57, Try.ntmps57
    go_wp2_with (at_builtin; refine wpList_append_own_none rfl (.tmp 45) (.tmp 46) 83 rfl w.heap.size 86 i0 1 Try.underlying83 HI0.out _ 1 (ptrsL b [1]) rfl HOW.out rfl ?_)
    go_wp2
    go_ret
    exact ⟨_, rfl, ownP_ptrs (is := [1]) HOW.out (by simp), hn.alloc (Nat.le_refl _) _⟩
  · have P := Lib.hid (ptrs_new w w.heap.size b [2, 1, 3, 7] 86 (Nat.le_refl _))
    go_enter Try.func57, Try.ntmps57
    go_wp2
    go_region
    go_wp2
    go_ret
    exact ⟨_, rfl, P.out, (hn.alloc (Nat.le_refl _) _).drew⟩
  · have HT := Lib.hid (fun j (hj : j < 3) => show (w.alloc (.cells (ptrsL b [4, 5, 7]).toArray 86)).cell? ⟨w.heap.size, j, none⟩ = some (.pointer (some ⟨b, [4, 5, 7][j]!, none⟩)) from by
      refine (World.cell?_alloc_mark w _ _ _ j).trans ?_
      match j, hj with
      | 0, _ => rfl
      | 1, _ => rfl
      | 2, _ => rfl)
    have BT := Lib.hid (show Below w.heap.size w (w.alloc (.cells #[.pointer (some ⟨b, 4, none⟩), .pointer (some ⟨b, 5, none⟩), .pointer (some ⟨b, 7, none⟩)] 86)).drew from (hn.alloc (Nat.le_refl _) _).drew)
    have HT2 := Lib.hid (fun j (hj : j < 3) => show ((w.alloc (.cells #[.pointer (some ⟨b, 4, none⟩), .pointer (some ⟨b, 5, none⟩), .pointer (some ⟨b, 7, none⟩)] 86)).drew).cell? ⟨w.heap.size, j, none⟩ = some (.pointer (some ⟨b, [4, 5, 7][j]!, none⟩)) from HT.out j hj)
    have ST := Lib.hid (show ((w.alloc (.cells #[.pointer (some ⟨b, 4, none⟩), .pointer (some ⟨b, 5, none⟩), .pointer (some ⟨b, 7, none⟩)] 86)).drew).heap.size = w.heap.size + 1 from by simp)
    go_enter Try.func57, Try.ntmps57
    go_wp2_with fail
    go_region
    go_upto_region 18 with (fail)
    have OW := Lib.hid (ownP_lit ((w.alloc (.cells #[.pointer (some ⟨b, 4, none⟩), .pointer (some ⟨b, 5, none⟩), .pointer (some ⟨b, 7, none⟩)] 86)).drew) w.heap.size b [2] (by rw [ST.out]; omega) (by simp))
    have HT3 := Lib.hid (fun j hj => keep_cell (HT2.out j hj) (show Below ((w.alloc (.cells #[.pointer (some ⟨b, 4, none⟩), .pointer (some ⟨b, 5, none⟩), .pointer (some ⟨b, 7, none⟩)] 86)).drew).heap.size ((w.alloc (.cells #[.pointer (some ⟨b, 4, none⟩), .pointer (some ⟨b, 5, none⟩), .pointer (some ⟨b, 7, none⟩)] 86)).drew) (((w.alloc (.cells #[.pointer (some ⟨b, 4, none⟩), .pointer (some ⟨b, 5, none⟩), .pointer (some ⟨b, 7, none⟩)] 86)).drew).alloc (.cells (ptrsL b [2]).toArray 86)) from (Below.refl _ _).alloc (Nat.le_refl _) _))
    rw [ST.out] at OW
    have BL := Lib.hid (show Below w.heap.size w (((w.alloc (.cells #[.pointer (some ⟨b, 4, none⟩), .pointer (some ⟨b, 5, none⟩), .pointer (some ⟨b, 7, none⟩)] 86)).drew).alloc (.cells (ptrsL b [2]).toArray 86)) from BT.out.alloc BT.out.size _)
    clear HT HT2 h
    generalize (w.alloc (.cells #[.pointer (some ⟨b, 4, none⟩), .pointer (some ⟨b, 5, none⟩), .pointer (some ⟨b, 7, none⟩)] 86)).drew = wt at OW HT3 ST BL BT ⊢
    have HZ := Lib.hid (show w.heap.size ≤ (wt.alloc (.cells (ptrsL b [2]).toArray 86)).heap.size from by have := ST.out; simp; omega)
    have st := ST.out
    go_wp2_with (at_builtin; refine wpList_appP rfl (.tmp 81) (.tmp 82) rfl w.heap.size b _ [2] [4, 5, 7] rfl OW.out ⟨w.heap.size, 0, none⟩ 3 rfl (fun j hj => by rw [Addr.add_lit, Nat.zero_add]; exact HT3.out j hj) (by simp) (by simp) HZ.out ?_; intro v1 w1 P1 bel1)
    go_wp2
    go_ret
    exact ⟨_, rfl, P1, BL.out.trans bel1⟩
  · have OW := Lib.hid (ownP_lit w w.heap.size b [1] (Nat.le_refl _) (by simp))
    have hOW : (w.alloc (.cells #[.pointer (some ⟨b, 1, none⟩)] 86)).ownsRow w.heap.size 86 1 (.slice (some ⟨w.heap.size, 0, none⟩) 1 1) 1 (ptrsL b [1]) := OW.out
    have HOW := Lib.hid hOW
    clear hOW OW
    obtain ⟨i0, hi0⟩ : ∃ i0, Try.prog.info? 86 = some i0 := by obtain ⟨i0, hi, _⟩ := info_parts Try.infoP; exact ⟨i0, hi⟩
    have HI0 := Lib.hid hi0
    clear hi0
    go_enter Try.func57, Try.ntmps57
    go_wp2_with (at_builtin; refine wpList_append_own_none rfl (.tmp 45) (.tmp 46) 83 rfl w.heap.size 86 i0 1 Try.underlying83 HI0.out _ 1 (ptrsL b [1]) rfl HOW.out rfl ?_)
    go_wp2
    go_ret
    exact ⟨_, rfl, ownP_ptrs (is := [1]) HOW.out (by simp), hn.alloc (Nat.le_refl _) _⟩
  · go_enter Try.func57, Try.ntmps57
    go_wp2
    go_ret
    exact ⟨_, rfl, ptrs_nil _ _ _, hn⟩
  · have OW := Lib.hid (ownP_lit w w.heap.size b [2] (Nat.le_refl _) (by simp))
    have hOW : (w.alloc (.cells #[.pointer (some ⟨b, 2, none⟩)] 86)).ownsRow w.heap.size 86 1 (.slice (some ⟨w.heap.size, 0, none⟩) 1 1) 1 (ptrsL b [2]) := OW.out
    have HOW := Lib.hid hOW
    clear hOW OW
    obtain ⟨i0, hi0⟩ : ∃ i0, Try.prog.info? 86 = some i0 := by obtain ⟨i0, hi, _⟩ := info_parts Try.infoP; exact ⟨i0, hi⟩
    have HI0 := Lib.hid hi0
    clear hi0
    go_enter Try.func57, Try.ntmps57
    go_wp2_with (at_builtin; refine wpList_append_own_none rfl (.tmp 81) (.tmp 82) 83 rfl w.heap.size 86 i0 1 Try.underlying83 HI0.out _ 1 (ptrsL b [2]) rfl HOW.out rfl ?_)
    go_wp2
    go_ret
    exact ⟨_, rfl, ownP_ptrs (is := [2]) HOW.out (by simp), hn.alloc (Nat.le_refl _) _⟩
  · have P := Lib.hid (show eventIdx k = [] from by unfold eventIdx; simp only [if_neg g0, if_neg g1, if_neg g2, if_neg g3, if_neg g4, if_neg g5, if_neg g6, if_neg g7, if_neg g8, if_neg g9])
    rw [P.out]
    have e0 := bne_of k 0 g0
    have e1 := bne_of k 1 g1
    have e2 := bne_of k 2 g2
    have e3 := bne_of k 3 g3
    have e4 := bne_of k 4 g4
    have e5 := bne_of k 5 g5
    have e6 := bne_of k 6 g6
    have e7 := bne_of k 7 g7
    have e8 := bne_of k 8 g8
    have e9 := bne_of k 9 g9
    clear g0 g1 g2 g3 g4 g5 g6 g7 g8 g9
    go_enter Try.func57, Try.ntmps57
    go_wp2
    go_ret
    exact ⟨_, rfl, ptrs_nil _ _ _, hn⟩
end Go.Proofs.Ythkbeigimdgamaa
