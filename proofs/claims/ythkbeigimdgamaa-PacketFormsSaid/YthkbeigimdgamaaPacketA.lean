/- packet.parts -/
import Derived.Test.YthkbeigimdgamaaK
import Derived.OwnWalk
namespace Go.Proofs.Ythkbeigimdgamaa
open Go Go.RowKit

def packetIdx (k : Int) : List Nat := if k = 0 then [1, 2] else if k = 1 then [3, 4, 5] else if k = 2 then [4, 2, 5] else if k = 3 then [6, 7, 4] else if k = 4 then [6, 4] else []
theorem packetIdx_nodup (k : Int) : (packetIdx k).Nodup := by
  unfold packetIdx
  repeat' (first | decide | split)
theorem packetIdx_range (k : Int) : ∀ i ∈ packetIdx k, 0 < i ∧ i < 8 := by
  unfold packetIdx
  repeat' (first | decide | split)
theorem packetIdx_lt (k : Int) : ∀ j, j < (packetIdx k).length → (packetIdx k)[j]! < 8 := by
  unfold packetIdx
  repeat' (first | decide | split)
theorem packetIdx_length (k : Int) : (packetIdx k).length ≤ 4 := by
  unfold packetIdx
  repeat' (first | decide | split)

set_option maxRecDepth 100000 in
set_option maxHeartbeats 3200000 in
theorem packetParts_any (b : Nat) (k : Int) (w : World) (h : w.cell? ⟨b, 0, none⟩ = some (.int .i64 k)) : Calls Try.prog 60 #[.pointer (some ⟨b, 0, none⟩)] w fun e w' => ∃ v, e = .returned v ∧ Ptrs w' w.heap.size v b (packetIdx k) ∧ Below w.heap.size w w' := by
  have hn := Below.refl w.heap.size w
  have hc : k = 0 ∨ k = 1 ∨ k = 2 ∨ k = 3 ∨ k = 4 ∨ (k ≠ 0 ∧ k ≠ 1 ∧ k ≠ 2 ∧ k ≠ 3 ∧ k ≠ 4) := by omega
  rcases hc with rfl | rfl | rfl | rfl | rfl | ⟨g0, g1, g2, g3, g4⟩
  · have P := Lib.hid (ptrs_new w w.heap.size b [1, 2] 86 (Nat.le_refl _))
    go_enter Try.func60, Try.ntmps60
    go_wp2
    go_region
    go_wp2
    go_ret
    exact ⟨_, rfl, P.out, (hn.alloc (Nat.le_refl _) _).drew⟩
  · have P := Lib.hid (ptrs_new w w.heap.size b [3, 4, 5] 86 (Nat.le_refl _))
    go_enter Try.func60, Try.ntmps60
    go_wp2
    go_region
    go_wp2
    go_ret
    exact ⟨_, rfl, P.out, (hn.alloc (Nat.le_refl _) _).drew⟩
  · have P := Lib.hid (ptrs_new w w.heap.size b [4, 2, 5] 86 (Nat.le_refl _))
    go_enter Try.func60, Try.ntmps60
    go_wp2
    go_region
    go_wp2
    go_ret
    exact ⟨_, rfl, P.out, (hn.alloc (Nat.le_refl _) _).drew⟩
  · have P := Lib.hid (ptrs_new w w.heap.size b [6, 7, 4] 86 (Nat.le_refl _))
    go_enter Try.func60, Try.ntmps60
    go_wp2
    go_region
    go_wp2
    go_ret
    exact ⟨_, rfl, P.out, (hn.alloc (Nat.le_refl _) _).drew⟩
  · have P := Lib.hid (ptrs_new w w.heap.size b [6, 4] 86 (Nat.le_refl _))
    go_enter Try.func60, Try.ntmps60
    go_wp2
    go_region
    go_wp2
    go_ret
    exact ⟨_, rfl, P.out, (hn.alloc (Nat.le_refl _) _).drew⟩
  · have P := Lib.hid (show packetIdx k = [] from by unfold packetIdx; simp only [if_neg g0, if_neg g1, if_neg g2, if_neg g3, if_neg g4])
    rw [P.out]
    have e0 := bne_of k 0 g0
    have e1 := bne_of k 1 g1
    have e2 := bne_of k 2 g2
    have e3 := bne_of k 3 g3
    have e4 := bne_of k 4 g4
    clear g0 g1 g2 g3 g4
    go_enter Try.func60, Try.ntmps60
    go_wp2
    go_ret
    exact ⟨_, rfl, ptrs_nil _ _ _, hn⟩
end Go.Proofs.Ythkbeigimdgamaa
