/- Strings compared. -/
import Derived.Test.YthkbeigimdgamaaK
namespace Go.Proofs.Ythkbeigimdgamaa
open Go Go.RowKit

theorem strNe {a b : ByteArray} (h : a ≠ b) : (a.toList == b.toList) = false := by
  rw [ByteArray.toList_eq, ByteArray.toList_eq]
  cases e : (a.data.toList == b.data.toList)
  · rfl
  · refine absurd ?_ h
    have e := eq_of_beq e
    obtain ⟨⟨a⟩⟩ := a
    obtain ⟨⟨b⟩⟩ := b
    simp at e
    rw [e]
theorem keep_b {w w' : World} {p : Addr} {v : Value} (hb : Below w.heap.size w w') (h : w.cell? p = some v) : w'.cell? p = some v := keep_cell h hb
theorem bel_next {w w1 w2 : World} (h : Below w.heap.size w w1) (h2 : Below w1.heap.size w1 w2) : Below w.heap.size w w2 := h.trans (h2.mono h.size)
end Go.Proofs.Ythkbeigimdgamaa
