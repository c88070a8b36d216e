/- Contracts of pool.with, bastionref12.with, bastionref12.poolMay, and of the closures of pool.Lease. -/
import Derived.Test.YtapacdkcekbnaaaD
namespace Go.Proofs.Ytapacdkcekbnaaa
open Go Go.RowKit

theorem box3 {w w1 : World} {B : Nat} {x0 x1 x2 : Value} (hb : Below B (w.alloc (.cells #[x0, x1, x2] 46)) w1) (hB : w.heap.size < B) :
    w1.cell? ⟨w.heap.size, 0, none⟩ = some x0 ∧ w1.cell? ⟨w.heap.size, 1, none⟩ = some x1 ∧ w1.cell? ⟨w.heap.size, 2, none⟩ = some x2 :=
  ⟨by rw [hb.cell (p := ⟨w.heap.size, 0, none⟩) hB]; simp, by rw [hb.cell (p := ⟨w.heap.size, 1, none⟩) hB]; simp, by rw [hb.cell (p := ⟨w.heap.size, 2, none⟩) hB]; simp⟩

/-- The cells of an element of a row of the call's own: they are there, and may be written. -/
theorem Own.elem {w : World} {B g cap : Nat} {l : List Ad} (h : Own w B (.slice (some ⟨g, 0, none⟩) l.length cap) l) (k : Nat) (hk : k < l.length) :
    (w.cell? ⟨g, k * 3, none⟩ = some (.bool l[k]!.busy) ∧ w.cell? ⟨g, k * 3 + 1, none⟩ = some (.int .i64 l[k]!.last) ∧ w.cell? ⟨g, k * 3 + 2, none⟩ = some (.int .i64 l[k]!.til)) ∧ ∀ j, w.frozen? ⟨g, j, none⟩ = false := by
  obtain ⟨h0, h1, h2⟩ := cellsOf_at l k hk
  have hc := fun j hj => World.ownsRow.cellAt (g := g) (cap := cap) h j hj
  exact ⟨⟨by rw [hc _ (by omega)]; exact h0, by rw [hc _ (by omega)]; exact h1, by rw [hc _ (by omega)]; exact h2⟩, fun j => World.ownsRow.frozenAt (g := g) (cap := cap) h j⟩

set_option maxHeartbeats 1000000 in
theorem with_any (v : Value) (l : List Ad) (k : Nat) (x : Ad) (w : World) (hv : Sl w v l) (hk : k < l.length) (hr : l.length * 24 ≤ 140737488355328) :
    Calls Try.prog 33 #[v, .int .i64 k, x.val] w fun e w' => ∃ v', e = .returned v' ∧ Own w' w.heap.size v' (l.set k x) ∧ Below w.heap.size w w' := by
  have hc := fun W hW => clone_any v l W (hv.below hW) hr
  clear hv
  unfold Ad.val
  have hbig : l.length ≤ 9223372036854775807 := by omega
  have hki : (k : Int) < (l.length : Int) := by omega
  go_enter Try.func33, Try.ntmps33
  go_wp2_with (go_at_call 38; refine (hc _ ((Below.refl _ _).alloc (Nat.le_refl _) _)).mono ?_; rintro e w1 ⟨v1, rfl, hown, hb⟩; obtain ⟨g, cap, rfl, hg, hgs, hcap⟩ := hown.form (by omega); obtain ⟨b0, b1, b2⟩ := box3 hb (by simp); obtain ⟨⟨c0, c1, c2⟩, hf⟩ := hown.elem k hk; have f0 := hf (k * 3); have f1 := hf (k * 3 + 1); have f2 := hf (k * 3 + 2); clear hf)
  go_ret
  have R := (hown.set k hk x).low (B' := w.heap.size) (by simp)
  rw [List.length_set] at R
  refine ⟨_, rfl, R, ?_⟩
  have hB : w.heap.size ≤ g := by simp at hg; omega
  exact (((((Below.refl _ _).alloc (Nat.le_refl _) _).trans (hb.mono (by simp))).setCell (by exact hB) _).setCell (by exact hB) _).setCell (by exact hB) _

set_option maxHeartbeats 1000000 in
theorem refWith_any (v : Value) (l : List Ad) (k : Nat) (x : Ad) (w : World) (hv : Sl w v l) (hk : k < l.length) (hr : l.length * 24 ≤ 140737488355328) :
    Calls Try.prog 34 #[v, .int .i64 k, x.val] w fun e w' => ∃ v', e = .returned v' ∧ Own w' w.heap.size v' (l.set k x) ∧ Below w.heap.size w w' := by
  have hs : Sl ((w.alloc (.cells #[.bool x.busy, .int .i64 x.last, .int .i64 x.til] 46)).alloc (.cells #[] 46)) v l :=
    hv.below (((Below.refl _ _).alloc (Nat.le_refl _) _).alloc (by simp) _)
  have ho := own_empty (w.alloc (.cells #[.bool x.busy, .int .i64 x.last, .int .i64 x.til] 46))
  simp only [World.size_alloc] at ho
  have hki : (k : Int) < (l.length : Int) := by omega
  have hbig : l.length ≤ 9223372036854775807 := by omega
  clear hv
  unfold Ad.val
  go_enter Try.func34, Try.ntmps34
  go_wp2_with (at_builtin; refine wpList_app rfl _ _ rfl (w.heap.size + 1) (.slice (some ⟨w.heap.size + 1, 0, none⟩) 0 0) _ [] l rfl ho rfl hs (by simpa using hr) (by simp) ?_; intro v1 w1 hown hb; rw [List.nil_append] at hown; obtain ⟨g, cap, rfl, hg, hgs, hcap⟩ := hown.form (by omega); obtain ⟨b0, b1, b2⟩ := box3 (((Below.refl _ _).alloc (by simp) _).trans hb) (by simp); obtain ⟨⟨c0, c1, c2⟩, hf⟩ := hown.elem k hk; have f0 := hf (k * 3); have f1 := hf (k * 3 + 1); have f2 := hf (k * 3 + 2); clear hf)
  go_ret
  have R := (hown.set k hk x).low (B' := w.heap.size) (by simp)
  rw [List.length_set] at R
  refine ⟨_, rfl, R, ?_⟩
  have hB : w.heap.size ≤ g := by omega
  exact ((((((Below.refl _ _).alloc (Nat.le_refl _) _).alloc (by simp) _).trans (hb.mono (by simp))).setCell (by exact hB) _).setCell (by exact hB) _).setCell (by exact hB) _

/-! ### the closures of pool.Lease -/

theorem enters24 : ∀ args w, (callFunc 24 args).run Try.prog w = .ok (.enter 24 args) w := enters_of Try.func24 (by kernel_rfl) rfl
theorem enters26 : ∀ args w, (callFunc 26 args).run Try.prog w = .ok (.enter 26 args) w := enters_of Try.func26 (by kernel_rfl) rfl
theorem enters27 : ∀ args w, (callFunc 27 args).run Try.prog w = .ok (.enter 27 args) w := enters_of Try.func27 (by kernel_rfl) rfl
theorem enters28 : ∀ args w, (callFunc 28 args).run Try.prog w = .ok (.enter 28 args) w := enters_of Try.func28 (by kernel_rfl) rfl

def freeB (t : Int) (x : Ad) : Bool := !x.busy && decide (x.til ≤ t)

theorem free_any (x : Ad) (t : Int) (p : Addr) (w : World) (hp : w.cell? p = some (.int .i64 t)) (hlt : p.block < w.heap.size) :
    Calls Try.prog 26 #[x.val, .pointer (some p)] w fun e w' => e = .returned (.bool (freeB t x)) ∧ Below w.heap.size w w' := by
  have h1 : (w.alloc (.cells #[.bool x.busy, .int .i64 x.last, .int .i64 x.til] 46)).cell? p = some (.int .i64 t) := by
    rw [World.cell?_alloc_lt w _ p hlt]; exact hp
  obtain ⟨b, l, u⟩ := x
  unfold Ad.val
  cases b
  all_goals
    go_enter Try.func26, Try.ntmps26
    go_wp2_with fail
    go_ret
    exact ⟨by simp [freeB], (Below.refl _ _).alloc (Nat.le_refl _) _⟩

theorem keep_cell {w w' : World} {p : Addr} {u : Value} (h : w.cell? p = some u) (hb : Below w.heap.size w w') : w'.cell? p = some u :=
  (hb.cell (World.block_lt_of_cell? w p h)).trans h

set_option maxHeartbeats 1000000 in
theorem freeOwn_any (x : Ad) (t u : Int) (pf pt pu : Addr) (w : World) (hf : w.cell? pf = some (.func (.func 26) #[] #[.pointer (some pt)])) (ht : w.cell? pt = some (.int .i64 t)) (hu : w.cell? pu = some (.int .i64 u)) :
    Calls Try.prog 27 #[x.val, .pointer (some pf), .pointer (some pu)] w fun e w' => e = .returned (.bool (freeB t x && (x.last == u))) ∧ Below w.heap.size w w' := by
  have hb0 : Below w.heap.size w (w.alloc (.cells #[.bool x.busy, .int .i64 x.last, .int .i64 x.til] 46)) := (Below.refl _ _).alloc (Nat.le_refl _) _
  have f1 := keep_cell hf hb0
  have t1 := keep_cell ht hb0
  have u1 := keep_cell hu hb0
  have hc := free_any x t pt _ t1 (World.block_lt_of_cell? _ _ t1)
  clear hf ht hu t1
  have hb1 : ∀ w', Below (w.alloc (.cells #[.bool x.busy, .int .i64 x.last, .int .i64 x.til] 46)).heap.size (w.alloc (.cells #[.bool x.busy, .int .i64 x.last, .int .i64 x.til] 46)) w' → w'.cell? pu = some (.int .i64 u) := fun w' hb' => keep_cell u1 hb'
  have HB1 := Lib.hid hb1
  clear hb1
  have eg := enters26
  have HB0 := Lib.hid hb0
  clear hb0
  cases hq : freeB t x
  all_goals
    rw [hq] at hc
    clear hq
    unfold Ad.val at hc ⊢
    go_enter Try.func27, Try.ntmps27
    go_wp2_with (go_at_call 26; refine hc.mono ?_; rintro e w1 ⟨rfl, hb⟩; have u2 := HB1.out w1 hb; obtain ⟨b0, b1, b2⟩ := box3 hb (by simp))
    go_ret
    exact ⟨by simp, HB0.out.trans (hb.mono (by simp))⟩

set_option maxHeartbeats 1000000 in
theorem freeNew_any (x : Ad) (t : Int) (pf pt : Addr) (w : World) (hf : w.cell? pf = some (.func (.func 26) #[] #[.pointer (some pt)])) (ht : w.cell? pt = some (.int .i64 t)) :
    Calls Try.prog 28 #[x.val, .pointer (some pf)] w fun e w' => e = .returned (.bool (freeB t x && (x.last == -1))) ∧ Below w.heap.size w w' := by
  have hb0 : Below w.heap.size w (w.alloc (.cells #[.bool x.busy, .int .i64 x.last, .int .i64 x.til] 46)) := (Below.refl _ _).alloc (Nat.le_refl _) _
  have f1 := keep_cell hf hb0
  have t1 := keep_cell ht hb0
  have hc := free_any x t pt _ t1 (World.block_lt_of_cell? _ _ t1)
  clear hf ht t1
  have eg := enters26
  have HB0 := Lib.hid hb0
  clear hb0
  cases hq : freeB t x
  all_goals
    rw [hq] at hc
    clear hq
    unfold Ad.val at hc ⊢
    go_enter Try.func28, Try.ntmps28
    go_wp2_with (go_at_call 26; refine hc.mono ?_; rintro e w1 ⟨rfl, hb⟩; obtain ⟨b0, b1, b2⟩ := box3 hb (by simp))
    go_ret
    exact ⟨by simp, HB0.out.trans (hb.mono (by simp))⟩
end Go.Proofs.Ytapacdkcekbnaaa
