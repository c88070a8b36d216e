/- The readers. -/
import Derived.Test.YthkbeigimdgamaaH
import Derived.Deep.RegionWith
namespace Go.Proofs.Ythkbeigimdgamaa
open Go Go.RowKit

/-- Nothing that was is turned but block b. -/
structure Only (b : Nat) (w w' : World) : Prop where
  os : w'.os = w.os
  tape : w'.tape = w.tape
  output : w'.output = w.output
  size : w.heap.size ≤ w'.heap.size
  block : ∀ k, k < w.heap.size → k ≠ b → w'.heap[k]? = w.heap[k]?

theorem Only.refl (b : Nat) (w : World) : Only b w w := ⟨rfl, rfl, rfl, Nat.le_refl _, fun _ _ _ => rfl⟩
theorem Only.trans {b : Nat} {u v w : World} (h : Only b u v) (k : Only b v w) : Only b u w :=
  ⟨k.os.trans h.os, k.tape.trans h.tape, k.output.trans h.output, Nat.le_trans h.size k.size, fun i hi hb => (k.block i (Nat.lt_of_lt_of_le hi h.size) hb).trans (h.block i hi hb)⟩
theorem Only.of_below {w w' : World} (b : Nat) (h : Below w.heap.size w w') : Only b w w' := ⟨h.os, h.tape, h.output, h.size, fun k hk _ => h.block k hk⟩
theorem Only.below {b B : Nat} {w w' : World} (h : Only b w w') (hB : B ≤ b) (hb : b < w.heap.size) : Below B w w' :=
  ⟨h.os, h.tape, h.output, h.size, fun k hk => h.block k (by omega) (by omega)⟩
theorem Only.setCell {b : Nat} {u w : World} (h : Only b u w) {p : Addr} (hp : p.block = b) (v : Value) : Only b u (w.setCell p v) := by
  have h2 : Below b w (w.setCell p v) := (Below.refl _ _).setCell (by omega) v
  have h3 : ∀ k, k ≠ p.block → (w.setCell p v).heap[k]? = w.heap[k]? := fun k hk => Below.heap_setCell _ _ _ _ hk
  exact h.trans ⟨h2.os, h2.tape, h2.output, h2.size, fun k _ hk => h3 k (by omega)⟩

theorem Only.cell {b : Nat} {w w' : World} (h : Only b w w') {p : Addr} (hp : p.block ≠ b) {v : Value} (hc : w.cell? p = some v) : w'.cell? p = some v := by
  have hl := World.block_lt_of_cell? _ _ hc
  exact (World.cell?_of_block (w := w) (h.block p.block hl hp)).trans hc

theorem cell_here (w : World) (b o o' : Nat) (u v : Value) (h : w.cell? ⟨b, o', none⟩ = some v) : (w.setCell ⟨b, o, none⟩ u).cell? ⟨b, o', none⟩ = some (if o' = o then u else v) := by
  by_cases e : o' = o
  · subst e
    rw [if_pos rfl]
    exact World.cell?_setCell_same w ⟨b, o', none⟩ u h
  · rw [if_neg e, World.cell?_setCell_other w ⟨b, o, none⟩ ⟨b, o', none⟩ u (fun e' => e (by injection e' with _ e'; exact e'.symm))]
    exact h

/-- A reader of the program at block b. -/
def Rd (w : World) (b : Nat) (l : List UInt8) (st : Option Int) : Prop :=
  w.cell? ⟨b, 0, none⟩ = some (strV l) ∧ (∀ j, w.frozen? ⟨b, j, none⟩ = false) ∧
  ∃ a v, w.cell? ⟨b, 1, none⟩ = some (.int .i64 a) ∧ w.cell? ⟨b, 2, none⟩ = some v ∧ ((st = some a ∧ v = .nilIface) ∨ (st = none ∧ ∃ g, v = .iface 126 (.pointer (some ⟨g, 0, none⟩))))

def stOf (t c : Int) : Option Int := if c = 0 then some t else none

def rdNum (l : List UInt8) : Option Int → Int × Option Int
  | none => (0, none)
  | some a => ((getF l a).1, stOf (getF l a).2.1 (getF l a).2.2)
def rdText (l : List UInt8) : Option Int → List UInt8 × Option Int
  | none => ([], none)
  | some a => ((textF l a).1, stOf (textF l a).2.1 (textF l a).2.2)
theorem rdNum_some (l : List UInt8) (a : Int) : rdNum l (some a) = ((getF l a).1, stOf (getF l a).2.1 (getF l a).2.2) := rfl
theorem rdText_some (l : List UInt8) (a : Int) : rdText l (some a) = ((textF l a).1, stOf (textF l a).2.1 (textF l a).2.2) := rfl

theorem rd_after {w : World} {b : Nat} {l : List UInt8} {v0 v1 v : Value} {c : Int} (t : Int) (h0 : w.cell? ⟨b, 0, none⟩ = some (strV l)) (h1 : w.cell? ⟨b, 1, none⟩ = some v0) (h2 : w.cell? ⟨b, 2, none⟩ = some v1)
    (hf : ∀ j, w.frozen? ⟨b, j, none⟩ = false) (hv : IsErr w v c) : Rd ((w.setCell ⟨b, 1, none⟩ (.int .i64 t)).setCell ⟨b, 2, none⟩ v) b l (stOf t c) := by
  unfold stOf
  refine ⟨?_, fun j => by rw [World.frozen?_setCell, World.frozen?_setCell]; exact hf j, t, v, ?_, ?_, ?_⟩
  · exact cell_here _ _ _ _ _ _ (cell_here _ _ _ _ _ _ h0)
  · exact cell_here _ _ _ _ _ (.int .i64 t) (cell_here _ _ _ _ _ _ h1)
  · exact cell_here _ _ _ _ _ v1 (cell_here _ _ _ _ _ _ h2)
  · rcases hv with ⟨rfl, rfl⟩ | ⟨hc, g, rfl, _⟩
    · exact .inl ⟨by simp, rfl⟩
    · exact .inr ⟨by rw [if_neg hc], g, rfl⟩

set_option maxRecDepth 100000 in
set_option maxHeartbeats 1600000 in
theorem readerNum_any (l : List UInt8) (st : Option Int) (b : Nat) (w : World) (hs : l.length < 4611686018427387904) (hr : Rd w b l st) : Calls Try.prog 51 #[.pointer (some ⟨b, 0, none⟩)] w fun e w' => e = .returned (.int .i64 (rdNum l st).1) ∧ Rd w' b l (rdNum l st).2 ∧ Only b w w' := by
  obtain ⟨h0, hf, a, v, h1, h2, h3⟩ := hr
  have hf1 := hf 1
  have hf2 := hf 2
  have HF := Lib.hid hf
  clear hf
  rcases h3 with ⟨rfl, rfl⟩ | ⟨rfl, g, rfl⟩
  · have HC := Lib.hid (fun w => fieldnum_any l a hs w)
    rw [rdNum_some]
    generalize getF l a = r at HC ⊢
    obtain ⟨x, t, c⟩ := r
    unfold strV at h0 HC
    have HBS : Hid (strV l = .string ⟨l.toArray⟩) := Lib.hid rfl
    generalize (⟨l.toArray⟩ : ByteArray) = bs at h0 HC HBS
    go_enter Try.func51, Try.ntmps51
    go_wp2_with fail
    by_cases hc : c = 0
    · go_region_with (go_at_call 70; refine (HC.out _).mono ?_; rintro e w1 ⟨⟨v, rfl, hv⟩, hb⟩; obtain rfl := hv.nil hc)
      all_goals
        have hbs : b < w.drew.heap.size := World.block_lt_of_cell? _ _ h0
        have k0 := keep_cell (w := w.drew) h0 hb
        have k1 := keep_cell (w := w.drew) h1 hb
        have k2 := keep_cell (w := w.drew) h2 hb
        have kf := Lib.hid (fun j => (hb.frozen (p := ⟨b, j, none⟩) hbs).trans (HF.out j))
        have kf1 := kf.out 1
        have kf2 := kf.out 2
        have k2s : ∀ u : Value, (w1.setCell ⟨b, 1, none⟩ u).cell? ⟨b, 2, none⟩ = some .nilIface := fun u => cell_here _ _ _ _ _ _ k2
        have HO := Lib.hid (Only.of_below (w := w.drew) b hb)
        have RA := Lib.hid (rd_after (l := l) t (by rw [show strV l = .string bs from HBS.out]; exact k0) k1 k2 kf.out hv)
        clear h0 h1 h2 hf1 hf2 hb hv HC
        go_wp2
        go_ret
        exact ⟨rfl, RA.out, (show Only b w w1 from ⟨HO.out.os, HO.out.tape, HO.out.output, HO.out.size, HO.out.block⟩).setCell rfl _ |>.setCell rfl _⟩
    · go_region_with (go_at_call 70; refine (HC.out _).mono ?_; rintro e w1 ⟨⟨v, rfl, hv⟩, hb⟩; obtain ⟨g, rfl, he⟩ := hv.ne hc)
      all_goals
        have hbs : b < w.drew.heap.size := World.block_lt_of_cell? _ _ h0
        have k0 := keep_cell (w := w.drew) h0 hb
        have k1 := keep_cell (w := w.drew) h1 hb
        have k2 := keep_cell (w := w.drew) h2 hb
        have kf := Lib.hid (fun j => (hb.frozen (p := ⟨b, j, none⟩) hbs).trans (HF.out j))
        have kf1 := kf.out 1
        have kf2 := kf.out 2
        have k2s : ∀ u : Value, (w1.setCell ⟨b, 1, none⟩ u).cell? ⟨b, 2, none⟩ = some .nilIface := fun u => cell_here _ _ _ _ _ _ k2
        have HO := Lib.hid (Only.of_below (w := w.drew) b hb)
        have RA := Lib.hid (rd_after (l := l) t (by rw [show strV l = .string bs from HBS.out]; exact k0) k1 k2 kf.out hv)
        clear h0 h1 h2 hf1 hf2 hb hv HC
        go_wp2
        go_ret
        exact ⟨rfl, RA.out, (show Only b w w1 from ⟨HO.out.os, HO.out.tape, HO.out.output, HO.out.size, HO.out.block⟩).setCell rfl _ |>.setCell rfl _⟩
  · go_enter Try.func51, Try.ntmps51
    go_wp2
    go_ret
    exact ⟨rfl, ⟨h0, HF.out, _, _, h1, h2, .inr ⟨rfl, _, rfl⟩⟩, Only.refl _ _⟩
set_option maxRecDepth 100000 in
set_option maxHeartbeats 1600000 in
theorem readerText_any (l : List UInt8) (st : Option Int) (b : Nat) (w : World) (hs : l.length < 4611686018427387904) (hr : Rd w b l st) : Calls Try.prog 63 #[.pointer (some ⟨b, 0, none⟩)] w fun e w' => e = .returned (strV (rdText l st).1) ∧ Rd w' b l (rdText l st).2 ∧ Only b w w' := by
  obtain ⟨h0, hf, a, v, h1, h2, h3⟩ := hr
  have hf1 := hf 1
  have hf2 := hf 2
  have HF := Lib.hid hf
  clear hf
  rcases h3 with ⟨rfl, rfl⟩ | ⟨rfl, g, rfl⟩
  · have HC := Lib.hid (fun w => fieldtext_any l a hs w)
    rw [rdText_some]
    generalize textF l a = r at HC ⊢
    obtain ⟨x, t, c⟩ := r
    unfold strV at h0 HC ⊢
    have HBS : Hid (strV l = .string ⟨l.toArray⟩) := Lib.hid rfl
    generalize (⟨l.toArray⟩ : ByteArray) = bs at h0 HC HBS
    generalize (⟨x.toArray⟩ : ByteArray) = xs at HC ⊢
    go_enter Try.func63, Try.ntmps63
    go_wp2_with fail
    by_cases hc : c = 0
    · go_region_with (go_at_call 72; refine (HC.out _).mono ?_; rintro e w1 ⟨v, rfl, hv, hb⟩; obtain rfl := hv.nil hc)
      all_goals
        have hbs : b < w.drew.heap.size := World.block_lt_of_cell? _ _ h0
        have k0 := keep_cell (w := w.drew) h0 hb
        have k1 := keep_cell (w := w.drew) h1 hb
        have k2 := keep_cell (w := w.drew) h2 hb
        have kf := Lib.hid (fun j => (hb.frozen (p := ⟨b, j, none⟩) hbs).trans (HF.out j))
        have kf1 := kf.out 1
        have kf2 := kf.out 2
        have k2s : ∀ u : Value, (w1.setCell ⟨b, 1, none⟩ u).cell? ⟨b, 2, none⟩ = some .nilIface := fun u => cell_here _ _ _ _ _ _ k2
        have HO := Lib.hid (Only.of_below (w := w.drew) b hb)
        have RA := Lib.hid (rd_after (l := l) t (by rw [show strV l = .string bs from HBS.out]; exact k0) k1 k2 kf.out hv)
        clear h0 h1 h2 hf1 hf2 hb hv HC
        go_wp2
        go_ret
        exact ⟨rfl, RA.out, (show Only b w w1 from ⟨HO.out.os, HO.out.tape, HO.out.output, HO.out.size, HO.out.block⟩).setCell rfl _ |>.setCell rfl _⟩
    · go_region_with (go_at_call 72; refine (HC.out _).mono ?_; rintro e w1 ⟨v, rfl, hv, hb⟩; obtain ⟨g, rfl, he⟩ := hv.ne hc)
      all_goals
        have hbs : b < w.drew.heap.size := World.block_lt_of_cell? _ _ h0
        have k0 := keep_cell (w := w.drew) h0 hb
        have k1 := keep_cell (w := w.drew) h1 hb
        have k2 := keep_cell (w := w.drew) h2 hb
        have kf := Lib.hid (fun j => (hb.frozen (p := ⟨b, j, none⟩) hbs).trans (HF.out j))
        have kf1 := kf.out 1
        have kf2 := kf.out 2
        have k2s : ∀ u : Value, (w1.setCell ⟨b, 1, none⟩ u).cell? ⟨b, 2, none⟩ = some .nilIface := fun u => cell_here _ _ _ _ _ _ k2
        have HO := Lib.hid (Only.of_below (w := w.drew) b hb)
        have RA := Lib.hid (rd_after (l := l) t (by rw [show strV l = .string bs from HBS.out]; exact k0) k1 k2 kf.out hv)
        clear h0 h1 h2 hf1 hf2 hb hv HC
        go_wp2
        go_ret
        exact ⟨rfl, RA.out, (show Only b w w1 from ⟨HO.out.os, HO.out.tape, HO.out.output, HO.out.size, HO.out.block⟩).setCell rfl _ |>.setCell rfl _⟩
  · go_enter Try.func63, Try.ntmps63
    go_wp2
    go_ret
    exact ⟨rfl, ⟨h0, HF.out, _, _, h1, h2, .inr ⟨rfl, _, rfl⟩⟩, Only.refl _ _⟩
end Go.Proofs.Ythkbeigimdgamaa
