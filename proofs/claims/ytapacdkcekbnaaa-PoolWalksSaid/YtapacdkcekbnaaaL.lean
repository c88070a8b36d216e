/- slices.Repeat, pool.New, the reference's NewPool. -/
import Derived.Test.YtapacdkcekbnaaaK
namespace Go.Proofs.Ytapacdkcekbnaaa
open Go Go.RowKit

def fresh : Ad := ⟨false, -1, 0⟩
def zeroAd : Ad := ⟨false, 0, 0⟩

theorem made_eq (n : Nat) (hn : n ≤ 16) : madeCells (Value.agg #[.bool false, .int .i64 0, .int .i64 0]).cells (n * 3) = (cellsOf (List.replicate n zeroAd)).toArray := by
  have h : n = 0 ∨ n = 1 ∨ n = 2 ∨ n = 3 ∨ n = 4 ∨ n = 5 ∨ n = 6 ∨ n = 7 ∨ n = 8 ∨ n = 9 ∨ n = 10 ∨ n = 11 ∨ n = 12 ∨ n = 13 ∨ n = 14 ∨ n = 15 ∨ n = 16 := by omega
  clear hn
  rcases h with rfl | rfl | rfl | rfl | rfl | rfl | rfl | rfl | rfl | rfl | rfl | rfl | rfl | rfl | rfl | rfl | rfl
  all_goals (show madeCells _ _ = _; kernel_rfl)

theorem run_make22 (n : Nat) (hn : n ≤ 16) (w : World) : (Instr.makeSlice 22 (.int .i64 n) (.int .i64 n)).run Try.prog w = .ok (.slice (some ⟨w.heap.size, 0, none⟩) n n) (w.alloc (.cells (cellsOf (List.replicate n zeroAd)).toArray 46)) := by
  obtain ⟨i0, hi, hz0, hz1, hz2⟩ := info_parts Try.info46
  have hr := run_make (P := Try.prog) w 22 46 i0 _ Try.underlying22 hi hz0 .i64 .i64 (n : Int) (n : Int) (by omega) (Int.le_refl _) (by rw [hz2]; omega) (by omega)
  rw [hz1] at hr
  simp only [Int.toNat_natCast] at hr
  rw [made_eq n hn] at hr
  exact hr

set_option maxHeartbeats 2000000 in
theorem repeat_any (b off c : Nat) (n : Nat) (x : Ad) (w : World) (hb : b < w.heap.size) (hh : Holds w b off [x]) (h1 : 1 ≤ n) (hn : n ≤ 16) :
    Calls Try.prog 35 #[.slice (some ⟨b, off, none⟩) 1 c, .int .i64 n] w fun e w' => ∃ v', e = .returned v' ∧ Own w' w.heap.size v' (List.replicate n x) ∧ Below w.heap.size w w' := by
  have hm := mul_any n hn
  have hmk := run_make22 n hn
  have hrow : Row (w.alloc (.cells (cellsOf (List.replicate n zeroAd)).toArray 46)) w.heap.size ([] ++ ([zeroAd] ++ List.replicate (n - 1) zeroAd)) := by
    have e : List.replicate n zeroAd = [] ++ ([zeroAd] ++ List.replicate (n - 1) zeroAd) := by
      obtain ⟨m, rfl⟩ : ∃ m, n = m + 1 := ⟨n - 1, by omega⟩
      simp [List.replicate_succ]
    rw [e]
    exact heap_alloc_new w _
  have hcells : ∀ j v, (cellsOf [x])[j]? = some v → (w.alloc (.cells (cellsOf (List.replicate n zeroAd)).toArray 46)).cell? ((⟨b, off, none⟩ : Addr).add j) = some v :=
    (hh.below ((Below.refl _ _).alloc (Nat.le_refl _) _) hb).cells
  have hbig : (n : Int) ≤ 16 := by omega
  have hb0 : Below w.heap.size w (w.alloc (.cells (cellsOf (List.replicate n zeroAd)).toArray 46)) := (Below.refl _ _).alloc (Nat.le_refl _) _
  clear hh
  have HB0 := Lib.hid hb0
  have HROW := Lib.hid hrow
  have HCELLS := Lib.hid hcells
  clear hb0 hrow hcells
  go_enter Try.func35, Try.ntmps35
  go_wp2_with (first | (go_at_call 39; refine (hm _).mono ?_; rintro e w' ⟨rfl, rfl⟩) | (with_reducible refine wpList_copy3 (o := ⟨some 33, _, _, _, _, _⟩) ?g1 (.tmp 31) (.tmp 32) ?g2 w.heap.size 0 n n ⟨b, off, none⟩ 1 c ?g3 ?g4 [] [zeroAd] (List.replicate (n - 1) zeroAd) [x] HROW.out ?g5 ?g6 ?g7 HCELLS.out w.heap.size ?g8 ?_))
  case g1 => rfl
  case g2 => rfl
  case g3 => rfl
  case g4 => rfl
  case g5 => rfl
  case g6 => rfl
  case g7 => exact (Nat.min_eq_left h1).symm
  case g8 => exact Nat.le_refl _
  intro w1 hrow1 hb1
  have HR1 : Hid (Row w1 w.heap.size (List.replicate 1 x ++ List.replicate (n - 1) zeroAd)) := hrow1
  have HB1 := Lib.hid (HB0.out.trans hb1)
  have hlt : w.heap.size < w1.heap.size := by have := hb1.size; simp at this; omega
  clear hrow1 hb1 HB0 HROW HCELLS hmk hm
  generalize hg : w.heap.size = g at *
  have HG := Lib.hid hg
  clear hg
  go_wp2
  go_loopg [8] (n + 1) (fun gg s8 wr => ∃ k : Nat, 1 ≤ k ∧ k ≤ n ∧ n - k < gg ∧ s8 = .int .i64 k ∧ Aside (Row wr g (List.replicate k x ++ List.replicate (n - k) zeroAd)) ∧ Aside (Below g w wr))
  case atStart => exact ⟨1, by omega, h1, by omega, rfl, HR1.out, HB1.out⟩
  case round =>
    obtain ⟨k, hk1, hkn, hgg, rfl, AR, AB⟩ := hrel
    by_cases hk : k < n
    · have hki : (k : Int) < (n : Int) := by omega
      have hne : ¬ (n = k) := by omega
      obtain ⟨d, hd⟩ : ∃ d, d = Nat.min k (n - k) := ⟨_, rfl⟩
      have hd1 : 1 ≤ d := by rw [hd]; exact Nat.le_min.2 ⟨hk1, by omega⟩
      have hd2 : d ≤ n - k := by rw [hd]; exact Nat.min_le_right _ _
      have hd3 : d ≤ k := by rw [hd]; exact Nat.min_le_left _ _
      have hrw : Row wr.drew g (List.replicate k x ++ (List.replicate d zeroAd ++ List.replicate (n - k - d) zeroAd)) := by
        have e : List.replicate d zeroAd ++ List.replicate (n - k - d) zeroAd = List.replicate (n - k) zeroAd := by
          rw [List.replicate_append_replicate]; congr 1; omega
        rw [e]
        exact AR.out
      have hsrc : ∀ j v, (cellsOf (List.replicate d x))[j]? = some v → wr.drew.cell? ((⟨g, 0, none⟩ : Addr).add j) = some v := by
        have hh : Holds wr.drew g 0 (List.replicate d x) := by
          intro i hi
          have hi' : i < d := by simpa using hi
          have := (Row.holds AR.out) i (by simp; omega)
          simp only [List.getElem!_eq_getElem?_getD, List.getElem?_append, List.length_replicate, show i < k from by omega, if_true, List.getElem?_replicate, hi'] at this ⊢
          exact this
        exact hh.cells
      have HRW := Lib.hid hrw
      have HSRC := Lib.hid hsrc
      have HD := Lib.hid hd
      clear hrw hsrc hd AR
      go_wp2
      have hwrap : IntKind.i64.wrap ((k : Int) + (d : Int)) = (k : Int) + (d : Int) := by rw [IntKind.wrap_i64]; omega
      go_region_law (refine step_copy3 rfl (.tmp 41) (.tmp 44) rfl g (k * 3) (n - k) (n - k) ⟨g, 0, none⟩ k n (by simp [Act.eval, Act.put]) (by simp [Act.eval, Act.put]) (List.replicate k x) (List.replicate d zeroAd) (List.replicate (n - k - d) zeroAd) (List.replicate d x) HRW.out (by simp) (by simp) (by rw [List.length_replicate]; exact HD.out) HSRC.out g (Nat.le_refl _) ?_; intro w2 hrow2 hb2)
      go_wp2
      clear hwrap
      have fin : Row w2 g (List.replicate (k + d) x ++ List.replicate (n - (k + d)) zeroAd) := by
        rw [← List.append_assoc, List.replicate_append_replicate, show n - k - d = n - (k + d) from by omega] at hrow2
        exact hrow2
      go_roundg (n - k)
      case measure => omega
      case rel => exact ⟨k + d, by omega, by omega, by omega, by go_num, fin, AB.out.trans ⟨hb2.os, hb2.tape, hb2.output, hb2.size, hb2.block⟩⟩
    · have hki : ¬ (k : Int) < (n : Int) := by omega
      have : k = n := by omega
      subst this
      go_wp2
      go_ret
      have fin : Row wr g (List.replicate k x) := by simpa using AR.out
      have fin2 := fin.own (by simp; unfold maxLen; omega)
      simp only [List.length_replicate] at fin2
      exact ⟨_, rfl, by rw [HG.out]; exact fin2, by rw [HG.out]; exact AB.out⟩

/-- What New gives: none: it is refused. -/
def newF (n : Int) : Option (List Ad) := if n < 1 ∨ 16 < n then none else some (List.replicate n.toNat fresh)

set_option maxHeartbeats 2000000 in
theorem new_any (n : Int) (w : World) : Calls Try.prog 15 #[.int .i64 n] w (Gives w.heap.size (newF n) w) := by
  by_cases h1 : n < 1
  · have hr : newF n = none := by unfold newF; rw [if_pos (.inl h1)]
    rw [hr]
    go_enter Try.func15, Try.ntmps15
    go_wp2_with fail
    go_ret2
    exact Gives.none (Below.refl _ _)
  · by_cases h2 : 16 < n
    · have hr : newF n = none := by unfold newF; rw [if_pos (.inr h2)]
      rw [hr]
      go_enter Try.func15, Try.ntmps15
      go_wp2_with fail
      go_ret2
      exact Gives.none (Below.refl _ _)
    · have hr : newF n = some (List.replicate n.toNat fresh) := by unfold newF; rw [if_neg (by omega)]
      rw [hr]
      clear hr
      obtain ⟨k, rfl⟩ := Int.eq_ofNat_of_zero_le (show 0 ≤ n by omega)
      have hb0 : Below w.heap.size w (w.alloc (.cells #[.bool false, .int .i64 (-1), .int .i64 0] 46)) := (Below.refl _ _).alloc (Nat.le_refl _) _
      have hh : Holds (w.alloc (.cells #[.bool false, .int .i64 (-1), .int .i64 0] 46)) w.heap.size 0 [fresh] := by
        intro i hi
        have : i = 0 := by simpa using hi
        subst this
        exact ⟨by simp [fresh], by simp [fresh], by simp [fresh]⟩
      have hc := repeat_any w.heap.size 0 1 k fresh _ (by simp) hh (by omega) (by omega)
      have HB0 := Lib.hid hb0
      clear hb0 hh
      rw [Int.toNat_natCast]
      go_enter Try.func15, Try.ntmps15
      go_wp2_with (go_at_call 35; refine hc.mono ?_; rintro e w2 ⟨v2, rfl, hown, hb2⟩)
      go_ret2
      exact ⟨_, rfl, hown.low (by simp), HB0.out.trans (hb2.mono (by simp))⟩
end Go.Proofs.Ytapacdkcekbnaaa
