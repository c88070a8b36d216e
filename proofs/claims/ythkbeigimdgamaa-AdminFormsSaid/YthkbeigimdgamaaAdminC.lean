/- admin.May -/
import Derived.Test.YthkbeigimdgamaaAdminB
namespace Go.Proofs.Ythkbeigimdgamaa
open Go Go.RowKit

theorem run_eqlAdmin (a0 a1 a2 a3 a4 a5 b0 b1 b2 b3 b4 b5 : Int) (w : World) : (binOp .eql 23 (.agg #[.int .i64 a0, .int .i64 a1, .int .i64 a2, .int .i64 a3, .int .i64 a4, .int .i64 a5]) (.agg #[.int .i64 b0, .int .i64 b1, .int .i64 b2, .int .i64 b3, .int .i64 b4, .int .i64 b5])).run Try.prog w = .ok (.bool (decide ([a0, a1, a2, a3, a4, a5] = [b0, b1, b2, b3, b4, b5]))) w := by
  have u3 := Try.underlying3
  have q3 := Try.isAgg3
  have z3 := Try.sizeOf3
  have hS : Try.prog.underlying 23 = some (.struct (Try.prog.fieldsOf 23)) := by kernel_rfl
  have hp : Try.prog.stoodInHeld 23 = false := by kernel_rfl
  rw [run_eql_struct]
  have h : (Op.equalIn 10000 23 (.agg #[.int .i64 a0, .int .i64 a1, .int .i64 a2, .int .i64 a3, .int .i64 a4, .int .i64 a5]) (.agg #[.int .i64 b0, .int .i64 b1, .int .i64 b2, .int .i64 b3, .int .i64 b4, .int .i64 b5])).run Try.prog w = .ok (decide ([a0, a1, a2, a3, a4, a5] = [b0, b1, b2, b3, b4, b5])) w := by
    rw [show (10000 : Nat) = 9999 + 1 from rfl, run_equalIn_agg w 9999 23 _ _ hS hp]
    simp only [Program.fieldsOf, Try.underlying23]
    go_simp
    simp only [okIte, Bool.and_true]
  rw [h]
  rfl
theorem guard23 : Try.prog.eqGuardType Try.prog.depth 23 = false := by kernel_rfl

def adminS : Sp where
  len := 6
  idx := adminIdx
  txt k := false
  lim c _ := decide (((c[0]! = 0 ∧ c[4]! ≤ 1048576 ∧ c[1]! < 8) ∨ (c[0]! = 1 ∧ c[1]! < 8) ∨ (c[0]! = 2 ∧ c[1]! < 8) ∨ (c[0]! = 3) ∨ (c[0]! = 4)) ∧ (0 : Int) = 0)
  pos := by decide
  nodup := adminIdx_nodup
  range := adminIdx_range
  kind c d h := by have := of_decide_eq_true h; show (decide _ && decide _) = true; rw [Bool.and_eq_true, decide_eq_true_eq, decide_eq_true_eq]; omega
  text c d h := by simp

theorem adminMay_facts (k a1 a2 a3 a4 a5 : Int) :
    (∀ j, j < (adminIdx k).length → numMayB [k, a1, a2, a3, a4, a5][(adminIdx k)[j]!]! = false → adminS.may [k, a1, a2, a3, a4, a5] [] = false) ∧
    ((((k = 0 ∧ a4 ≤ 1048576 ∧ a1 < 8) ∨ (k = 1 ∧ a1 < 8) ∨ (k = 2 ∧ a1 < 8) ∨ (k = 3) ∨ (k = 4)) ∧ (0 : Int) = 0) → (∀ j, j < (adminIdx k).length → numMayB [k, a1, a2, a3, a4, a5][(adminIdx k)[j]!]! = true) → adminS.may [k, a1, a2, a3, a4, a5] [] = (decide ([k, a1, a2, a3, a4, a5] = plainF adminIdx [k, a1, a2, a3, a4, a5]) && (adminS.txt k || ([] : List UInt8).isEmpty))) ∧
    (¬ (((k = 0 ∧ a4 ≤ 1048576 ∧ a1 < 8) ∨ (k = 1 ∧ a1 < 8) ∨ (k = 2 ∧ a1 < 8) ∨ (k = 3) ∨ (k = 4)) ∧ (0 : Int) = 0) → adminS.may [k, a1, a2, a3, a4, a5] [] = false) := by
  refine ⟨fun j hj h => adminS.may_bad [k, a1, a2, a3, a4, a5] [] j hj h, fun hl h => adminS.may_good [k, a1, a2, a3, a4, a5] [] ?_ h, fun hl => adminS.may_nolim [k, a1, a2, a3, a4, a5] [] ?_⟩
  · exact decide_eq_true hl
  · exact decide_eq_false hl

set_option maxRecDepth 100000 in
set_option maxHeartbeats 12800000 in
theorem adminMay_any (k a1 a2 a3 a4 a5 : Int) (w : World) : Calls Try.prog 24 #[recV [k, a1, a2, a3, a4, a5] []] w fun e w' => e = .returned (.bool (adminS.may [k, a1, a2, a3, a4, a5] [])) ∧ Below w.heap.size w w' := by
  obtain ⟨hHB, hHG, hHN⟩ := adminMay_facts k a1 a2 a3 a4 a5
  have HB := Lib.hid hHB
  have HG := Lib.hid hHG
  have HN' := Lib.hid hHN
  clear hHB hHG hHN
  generalize adminS.may [k, a1, a2, a3, a4, a5] [] = M at HB HG HN' ⊢
  rw [show recV [k, a1, a2, a3, a4, a5] [] = .agg #[.int .i64 k, .int .i64 a1, .int .i64 a2, .int .i64 a3, .int .i64 a4, .int .i64 a5] from rfl]
  have hR := Lib.hid (rec_new w [k, a1, a2, a3, a4, a5] [] 23)
  have HP := Lib.hid (fun b w hr => adminPlain_any b [k, a1, a2, a3, a4, a5] w (by simp) hr)
  have BX := Lib.hid (show Below w.heap.size w (w.alloc (.cells #[.int .i64 k, .int .i64 a1, .int .i64 a2, .int .i64 a3, .int .i64 a4, .int .i64 a5] 23)) from (Below.refl _ _).alloc (Nat.le_refl _) _)
  have SX := Lib.hid (show w.heap.size < (w.alloc (.cells #[.int .i64 k, .int .i64 a1, .int .i64 a2, .int .i64 a3, .int .i64 a4, .int .i64 a5] 23)).heap.size from by simp)
  have hc : ((k = 0 ∧ a4 ≤ 1048576 ∧ a1 < 8) ∨ (k = 1 ∧ a1 < 8) ∨ (k = 2 ∧ a1 < 8) ∨ (k = 3) ∨ (k = 4)) ∨ ((k = 0 ∧ 1048576 < a4) ∨ (k = 0 ∧ a4 ≤ 1048576 ∧ 8 ≤ a1) ∨ (k = 1 ∧ 8 ≤ a1) ∨ (k = 2 ∧ 8 ≤ a1) ∨ (k ≠ 0 ∧ k ≠ 1 ∧ k ≠ 2 ∧ k ≠ 3 ∧ k ≠ 4)) := by omega
  rcases hc with hc | hc
  · have HC := Lib.hid (show (k = 0 ∧ a4 ≤ 1048576 ∧ a1 < 8) ∨ (k = 1 ∧ a1 < 8) ∨ (k = 2 ∧ a1 < 8) ∨ (k = 3) ∨ (k = 4) from hc)
    rcases hc with ⟨h0, h1, h2⟩ | ⟨h0, h1⟩ | ⟨h0, h1⟩ | h0 | h0
    all_goals
      first
      | (have e0 := beq_of k 0 h0; have e1 := bne_of k 1 (by omega); have e2 := bne_of k 2 (by omega); have e3 := bne_of k 3 (by omega); have e4 := bne_of k 4 (by omega); clear h0)
      | (have e0 := bne_of k 0 (by omega); have e1 := beq_of k 1 h0; have e2 := bne_of k 2 (by omega); have e3 := bne_of k 3 (by omega); have e4 := bne_of k 4 (by omega); clear h0)
      | (have e0 := bne_of k 0 (by omega); have e1 := bne_of k 1 (by omega); have e2 := beq_of k 2 h0; have e3 := bne_of k 3 (by omega); have e4 := bne_of k 4 (by omega); clear h0)
      | (have e0 := bne_of k 0 (by omega); have e1 := bne_of k 1 (by omega); have e2 := bne_of k 2 (by omega); have e3 := beq_of k 3 h0; have e4 := bne_of k 4 (by omega); clear h0)
      | (have e0 := bne_of k 0 (by omega); have e1 := bne_of k 1 (by omega); have e2 := bne_of k 2 (by omega); have e3 := bne_of k 3 (by omega); have e4 := beq_of k 4 h0; clear h0)
      go_enter Try.func24, Try.ntmps24
      go_wp2_with fail
      refine (adminParts_any _ k _ ?_).mono ?_
      · exact hR.out.1 0 (by simp)
      rintro e w4 ⟨v, rfl, P, b1⟩
      obtain ⟨ao, cap, rfl, q⟩ := P
      have R4 := Lib.hid (hR.out.below b1)
      have B4 := Lib.hid (BX.out.trans (b1.mono (by simp)))
      have Q := Lib.hid (fun j hj => show ∃ g, ao = some ⟨g, 0, none⟩ ∧ w4.cell? ⟨g, j, none⟩ = _ from (q j hj).imp fun g h => ⟨h.1, h.2.2⟩)
      clear q b1 hR BX SX
      go_wp2_with fail
      have HI := Lib.hid (adminIdx_lt k)
      have hn := adminIdx_length k
      generalize adminIdx k = is at HI hn HB HG Q ⊢
      have NM := Lib.hid numMay_any
      obtain ⟨n, hnn⟩ : ∃ n, n = is.length := ⟨_, rfl⟩
      have HN := Lib.hid hnn
      rw [← hnn] at hn ⊢
      clear hnn
      go_loopg [4, 23] (n + 1) (fun gg s4 s23 wr => ∃ (j : Nat), j ≤ n ∧ n - j < gg ∧ s23 = .int .i64 j ∧ Aside (∀ i, i < j → numMayB [k, a1, a2, a3, a4, a5][is[i]!]! = true) ∧ Aside (w4 = wr))
      case atStart => exact ⟨0, by omega, by omega, rfl, fun i hi => absurd hi (Nat.not_lt_zero _), rfl⟩
      case round =>
        obtain ⟨j, hj, hjg, rfl, A, AW⟩ := hrel
        obtain rfl := AW.out
        by_cases h : j < n
        · have hji : (j : Int) < n := by omega
          obtain ⟨g, rfl, p1⟩ := Q.out j (by rw [← HN.out]; exact h)
          have hi6 := HI.out j (by rw [← HN.out]; exact h)
          have x1 := R4.out.1 is[j]! hi6
          have HZ := HB.out j (by rw [← HN.out]; exact h)
          have AA := Lib.hid (fun (hm : numMayB [k, a1, a2, a3, a4, a5][is[j]!]! = true) => show ∀ i, i < j + 1 → numMayB [k, a1, a2, a3, a4, a5][is[i]!]! = true from fun i hi => by
            by_cases e : i = j
            · rw [e]; exact hm
            · exact A.out i (by omega))
          clear hi6 A
          generalize [k, a1, a2, a3, a4, a5][is[j]!]! = z at x1 HZ AA
          generalize is[j]! = i at x1 p1
          by_cases hm : numMayB z = true
          · have HM := Lib.hid hm
            clear hm HZ
            go_wp2_with (first | (go_at_call 54; refine (NM.out _ _).mono ?_; rintro e w' ⟨rfl, rfl⟩; rw [HM.out]))
            go_roundg (n - j)
            case measure => omega
            case rel => exact ⟨j + 1, by omega, by omega, by go_num, AA.out HM.out, rfl⟩
          · have hm' : numMayB z = false := by simpa using hm
            have HM := Lib.hid hm'
            have HR := Lib.hid (HZ hm')
            clear hm hm' HZ
            go_wp2_with (first | (go_at_call 54; refine (NM.out _ _).mono ?_; rintro e w' ⟨rfl, rfl⟩; rw [HM.out]))
            go_ret
            exact ⟨by rw [HR.out]; rfl, B4.out⟩
        · have hji : ¬ (j : Int) < n := by omega
          have hjn : j = n := by omega
          subst hjn
          have HR := Lib.hid (HG.out ⟨HC.out, by trivial⟩ (by rw [← HN.out]; exact A.out))
          clear HG HB A
          rw [show (adminS.txt k || ([] : List UInt8).isEmpty) = true from rfl, Bool.and_true] at HR
          have hpl : (plainF adminIdx [k, a1, a2, a3, a4, a5]).length = 6 := by unfold plainF; rw [copyF_length]; simp
          generalize plainF adminIdx [k, a1, a2, a3, a4, a5] = o at HP hpl HR
          obtain ⟨o0, o1, o2, o3, o4, o5, rfl⟩ : ∃ o0 o1 o2 o3 o4 o5, o = [o0, o1, o2, o3, o4, o5] := by
            match o, hpl with
            | [o0, o1, o2, o3, o4, o5], _ => exact ⟨o0, o1, o2, o3, o4, o5, rfl⟩
          clear hpl
          have x0 : w4.cell? ⟨w.heap.size, 0, none⟩ = some (.int .i64 k) := R4.out.1 0 (by simp)
          have x1 : w4.cell? ⟨w.heap.size, 1, none⟩ = some (.int .i64 a1) := R4.out.1 1 (by simp)
          have x2 : w4.cell? ⟨w.heap.size, 2, none⟩ = some (.int .i64 a2) := R4.out.1 2 (by simp)
          have x3 : w4.cell? ⟨w.heap.size, 3, none⟩ = some (.int .i64 a3) := R4.out.1 3 (by simp)
          have x4 : w4.cell? ⟨w.heap.size, 4, none⟩ = some (.int .i64 a4) := R4.out.1 4 (by simp)
          have x5 : w4.cell? ⟨w.heap.size, 5, none⟩ = some (.int .i64 a5) := R4.out.1 5 (by simp)
          have hq := run_eqlAdmin k a1 a2 a3 a4 a5 o0 o1 o2 o3 o4 o5
          have hg := guard23
          generalize decide ([k, a1, a2, a3, a4, a5] = [o0, o1, o2, o3, o4, o5]) = bb at hq HR
          go_wp2_with fail
          go_region_with (go_at_call 55; refine (HP.out _ w4.drew R4.out).mono ?_; rintro e w5 ⟨rfl, b5⟩; (have y0 := keep_cell (w := w4.drew) x0 b5); (have y1 := keep_cell (w := w4.drew) x1 b5); (have y2 := keep_cell (w := w4.drew) x2 b5); (have y3 := keep_cell (w := w4.drew) x3 b5); (have y4 := keep_cell (w := w4.drew) x4 b5); (have y5 := keep_cell (w := w4.drew) x5 b5); simp only [recV, recL, List.map, List.cons_append, List.nil_append])
          all_goals
            go_wp2
            go_ret
            exact ⟨by rw [HR.out]; rfl, B4.out.drew.trans (b5.mono B4.out.size)⟩
  · have HR := Lib.hid (HN'.out (by omega))
    clear HN'
    rcases hc with ⟨h0, h1⟩ | ⟨h0, h1, h2⟩ | ⟨h0, h1⟩ | ⟨h0, h1⟩ | ⟨h0, h1, h2, h3, h4⟩
    all_goals
      first
      | (subst h0)
      | (have e0 := bne_of k 0 h0; clear h0; have e1 := bne_of k 1 h1; clear h1; have e2 := bne_of k 2 h2; clear h2; have e3 := bne_of k 3 h3; clear h3; have e4 := bne_of k 4 h4; clear h4)
      go_enter Try.func24, Try.ntmps24
      go_wp2
      go_ret
      exact ⟨by rw [HR.out]; rfl, BX.out⟩
end Go.Proofs.Ythkbeigimdgamaa
