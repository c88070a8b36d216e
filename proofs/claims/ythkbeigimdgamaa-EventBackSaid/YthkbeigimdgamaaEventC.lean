/- event.May -/
import Derived.Test.YthkbeigimdgamaaEventB
namespace Go.Proofs.Ythkbeigimdgamaa
open Go Go.RowKit

theorem run_eqlEvent (a0 a1 a2 a3 a4 a5 a6 a7 b0 b1 b2 b3 b4 b5 b6 b7 : Int) (w : World) : (binOp .eql 43 (.agg #[.int .i64 a0, .int .i64 a1, .int .i64 a2, .int .i64 a3, .int .i64 a4, .int .i64 a5, .int .i64 a6, .int .i64 a7]) (.agg #[.int .i64 b0, .int .i64 b1, .int .i64 b2, .int .i64 b3, .int .i64 b4, .int .i64 b5, .int .i64 b6, .int .i64 b7])).run Try.prog w = .ok (.bool (decide ([a0, a1, a2, a3, a4, a5, a6, a7] = [b0, b1, b2, b3, b4, b5, b6, b7]))) w := by
  have u3 := Try.underlying3
  have q3 := Try.isAgg3
  have z3 := Try.sizeOf3
  have hS : Try.prog.underlying 43 = some (.struct (Try.prog.fieldsOf 43)) := by kernel_rfl
  have hp : Try.prog.stoodInHeld 43 = false := by kernel_rfl
  rw [run_eql_struct]
  have h : (Op.equalIn 10000 43 (.agg #[.int .i64 a0, .int .i64 a1, .int .i64 a2, .int .i64 a3, .int .i64 a4, .int .i64 a5, .int .i64 a6, .int .i64 a7]) (.agg #[.int .i64 b0, .int .i64 b1, .int .i64 b2, .int .i64 b3, .int .i64 b4, .int .i64 b5, .int .i64 b6, .int .i64 b7])).run Try.prog w = .ok (decide ([a0, a1, a2, a3, a4, a5, a6, a7] = [b0, b1, b2, b3, b4, b5, b6, b7])) w := by
    rw [show (10000 : Nat) = 9999 + 1 from rfl, run_equalIn_agg w 9999 43 _ _ hS hp]
    simp only [Program.fieldsOf, Try.underlying43]
    go_simp
    simp only [okIte, Bool.and_true]
  rw [h]
  rfl
theorem guard43 : Try.prog.eqGuardType Try.prog.depth 43 = false := by kernel_rfl

def eventS : Sp where
  len := 8
  idx := eventIdx
  txt k := false
  lim c _ := decide (((0 ≤ c[0]! ∧ c[0]! ≤ 9 ∧ c[0]! ≠ 6) ∨ (0 ≤ c[0]! ∧ c[0]! ≤ 9 ∧ c[0]! = 6 ∧ c[5]! ≤ 4)) ∧ c[1]! < 8 ∧ c[3]! < 16 ∧ c[7]! ≤ 1048575 ∧ c[6]! ≤ 1048576)
  pos := by decide
  nodup := eventIdx_nodup
  range := eventIdx_range
  kind c d h := by have := of_decide_eq_true h; show (decide _ && decide _) = true; rw [Bool.and_eq_true, decide_eq_true_eq, decide_eq_true_eq]; omega
  text c d h := by simp

theorem eventMay_facts (k a1 a2 a3 a4 a5 a6 a7 : Int) :
    (∀ j, j < (eventIdx k).length → numMayB [k, a1, a2, a3, a4, a5, a6, a7][(eventIdx k)[j]!]! = false → eventS.may [k, a1, a2, a3, a4, a5, a6, a7] [] = false) ∧
    ((((0 ≤ k ∧ k ≤ 9 ∧ k ≠ 6) ∨ (0 ≤ k ∧ k ≤ 9 ∧ k = 6 ∧ a5 ≤ 4)) ∧ a1 < 8 ∧ a3 < 16 ∧ a7 ≤ 1048575 ∧ a6 ≤ 1048576) → (∀ j, j < (eventIdx k).length → numMayB [k, a1, a2, a3, a4, a5, a6, a7][(eventIdx k)[j]!]! = true) → eventS.may [k, a1, a2, a3, a4, a5, a6, a7] [] = (decide ([k, a1, a2, a3, a4, a5, a6, a7] = plainF eventIdx [k, a1, a2, a3, a4, a5, a6, a7]) && (eventS.txt k || ([] : List UInt8).isEmpty))) ∧
    (¬ (((0 ≤ k ∧ k ≤ 9 ∧ k ≠ 6) ∨ (0 ≤ k ∧ k ≤ 9 ∧ k = 6 ∧ a5 ≤ 4)) ∧ a1 < 8 ∧ a3 < 16 ∧ a7 ≤ 1048575 ∧ a6 ≤ 1048576) → eventS.may [k, a1, a2, a3, a4, a5, a6, a7] [] = false) := by
  refine ⟨fun j hj h => eventS.may_bad [k, a1, a2, a3, a4, a5, a6, a7] [] j hj h, fun hl h => eventS.may_good [k, a1, a2, a3, a4, a5, a6, a7] [] ?_ h, fun hl => eventS.may_nolim [k, a1, a2, a3, a4, a5, a6, a7] [] ?_⟩
  · exact decide_eq_true hl
  · exact decide_eq_false hl

set_option maxRecDepth 100000 in
set_option maxHeartbeats 12800000 in
theorem eventMay_any (k a1 a2 a3 a4 a5 a6 a7 : Int) (w : World) : Calls Try.prog 31 #[recV [k, a1, a2, a3, a4, a5, a6, a7] []] w fun e w' => e = .returned (.bool (eventS.may [k, a1, a2, a3, a4, a5, a6, a7] [])) ∧ Below w.heap.size w w' := by
  obtain ⟨hHB, hHG, hHN⟩ := eventMay_facts k a1 a2 a3 a4 a5 a6 a7
  have HB := Lib.hid hHB
  have HG := Lib.hid hHG
  have HN' := Lib.hid hHN
  clear hHB hHG hHN
  generalize eventS.may [k, a1, a2, a3, a4, a5, a6, a7] [] = M at HB HG HN' ⊢
  rw [show recV [k, a1, a2, a3, a4, a5, a6, a7] [] = .agg #[.int .i64 k, .int .i64 a1, .int .i64 a2, .int .i64 a3, .int .i64 a4, .int .i64 a5, .int .i64 a6, .int .i64 a7] from rfl]
  have hR := Lib.hid (rec_new w [k, a1, a2, a3, a4, a5, a6, a7] [] 43)
  have HP := Lib.hid (fun b w hr => eventPlain_any b [k, a1, a2, a3, a4, a5, a6, a7] w (by simp) hr)
  have BX := Lib.hid (show Below w.heap.size w (w.alloc (.cells #[.int .i64 k, .int .i64 a1, .int .i64 a2, .int .i64 a3, .int .i64 a4, .int .i64 a5, .int .i64 a6, .int .i64 a7] 43)) from (Below.refl _ _).alloc (Nat.le_refl _) _)
  have SX := Lib.hid (show w.heap.size < (w.alloc (.cells #[.int .i64 k, .int .i64 a1, .int .i64 a2, .int .i64 a3, .int .i64 a4, .int .i64 a5, .int .i64 a6, .int .i64 a7] 43)).heap.size from by simp)
  have hc : ((0 ≤ k ∧ k ≤ 9 ∧ k ≠ 6) ∨ (0 ≤ k ∧ k ≤ 9 ∧ k = 6 ∧ a5 ≤ 4)) ∨ ((k < 0) ∨ (9 < k) ∨ (k = 6 ∧ 4 < a5)) := by omega
  rcases hc with hc | hc
  · have HC := Lib.hid (show (0 ≤ k ∧ k ≤ 9 ∧ k ≠ 6) ∨ (0 ≤ k ∧ k ≤ 9 ∧ k = 6 ∧ a5 ≤ 4) from hc)
    rcases hc with ⟨h0, h1, h2⟩ | ⟨h0, h1, h2, h3⟩
    all_goals
      first
      | (have e6 := bne_of k 6 (by omega); clear h2)
      | (have e6 := beq_of k 6 h2; clear h2)
      go_enter Try.func31, Try.ntmps31
      go_wp2_with fail
      refine (eventParts_any _ k _ ?_).mono ?_
      · exact hR.out.1 0 (by simp)
      rintro e w4 ⟨v, rfl, P, b1⟩
      obtain ⟨ao, cap, rfl, q⟩ := P
      have R4 := Lib.hid (hR.out.below b1)
      have B4 := Lib.hid (BX.out.trans (b1.mono (by simp)))
      have Q := Lib.hid (fun j hj => show ∃ g, ao = some ⟨g, 0, none⟩ ∧ w4.cell? ⟨g, j, none⟩ = _ from (q j hj).imp fun g h => ⟨h.1, h.2.2⟩)
      clear q b1 hR BX SX
      go_wp2_with fail
      have HI := Lib.hid (eventIdx_lt k)
      have hn := eventIdx_length k
      generalize eventIdx k = is at HI hn HB HG Q ⊢
      have NM := Lib.hid numMay_any
      obtain ⟨n, hnn⟩ : ∃ n, n = is.length := ⟨_, rfl⟩
      have HN := Lib.hid hnn
      rw [← hnn] at hn ⊢
      clear hnn
      go_loopg [4, 25] (n + 1) (fun gg s4 s25 wr => ∃ (j : Nat), j ≤ n ∧ n - j < gg ∧ s25 = .int .i64 j ∧ Aside (∀ i, i < j → numMayB [k, a1, a2, a3, a4, a5, a6, a7][is[i]!]! = true) ∧ Aside (w4 = wr))
      case atStart => exact ⟨0, by omega, by omega, rfl, fun i hi => absurd hi (Nat.not_lt_zero _), rfl⟩
      case round =>
        obtain ⟨j, hj, hjg, rfl, A, AW⟩ := hrel
        obtain rfl := AW.out
        by_cases h : j < n
        · have hji : (j : Int) < n := by omega
          obtain ⟨g, rfl, p1⟩ := Q.out j (by rw [← HN.out]; exact h)
          have hi6 := HI.out j (by rw [← HN.out]; exact h)
          have x1 := R4.out.1 is[j]! hi6
          have HZ := HB.out j (by rw [← HN.out]; exact h)
          have AA := Lib.hid (fun (hm : numMayB [k, a1, a2, a3, a4, a5, a6, a7][is[j]!]! = true) => show ∀ i, i < j + 1 → numMayB [k, a1, a2, a3, a4, a5, a6, a7][is[i]!]! = true from fun i hi => by
            by_cases e : i = j
            · rw [e]; exact hm
            · exact A.out i (by omega))
          clear hi6 A
          generalize [k, a1, a2, a3, a4, a5, a6, a7][is[j]!]! = z at x1 HZ AA
          generalize is[j]! = i at x1 p1
          by_cases hm : numMayB z = true
          · have HM := Lib.hid hm
            clear hm HZ
            go_wp2_with (first | (go_at_call 54; refine (NM.out _ _).mono ?_; rintro e w' ⟨rfl, rfl⟩; rw [HM.out]))
            go_roundg (n - j)
            case measure => omega
            case rel => exact ⟨j + 1, by omega, by omega, by go_num, AA.out HM.out, rfl⟩
          · have hm' : numMayB z = false := by simpa using hm
            have HM := Lib.hid hm'
            have HR := Lib.hid (HZ hm')
            clear hm hm' HZ
            go_wp2_with (first | (go_at_call 54; refine (NM.out _ _).mono ?_; rintro e w' ⟨rfl, rfl⟩; rw [HM.out]))
            go_ret
            exact ⟨by rw [HR.out]; rfl, B4.out⟩
        · have hji : ¬ (j : Int) < n := by omega
          have hjn : j = n := by omega
          subst hjn
          by_cases hp : a1 < 8 ∧ a3 < 16 ∧ a7 ≤ 1048575 ∧ a6 ≤ 1048576
          · have HR := Lib.hid (HG.out ⟨HC.out, hp⟩ (by rw [← HN.out]; exact A.out))
            clear HG HB A HN'
            rw [show (eventS.txt k || ([] : List UInt8).isEmpty) = true from rfl, Bool.and_true] at HR
            obtain ⟨p0_, p1_, p2_, p3_⟩ := hp
            have d0_ := decide_eq_true p0_
            have d1_ := decide_eq_true p1_
            have d2_ := decide_eq_true p2_
            have d3_ := decide_eq_true p3_
            have hpl : (plainF eventIdx [k, a1, a2, a3, a4, a5, a6, a7]).length = 8 := by unfold plainF; rw [copyF_length]; simp
            generalize plainF eventIdx [k, a1, a2, a3, a4, a5, a6, a7] = o at HP hpl HR
            obtain ⟨o0, o1, o2, o3, o4, o5, o6, o7, rfl⟩ : ∃ o0 o1 o2 o3 o4 o5 o6 o7, o = [o0, o1, o2, o3, o4, o5, o6, o7] := by
              match o, hpl with
              | [o0, o1, o2, o3, o4, o5, o6, o7], _ => exact ⟨o0, o1, o2, o3, o4, o5, o6, o7, rfl⟩
            clear hpl
            have x0 : w4.cell? ⟨w.heap.size, 0, none⟩ = some (.int .i64 k) := R4.out.1 0 (by simp)
            have x1 : w4.cell? ⟨w.heap.size, 1, none⟩ = some (.int .i64 a1) := R4.out.1 1 (by simp)
            have x2 : w4.cell? ⟨w.heap.size, 2, none⟩ = some (.int .i64 a2) := R4.out.1 2 (by simp)
            have x3 : w4.cell? ⟨w.heap.size, 3, none⟩ = some (.int .i64 a3) := R4.out.1 3 (by simp)
            have x4 : w4.cell? ⟨w.heap.size, 4, none⟩ = some (.int .i64 a4) := R4.out.1 4 (by simp)
            have x5 : w4.cell? ⟨w.heap.size, 5, none⟩ = some (.int .i64 a5) := R4.out.1 5 (by simp)
            have x6 : w4.cell? ⟨w.heap.size, 6, none⟩ = some (.int .i64 a6) := R4.out.1 6 (by simp)
            have x7 : w4.cell? ⟨w.heap.size, 7, none⟩ = some (.int .i64 a7) := R4.out.1 7 (by simp)
            have hq := run_eqlEvent k a1 a2 a3 a4 a5 a6 a7 o0 o1 o2 o3 o4 o5 o6 o7
            have hg := guard43
            generalize (decide ([k, a1, a2, a3, a4, a5, a6, a7] = [o0, o1, o2, o3, o4, o5, o6, o7])) = bb at hq HR
            go_wp2_with fail
            first
            | go_region_with (go_at_call 58; refine (HP.out _ w4.drew R4.out).mono ?_; rintro e w5 ⟨rfl, b5⟩; (have y0 := keep_cell (w := w4.drew) x0 b5); (have y1 := keep_cell (w := w4.drew) x1 b5); (have y2 := keep_cell (w := w4.drew) x2 b5); (have y3 := keep_cell (w := w4.drew) x3 b5); (have y4 := keep_cell (w := w4.drew) x4 b5); (have y5 := keep_cell (w := w4.drew) x5 b5); (have y6 := keep_cell (w := w4.drew) x6 b5); (have y7 := keep_cell (w := w4.drew) x7 b5); simp only [recV, recL, List.map, List.cons_append, List.nil_append])
            | fail "the region"
            all_goals
              go_wp2
              go_ret
              exact ⟨by rw [HR.out]; rfl, B4.out.drew.trans (b5.mono B4.out.size)⟩
          · have HR := Lib.hid (HN'.out (fun h => hp h.2))
            clear HG HB A HN'
            have hn_ : (¬ a1 < 8) ∨ (a1 < 8 ∧ ¬ a3 < 16) ∨ (a1 < 8 ∧ a3 < 16 ∧ ¬ a7 ≤ 1048575) ∨ (a1 < 8 ∧ a3 < 16 ∧ a7 ≤ 1048575 ∧ ¬ a6 ≤ 1048576) := by omega
            clear hp
            rcases hn_ with p0_ | ⟨p0_, p1_⟩ | ⟨p0_, p1_, p2_⟩ | ⟨p0_, p1_, p2_, p3_⟩
            · have d0_ := decide_eq_false p0_
              have x0 : w4.cell? ⟨w.heap.size, 0, none⟩ = some (.int .i64 k) := R4.out.1 0 (by simp)
              have x1 : w4.cell? ⟨w.heap.size, 1, none⟩ = some (.int .i64 a1) := R4.out.1 1 (by simp)
              have x2 : w4.cell? ⟨w.heap.size, 2, none⟩ = some (.int .i64 a2) := R4.out.1 2 (by simp)
              have x3 : w4.cell? ⟨w.heap.size, 3, none⟩ = some (.int .i64 a3) := R4.out.1 3 (by simp)
              have x4 : w4.cell? ⟨w.heap.size, 4, none⟩ = some (.int .i64 a4) := R4.out.1 4 (by simp)
              have x5 : w4.cell? ⟨w.heap.size, 5, none⟩ = some (.int .i64 a5) := R4.out.1 5 (by simp)
              have x6 : w4.cell? ⟨w.heap.size, 6, none⟩ = some (.int .i64 a6) := R4.out.1 6 (by simp)
              have x7 : w4.cell? ⟨w.heap.size, 7, none⟩ = some (.int .i64 a7) := R4.out.1 7 (by simp)
              go_wp2_with fail
              go_quiet (fail)
              go_wp2
              go_ret
              exact ⟨by rw [HR.out]; rfl, ⟨B4.out.os, B4.out.tape, B4.out.output, B4.out.size, B4.out.block⟩⟩
            · have d0_ := decide_eq_true p0_
              have d1_ := decide_eq_false p1_
              have x0 : w4.cell? ⟨w.heap.size, 0, none⟩ = some (.int .i64 k) := R4.out.1 0 (by simp)
              have x1 : w4.cell? ⟨w.heap.size, 1, none⟩ = some (.int .i64 a1) := R4.out.1 1 (by simp)
              have x2 : w4.cell? ⟨w.heap.size, 2, none⟩ = some (.int .i64 a2) := R4.out.1 2 (by simp)
              have x3 : w4.cell? ⟨w.heap.size, 3, none⟩ = some (.int .i64 a3) := R4.out.1 3 (by simp)
              have x4 : w4.cell? ⟨w.heap.size, 4, none⟩ = some (.int .i64 a4) := R4.out.1 4 (by simp)
              have x5 : w4.cell? ⟨w.heap.size, 5, none⟩ = some (.int .i64 a5) := R4.out.1 5 (by simp)
              have x6 : w4.cell? ⟨w.heap.size, 6, none⟩ = some (.int .i64 a6) := R4.out.1 6 (by simp)
              have x7 : w4.cell? ⟨w.heap.size, 7, none⟩ = some (.int .i64 a7) := R4.out.1 7 (by simp)
              go_wp2_with fail
              go_quiet (fail)
              go_wp2
              go_ret
              exact ⟨by rw [HR.out]; rfl, ⟨B4.out.os, B4.out.tape, B4.out.output, B4.out.size, B4.out.block⟩⟩
            · have d0_ := decide_eq_true p0_
              have d1_ := decide_eq_true p1_
              have d2_ := decide_eq_false p2_
              have x0 : w4.cell? ⟨w.heap.size, 0, none⟩ = some (.int .i64 k) := R4.out.1 0 (by simp)
              have x1 : w4.cell? ⟨w.heap.size, 1, none⟩ = some (.int .i64 a1) := R4.out.1 1 (by simp)
              have x2 : w4.cell? ⟨w.heap.size, 2, none⟩ = some (.int .i64 a2) := R4.out.1 2 (by simp)
              have x3 : w4.cell? ⟨w.heap.size, 3, none⟩ = some (.int .i64 a3) := R4.out.1 3 (by simp)
              have x4 : w4.cell? ⟨w.heap.size, 4, none⟩ = some (.int .i64 a4) := R4.out.1 4 (by simp)
              have x5 : w4.cell? ⟨w.heap.size, 5, none⟩ = some (.int .i64 a5) := R4.out.1 5 (by simp)
              have x6 : w4.cell? ⟨w.heap.size, 6, none⟩ = some (.int .i64 a6) := R4.out.1 6 (by simp)
              have x7 : w4.cell? ⟨w.heap.size, 7, none⟩ = some (.int .i64 a7) := R4.out.1 7 (by simp)
              go_wp2_with fail
              go_quiet (fail)
              go_wp2
              go_ret
              exact ⟨by rw [HR.out]; rfl, ⟨B4.out.os, B4.out.tape, B4.out.output, B4.out.size, B4.out.block⟩⟩
            · have d0_ := decide_eq_true p0_
              have d1_ := decide_eq_true p1_
              have d2_ := decide_eq_true p2_
              have d3_ := decide_eq_false p3_
              have x0 : w4.cell? ⟨w.heap.size, 0, none⟩ = some (.int .i64 k) := R4.out.1 0 (by simp)
              have x1 : w4.cell? ⟨w.heap.size, 1, none⟩ = some (.int .i64 a1) := R4.out.1 1 (by simp)
              have x2 : w4.cell? ⟨w.heap.size, 2, none⟩ = some (.int .i64 a2) := R4.out.1 2 (by simp)
              have x3 : w4.cell? ⟨w.heap.size, 3, none⟩ = some (.int .i64 a3) := R4.out.1 3 (by simp)
              have x4 : w4.cell? ⟨w.heap.size, 4, none⟩ = some (.int .i64 a4) := R4.out.1 4 (by simp)
              have x5 : w4.cell? ⟨w.heap.size, 5, none⟩ = some (.int .i64 a5) := R4.out.1 5 (by simp)
              have x6 : w4.cell? ⟨w.heap.size, 6, none⟩ = some (.int .i64 a6) := R4.out.1 6 (by simp)
              have x7 : w4.cell? ⟨w.heap.size, 7, none⟩ = some (.int .i64 a7) := R4.out.1 7 (by simp)
              go_wp2_with fail
              go_quiet (fail)
              go_wp2
              go_ret
              exact ⟨by rw [HR.out]; rfl, ⟨B4.out.os, B4.out.tape, B4.out.output, B4.out.size, B4.out.block⟩⟩
  · have HR := Lib.hid (HN'.out (by omega))
    clear HN'
    rcases hc with h0 | h0 | ⟨h0, h1⟩
    all_goals
      first
      | (skip)
      | (subst h0)
      go_enter Try.func31, Try.ntmps31
      go_wp2
      go_ret
      exact ⟨by rw [HR.out]; rfl, (Below.refl _ _).alloc (Nat.le_refl _) _⟩
end Go.Proofs.Ythkbeigimdgamaa
