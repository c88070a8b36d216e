/- packet.May -/
import Derived.Test.YthkbeigimdgamaaPacketB
namespace Go.Proofs.Ythkbeigimdgamaa
open Go Go.RowKit

theorem packetToListEq (s t : ByteArray) : (s.toList = t.toList) = (s = t) := by
  rw [ByteArray.toList_eq, ByteArray.toList_eq]
  apply propext
  constructor
  · intro e
    obtain ⟨⟨a⟩⟩ := s
    obtain ⟨⟨b⟩⟩ := t
    simp at e
    rw [e]
  · rintro rfl; rfl
theorem run_eqlPacket (a0 a1 a2 a3 a4 a5 a6 a7 b0 b1 b2 b3 b4 b5 b6 b7 : Int) (s t : ByteArray) (w : World) : (binOp .eql 56 (.agg #[.int .i64 a0, .int .i64 a1, .int .i64 a2, .int .i64 a3, .int .i64 a4, .int .i64 a5, .int .i64 a6, .int .i64 a7, .string s]) (.agg #[.int .i64 b0, .int .i64 b1, .int .i64 b2, .int .i64 b3, .int .i64 b4, .int .i64 b5, .int .i64 b6, .int .i64 b7, .string t])).run Try.prog w = .ok (.bool (decide ([a0, a1, a2, a3, a4, a5, a6, a7] = [b0, b1, b2, b3, b4, b5, b6, b7]) && decide (s = t))) w := by
  have u3 := Try.underlying3
  have q3 := Try.isAgg3
  have z3 := Try.sizeOf3
  have u9 := Try.underlying9
  have q9 := Try.isAgg9
  have z9 := Try.sizeOf9
  have hS : Try.prog.underlying 56 = some (.struct (Try.prog.fieldsOf 56)) := by kernel_rfl
  have hp : Try.prog.stoodInHeld 56 = false := by kernel_rfl
  rw [run_eql_struct]
  have h : (Op.equalIn 10000 56 (.agg #[.int .i64 a0, .int .i64 a1, .int .i64 a2, .int .i64 a3, .int .i64 a4, .int .i64 a5, .int .i64 a6, .int .i64 a7, .string s]) (.agg #[.int .i64 b0, .int .i64 b1, .int .i64 b2, .int .i64 b3, .int .i64 b4, .int .i64 b5, .int .i64 b6, .int .i64 b7, .string t])).run Try.prog w = .ok (decide ([a0, a1, a2, a3, a4, a5, a6, a7] = [b0, b1, b2, b3, b4, b5, b6, b7]) && decide (s = t)) w := by
    rw [show (10000 : Nat) = 9999 + 1 from rfl, run_equalIn_agg w 9999 56 _ _ hS hp]
    simp only [Program.fieldsOf, Try.underlying56]
    go_simp
    simp only [okIte, Bool.and_true, packetToListEq, Bool.and_assoc]
  rw [h]
  rfl
theorem guard56 : Try.prog.eqGuardType Try.prog.depth 56 = false := by kernel_rfl

def packetS : Sp where
  len := 8
  idx := packetIdx
  txt k := decide (k = 3)
  lim c d := decide (((c[0]! = 3 ∧ c[7]! ≤ 1048575 ∧ (d.length : Int) ≤ 64) ∨ (c[0]! = 0) ∨ (c[0]! = 1) ∨ (c[0]! = 2) ∨ (c[0]! = 4)) ∧ (0 : Int) = 0)
  pos := by decide
  nodup := packetIdx_nodup
  range := packetIdx_range
  kind c d h := by have := of_decide_eq_true h; show (decide _ && decide _) = true; rw [Bool.and_eq_true, decide_eq_true_eq, decide_eq_true_eq]; omega
  text c d h := by intro h2; have := of_decide_eq_true h; have := of_decide_eq_true h2; omega

theorem packetMay_facts (k a1 a2 a3 a4 a5 a6 a7 : Int) (d : List UInt8) :
    (∀ j, j < (packetIdx k).length → numMayB [k, a1, a2, a3, a4, a5, a6, a7][(packetIdx k)[j]!]! = false → packetS.may [k, a1, a2, a3, a4, a5, a6, a7] d = false) ∧
    ((((k = 3 ∧ a7 ≤ 1048575 ∧ (d.length : Int) ≤ 64) ∨ (k = 0) ∨ (k = 1) ∨ (k = 2) ∨ (k = 4)) ∧ (0 : Int) = 0) → (∀ j, j < (packetIdx k).length → numMayB [k, a1, a2, a3, a4, a5, a6, a7][(packetIdx k)[j]!]! = true) → packetS.may [k, a1, a2, a3, a4, a5, a6, a7] d = (decide ([k, a1, a2, a3, a4, a5, a6, a7] = plainF packetIdx [k, a1, a2, a3, a4, a5, a6, a7]) && (packetS.txt k || (d : List UInt8).isEmpty))) ∧
    (¬ (((k = 3 ∧ a7 ≤ 1048575 ∧ (d.length : Int) ≤ 64) ∨ (k = 0) ∨ (k = 1) ∨ (k = 2) ∨ (k = 4)) ∧ (0 : Int) = 0) → packetS.may [k, a1, a2, a3, a4, a5, a6, a7] d = false) := by
  refine ⟨fun j hj h => packetS.may_bad [k, a1, a2, a3, a4, a5, a6, a7] d j hj h, fun hl h => packetS.may_good [k, a1, a2, a3, a4, a5, a6, a7] d ?_ h, fun hl => packetS.may_nolim [k, a1, a2, a3, a4, a5, a6, a7] d ?_⟩
  · exact decide_eq_true hl
  · exact decide_eq_false hl

set_option maxRecDepth 100000 in
set_option maxHeartbeats 12800000 in
theorem packetMay_any (k a1 a2 a3 a4 a5 a6 a7 : Int) (d : List UInt8) (w : World) : Calls Try.prog 38 #[recV [k, a1, a2, a3, a4, a5, a6, a7] [strV d]] w fun e w' => e = .returned (.bool (packetS.may [k, a1, a2, a3, a4, a5, a6, a7] d)) ∧ Below w.heap.size w w' := by
  obtain ⟨hHB, hHG, hHN⟩ := packetMay_facts k a1 a2 a3 a4 a5 a6 a7 d
  have HB := Lib.hid hHB
  have HG := Lib.hid hHG
  have HN' := Lib.hid hHN
  clear hHB hHG hHN
  generalize packetS.may [k, a1, a2, a3, a4, a5, a6, a7] d = M at HB HG HN' ⊢
  have HT := Lib.hid (txt_eq (packetS.txt k) d)
  generalize hX : (⟨(if packetS.txt k = true then d else []).toArray⟩ : ByteArray) = xs at HT
  have HX := Lib.hid hX
  clear hX
  have hR := Lib.hid (rec_new w [k, a1, a2, a3, a4, a5, a6, a7] [strV d] 56)
  have HP := Lib.hid (fun b w hr => packetPlain_any b [k, a1, a2, a3, a4, a5, a6, a7] d k w (by simp) rfl hr)
  rw [show recV [k, a1, a2, a3, a4, a5, a6, a7] [strV d] = .agg #[.int .i64 k, .int .i64 a1, .int .i64 a2, .int .i64 a3, .int .i64 a4, .int .i64 a5, .int .i64 a6, .int .i64 a7, .string ⟨d.toArray⟩] from rfl]
  rw [show strV d = .string ⟨d.toArray⟩ from rfl] at hR HP
  have hsz : (⟨d.toArray⟩ : ByteArray).size = d.length := rfl
  rw [show strV (if decide (k = 3) = true then d else []) = .string ⟨(if packetS.txt k = true then d else []).toArray⟩ from rfl, HX.out] at HP
  generalize hbs : (⟨d.toArray⟩ : ByteArray) = bs at hR HP hsz HT ⊢
  rw [← hsz] at HG HN'
  clear hbs HX
  have BX := Lib.hid (show Below w.heap.size w (w.alloc (.cells #[.int .i64 k, .int .i64 a1, .int .i64 a2, .int .i64 a3, .int .i64 a4, .int .i64 a5, .int .i64 a6, .int .i64 a7, .string bs] 56)) from (Below.refl _ _).alloc (Nat.le_refl _) _)
  have SX := Lib.hid (show w.heap.size < (w.alloc (.cells #[.int .i64 k, .int .i64 a1, .int .i64 a2, .int .i64 a3, .int .i64 a4, .int .i64 a5, .int .i64 a6, .int .i64 a7, .string bs] 56)).heap.size from by simp)
  have hc : ((k = 3 ∧ a7 ≤ 1048575 ∧ (bs.size : Int) ≤ 64) ∨ (k = 0) ∨ (k = 1) ∨ (k = 2) ∨ (k = 4)) ∨ ((k = 3 ∧ 1048575 < a7) ∨ (k = 3 ∧ a7 ≤ 1048575 ∧ 64 < (bs.size : Int)) ∨ (k ≠ 0 ∧ k ≠ 1 ∧ k ≠ 2 ∧ k ≠ 3 ∧ k ≠ 4)) := by omega
  rcases hc with hc | hc
  · have HC := Lib.hid (show (k = 3 ∧ a7 ≤ 1048575 ∧ (bs.size : Int) ≤ 64) ∨ (k = 0) ∨ (k = 1) ∨ (k = 2) ∨ (k = 4) from hc)
    rcases hc with ⟨h0, h1, h2⟩ | h0 | h0 | h0 | h0
    all_goals
      first
      | (have e0 := bne_of k 0 (by omega); have e1 := bne_of k 1 (by omega); have e2 := bne_of k 2 (by omega); have e3 := beq_of k 3 h0; have e4 := bne_of k 4 (by omega); clear h0)
      | (have e0 := beq_of k 0 h0; have e1 := bne_of k 1 (by omega); have e2 := bne_of k 2 (by omega); have e3 := bne_of k 3 (by omega); have e4 := bne_of k 4 (by omega); clear h0)
      | (have e0 := bne_of k 0 (by omega); have e1 := beq_of k 1 h0; have e2 := bne_of k 2 (by omega); have e3 := bne_of k 3 (by omega); have e4 := bne_of k 4 (by omega); clear h0)
      | (have e0 := bne_of k 0 (by omega); have e1 := bne_of k 1 (by omega); have e2 := beq_of k 2 h0; have e3 := bne_of k 3 (by omega); have e4 := bne_of k 4 (by omega); clear h0)
      | (have e0 := bne_of k 0 (by omega); have e1 := bne_of k 1 (by omega); have e2 := bne_of k 2 (by omega); have e3 := bne_of k 3 (by omega); have e4 := beq_of k 4 h0; clear h0)
      go_enter Try.func38, Try.ntmps38
      go_wp2_with fail
      refine (packetParts_any _ k _ ?_).mono ?_
      · exact hR.out.1 0 (by simp)
      rintro e w4 ⟨v, rfl, P, b1⟩
      obtain ⟨ao, cap, rfl, q⟩ := P
      have R4 := Lib.hid (hR.out.below b1)
      have B4 := Lib.hid (BX.out.trans (b1.mono (by simp)))
      have Q := Lib.hid (fun j hj => show ∃ g, ao = some ⟨g, 0, none⟩ ∧ w4.cell? ⟨g, j, none⟩ = _ from (q j hj).imp fun g h => ⟨h.1, h.2.2⟩)
      clear q b1 hR BX SX
      go_wp2_with fail
      have HI := Lib.hid (packetIdx_lt k)
      have hn := packetIdx_length k
      generalize packetIdx k = is at HI hn HB HG Q ⊢
      have NM := Lib.hid numMay_any
      obtain ⟨n, hnn⟩ : ∃ n, n = is.length := ⟨_, rfl⟩
      have HN := Lib.hid hnn
      rw [← hnn] at hn ⊢
      clear hnn
      go_loopg [4, 25] (n + 1) (fun gg s4 s25 wr => ∃ (j : Nat), j ≤ n ∧ n - j < gg ∧ s25 = .int .i64 j ∧ Aside (∀ i, i < j → numMayB [k, a1, a2, a3, a4, a5, a6, a7][is[i]!]! = true) ∧ Aside (w4 = wr))
      case atStart => exact ⟨0, by omega, by omega, rfl, fun i hi => absurd hi (Nat.not_lt_zero _), rfl⟩
      case round =>
        obtain ⟨j, hj, hjg, rfl, A, AW⟩ := hrel
        obtain rfl := AW.out
        by_cases h : j < n
        · have hji : (j : Int) < n := by omega
          obtain ⟨g, rfl, p1⟩ := Q.out j (by rw [← HN.out]; exact h)
          have hi6 := HI.out j (by rw [← HN.out]; exact h)
          have x1 := R4.out.1 is[j]! hi6
          have HZ := HB.out j (by rw [← HN.out]; exact h)
          have AA := Lib.hid (fun (hm : numMayB [k, a1, a2, a3, a4, a5, a6, a7][is[j]!]! = true) => show ∀ i, i < j + 1 → numMayB [k, a1, a2, a3, a4, a5, a6, a7][is[i]!]! = true from fun i hi => by
            by_cases e : i = j
            · rw [e]; exact hm
            · exact A.out i (by omega))
          clear hi6 A
          generalize [k, a1, a2, a3, a4, a5, a6, a7][is[j]!]! = z at x1 HZ AA
          generalize is[j]! = i at x1 p1
          by_cases hm : numMayB z = true
          · have HM := Lib.hid hm
            clear hm HZ
            go_wp2_with (first | (go_at_call 54; refine (NM.out _ _).mono ?_; rintro e w' ⟨rfl, rfl⟩; rw [HM.out]))
            go_roundg (n - j)
            case measure => omega
            case rel => exact ⟨j + 1, by omega, by omega, by go_num, AA.out HM.out, rfl⟩
          · have hm' : numMayB z = false := by simpa using hm
            have HM := Lib.hid hm'
            have HR := Lib.hid (HZ hm')
            clear hm hm' HZ
            go_wp2_with (first | (go_at_call 54; refine (NM.out _ _).mono ?_; rintro e w' ⟨rfl, rfl⟩; rw [HM.out]))
            go_ret
            exact ⟨by rw [HR.out]; rfl, B4.out⟩
        · have hji : ¬ (j : Int) < n := by omega
          have hjn : j = n := by omega
          subst hjn
          have HR := Lib.hid (HG.out ⟨HC.out, by trivial⟩ (by rw [← HN.out]; exact A.out))
          clear HG HB A
          rw [← HT.out] at HR
          have hpl : (plainF packetIdx [k, a1, a2, a3, a4, a5, a6, a7]).length = 8 := by unfold plainF; rw [copyF_length]; simp
          generalize plainF packetIdx [k, a1, a2, a3, a4, a5, a6, a7] = o at HP hpl HR
          obtain ⟨o0, o1, o2, o3, o4, o5, o6, o7, rfl⟩ : ∃ o0 o1 o2 o3 o4 o5 o6 o7, o = [o0, o1, o2, o3, o4, o5, o6, o7] := by
            match o, hpl with
            | [o0, o1, o2, o3, o4, o5, o6, o7], _ => exact ⟨o0, o1, o2, o3, o4, o5, o6, o7, rfl⟩
          clear hpl
          have x0 : w4.cell? ⟨w.heap.size, 0, none⟩ = some (.int .i64 k) := R4.out.1 0 (by simp)
          have x1 : w4.cell? ⟨w.heap.size, 1, none⟩ = some (.int .i64 a1) := R4.out.1 1 (by simp)
          have x2 : w4.cell? ⟨w.heap.size, 2, none⟩ = some (.int .i64 a2) := R4.out.1 2 (by simp)
          have x3 : w4.cell? ⟨w.heap.size, 3, none⟩ = some (.int .i64 a3) := R4.out.1 3 (by simp)
          have x4 : w4.cell? ⟨w.heap.size, 4, none⟩ = some (.int .i64 a4) := R4.out.1 4 (by simp)
          have x5 : w4.cell? ⟨w.heap.size, 5, none⟩ = some (.int .i64 a5) := R4.out.1 5 (by simp)
          have x6 : w4.cell? ⟨w.heap.size, 6, none⟩ = some (.int .i64 a6) := R4.out.1 6 (by simp)
          have x7 : w4.cell? ⟨w.heap.size, 7, none⟩ = some (.int .i64 a7) := R4.out.1 7 (by simp)
          have x8 : w4.cell? ⟨w.heap.size, 8, none⟩ = some (.string bs) := R4.out.2 0 (by simp)
          have hq := run_eqlPacket k a1 a2 a3 a4 a5 a6 a7 o0 o1 o2 o3 o4 o5 o6 o7 bs xs
          have hg := guard56
          generalize (decide ([k, a1, a2, a3, a4, a5, a6, a7] = [o0, o1, o2, o3, o4, o5, o6, o7]) && decide (bs = xs)) = bb at hq HR
          go_wp2_with fail
          go_region_with (go_at_call 65; refine (HP.out _ w4.drew R4.out).mono ?_; rintro e w5 ⟨rfl, b5⟩; (have y0 := keep_cell (w := w4.drew) x0 b5); (have y1 := keep_cell (w := w4.drew) x1 b5); (have y2 := keep_cell (w := w4.drew) x2 b5); (have y3 := keep_cell (w := w4.drew) x3 b5); (have y4 := keep_cell (w := w4.drew) x4 b5); (have y5 := keep_cell (w := w4.drew) x5 b5); (have y6 := keep_cell (w := w4.drew) x6 b5); (have y7 := keep_cell (w := w4.drew) x7 b5); (have y8 := keep_cell (w := w4.drew) x8 b5); simp only [recV, recL, List.map, List.cons_append, List.nil_append])
          all_goals
            go_wp2
            go_ret
            exact ⟨by rw [HR.out]; rfl, B4.out.drew.trans (b5.mono B4.out.size)⟩
  · have HR := Lib.hid (HN'.out (by omega))
    clear HN'
    rcases hc with ⟨h0, h1⟩ | ⟨h0, h1, h2⟩ | ⟨h0, h1, h2, h3, h4⟩
    all_goals
      first
      | (subst h0)
      | (have e0 := bne_of k 0 h0; clear h0; have e1 := bne_of k 1 h1; clear h1; have e2 := bne_of k 2 h2; clear h2; have e3 := bne_of k 3 h3; clear h3; have e4 := bne_of k 4 h4; clear h4)
      go_enter Try.func38, Try.ntmps38
      go_wp2
      go_ret
      exact ⟨by rw [HR.out]; rfl, BX.out⟩
end Go.Proofs.Ythkbeigimdgamaa
