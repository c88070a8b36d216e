/- bastionref1.PutPacket -/
import Derived.Test.YthkbeigimdgamaaPacketF
namespace Go.Proofs.Ythkbeigimdgamaa
open Go Go.RowKit

set_option maxRecDepth 100000 in
set_option maxHeartbeats 12800000 in
theorem refPacketPut_any (k a1 a2 a3 a4 a5 a6 a7 : Int) (d : List UInt8) (w : World) : Calls Try.prog 35 #[recV [k, a1, a2, a3, a4, a5, a6, a7] [strV d]] w fun e w' => e = .returned (.tuple #[strV (packetS.put [k, a1, a2, a3, a4, a5, a6, a7] d), .int .i64 (formE (packetS.may [k, a1, a2, a3, a4, a5, a6, a7] d) 400)]) ∧ Below w.heap.size w w' := by
  have hM := fun w => refPacketMay_any k a1 a2 a3 a4 a5 a6 a7 d w
  have hR := rec_new w [k, a1, a2, a3, a4, a5, a6, a7] [strV d] 56
  have NU := Lib.hid nums_any
  have hDL := packetS.text [k, a1, a2, a3, a4, a5, a6, a7] d
  have HDL := Lib.hid (fun h => hDL (Sp.may_parts h).1)
  clear hDL
  have HFT := Lib.hid (refText_any d)
  rw [show recV [k, a1, a2, a3, a4, a5, a6, a7] [strV d] = .agg #[.int .i64 k, .int .i64 a1, .int .i64 a2, .int .i64 a3, .int .i64 a4, .int .i64 a5, .int .i64 a6, .int .i64 a7, .string ⟨d.toArray⟩] from rfl] at hM ⊢
  rw [show strV d = .string ⟨d.toArray⟩ from rfl] at hR HFT
  generalize (⟨d.toArray⟩ : ByteArray) = bs at hR hM HFT ⊢
  replace hR : Rec (w.alloc (.cells #[.int .i64 k, .int .i64 a1, .int .i64 a2, .int .i64 a3, .int .i64 a4, .int .i64 a5, .int .i64 a6, .int .i64 a7, .string bs] 56)) w.heap.size [k, a1, a2, a3, a4, a5, a6, a7] [.string bs] := hR
  have HR := Lib.hid hR
  have HM := Lib.hid hM
  have BX := Lib.hid (show Below w.heap.size w (w.alloc (.cells #[.int .i64 k, .int .i64 a1, .int .i64 a2, .int .i64 a3, .int .i64 a4, .int .i64 a5, .int .i64 a6, .int .i64 a7, .string bs] 56)) from (Below.refl _ _).alloc (Nat.le_refl _) _)
  clear hM hR
  unfold Sp.put
  have HE := Lib.hid (show packetS.enc [k, a1, a2, a3, a4, a5, a6, a7] d = numF k ++ (numsF ((packetIdx k).map fun i => [k, a1, a2, a3, a4, a5, a6, a7][i]!) ++ (if packetS.txt k = true then putText d else [])) from rfl)
  cases hm : packetS.may [k, a1, a2, a3, a4, a5, a6, a7] d
  · have HB := Lib.hid hm
    clear hm HE
    go_enter Try.func35, Try.ntmps35
    go_wp2_with fail
    refine (HM.out _).mono ?_
    rintro e w1 ⟨rfl, b1⟩
    rw [HB.out]
    go_wp2
    go_ret2
    exact ⟨rfl, BX.out.trans (b1.mono BX.out.size)⟩
  · have hk := (packetMay_kind k a1 a2 a3 a4 a5 a6 a7 d hm).1
    have HB := Lib.hid hm
    rw [if_pos rfl]
    clear hm
    have HDL2 := Lib.hid (HDL.out HB.out)
    clear HDL
    generalize packetS.enc [k, a1, a2, a3, a4, a5, a6, a7] d = E at HE ⊢
    rcases hk with rfl | rfl | rfl | rfl | rfl
    · have N1 := Lib.hid (fun v w hv => NU.out v [0] w hv (by simp))
      have l1 := numsF_length [0]
      have s1 : (⟨(numsF [0]).toArray⟩ : ByteArray).size = (numsF [0]).length := rfl
      have N2 := Lib.hid (fun v w hv => NU.out v [a1, a2] w hv (by simp))
      have l2 := numsF_length [a1, a2]
      have s2 : (⟨(numsF [a1, a2]).toArray⟩ : ByteArray).size = (numsF [a1, a2]).length := rfl
      have HE2 : E = numsF [0] ++ numsF [a1, a2] := by
        rw [HE.out, show numF 0 = numsF [0] from by simp [numsF]]
        show numsF [0] ++ (numsF [a1, a2] ++ []) = _
        simp [numsF]
      have HS : Hid (strV E = .string ((⟨(numsF [0]).toArray⟩ : ByteArray) ++ (⟨(numsF [a1, a2]).toArray⟩ : ByteArray))) := Lib.hid (by rw [HE2, strV_append])
      clear HE HE2 NU HFT HDL2
      unfold strV at N1 N2
      generalize (⟨(numsF [0]).toArray⟩ : ByteArray) = q1 at N1 s1 HS
      generalize (numsF [0]).length = m1 at l1 s1
      generalize (⟨(numsF [a1, a2]).toArray⟩ : ByteArray) = q2 at N2 s2 HS
      generalize (numsF [a1, a2]).length = m2 at l2 s2
      simp only [List.length_cons, List.length_nil] at l1 l2
      go_enter Try.func35, Try.ntmps35
      go_wp2_with fail
      refine (HM.out _).mono ?_
      rintro e w1 ⟨rfl, b1⟩
      rw [HB.out]
      have R1 := Lib.hid (HR.out.below b1)
      have B1 := Lib.hid (BX.out.trans (b1.mono BX.out.size))
      clear b1 HR BX HM
      have x0 : w1.cell? ⟨w.heap.size, 0, none⟩ = some (.int .i64 0) := R1.out.1 0 (by simp)
      have A1 := Lib.hid (show Below w1.heap.size w1 (w1.alloc (.cells #[.int .i64 0] 3)) from (Below.refl _ _).alloc (Nat.le_refl _) _)
      have I1 : Hid (Ints (w1.alloc (.cells #[.int .i64 0] 3)) (.slice (some ⟨w1.heap.size, 0, none⟩) 1 1) [0]) := Lib.hid (ints_new w1 [0])
      go_wp2_with fail
      refine (N1.out _ _ I1.out).mono ?_
      rintro e w2 ⟨rfl, b2⟩
      have b2' := A1.out.trans (b2.mono A1.out.size)
      have R2 := Lib.hid (R1.out.below b2')
      have B2 := Lib.hid (B1.out.trans (b2'.mono B1.out.size))
      clear b2 b2' R1 B1 x0 A1 I1
      have x0 : w2.cell? ⟨w.heap.size, 0, none⟩ = some (.int .i64 0) := R2.out.1 0 (by simp)
      have x1 : w2.cell? ⟨w.heap.size, 1, none⟩ = some (.int .i64 a1) := R2.out.1 1 (by simp)
      have x2 : w2.cell? ⟨w.heap.size, 2, none⟩ = some (.int .i64 a2) := R2.out.1 2 (by simp)
      have A2 := Lib.hid (show Below w2.heap.size w2 (w2.alloc (.cells #[.int .i64 a1, .int .i64 a2] 3)) from (Below.refl _ _).alloc (Nat.le_refl _) _)
      have I2 : Hid (Ints (w2.alloc (.cells #[.int .i64 a1, .int .i64 a2] 3)) (.slice (some ⟨w2.heap.size, 0, none⟩) 2 2) [a1, a2]) := Lib.hid (ints_new w2 [a1, a2])
      go_wp2_with fail
      refine (N2.out _ _ I2.out).mono ?_
      rintro e w5 ⟨rfl, b5⟩
      have B5 := Lib.hid (B2.out.trans ((A2.out.trans (b5.mono A2.out.size)).mono B2.out.size))
      clear b5 A2 I2
      go_wp2
      go_ret2
      exact ⟨by rw [HS.out]; rfl, B5.out⟩
    · have N1 := Lib.hid (fun v w hv => NU.out v [1] w hv (by simp))
      have l1 := numsF_length [1]
      have s1 : (⟨(numsF [1]).toArray⟩ : ByteArray).size = (numsF [1]).length := rfl
      have N2 := Lib.hid (fun v w hv => NU.out v [a3, a4, a5] w hv (by simp))
      have l2 := numsF_length [a3, a4, a5]
      have s2 : (⟨(numsF [a3, a4, a5]).toArray⟩ : ByteArray).size = (numsF [a3, a4, a5]).length := rfl
      have HE2 : E = numsF [1] ++ numsF [a3, a4, a5] := by
        rw [HE.out, show numF 1 = numsF [1] from by simp [numsF]]
        show numsF [1] ++ (numsF [a3, a4, a5] ++ []) = _
        simp [numsF]
      have HS : Hid (strV E = .string ((⟨(numsF [1]).toArray⟩ : ByteArray) ++ (⟨(numsF [a3, a4, a5]).toArray⟩ : ByteArray))) := Lib.hid (by rw [HE2, strV_append])
      clear HE HE2 NU HFT HDL2
      unfold strV at N1 N2
      generalize (⟨(numsF [1]).toArray⟩ : ByteArray) = q1 at N1 s1 HS
      generalize (numsF [1]).length = m1 at l1 s1
      generalize (⟨(numsF [a3, a4, a5]).toArray⟩ : ByteArray) = q2 at N2 s2 HS
      generalize (numsF [a3, a4, a5]).length = m2 at l2 s2
      simp only [List.length_cons, List.length_nil] at l1 l2
      go_enter Try.func35, Try.ntmps35
      go_wp2_with fail
      refine (HM.out _).mono ?_
      rintro e w1 ⟨rfl, b1⟩
      rw [HB.out]
      have R1 := Lib.hid (HR.out.below b1)
      have B1 := Lib.hid (BX.out.trans (b1.mono BX.out.size))
      clear b1 HR BX HM
      have x0 : w1.cell? ⟨w.heap.size, 0, none⟩ = some (.int .i64 1) := R1.out.1 0 (by simp)
      have A1 := Lib.hid (show Below w1.heap.size w1 (w1.alloc (.cells #[.int .i64 1] 3)) from (Below.refl _ _).alloc (Nat.le_refl _) _)
      have I1 : Hid (Ints (w1.alloc (.cells #[.int .i64 1] 3)) (.slice (some ⟨w1.heap.size, 0, none⟩) 1 1) [1]) := Lib.hid (ints_new w1 [1])
      go_wp2_with fail
      refine (N1.out _ _ I1.out).mono ?_
      rintro e w2 ⟨rfl, b2⟩
      have b2' := A1.out.trans (b2.mono A1.out.size)
      have R2 := Lib.hid (R1.out.below b2')
      have B2 := Lib.hid (B1.out.trans (b2'.mono B1.out.size))
      clear b2 b2' R1 B1 x0 A1 I1
      have x0 : w2.cell? ⟨w.heap.size, 0, none⟩ = some (.int .i64 1) := R2.out.1 0 (by simp)
      have x3 : w2.cell? ⟨w.heap.size, 3, none⟩ = some (.int .i64 a3) := R2.out.1 3 (by simp)
      have x4 : w2.cell? ⟨w.heap.size, 4, none⟩ = some (.int .i64 a4) := R2.out.1 4 (by simp)
      have x5 : w2.cell? ⟨w.heap.size, 5, none⟩ = some (.int .i64 a5) := R2.out.1 5 (by simp)
      have A2 := Lib.hid (show Below w2.heap.size w2 (w2.alloc (.cells #[.int .i64 a3, .int .i64 a4, .int .i64 a5] 3)) from (Below.refl _ _).alloc (Nat.le_refl _) _)
      have I2 : Hid (Ints (w2.alloc (.cells #[.int .i64 a3, .int .i64 a4, .int .i64 a5] 3)) (.slice (some ⟨w2.heap.size, 0, none⟩) 3 3) [a3, a4, a5]) := Lib.hid (ints_new w2 [a3, a4, a5])
      go_wp2_with fail
      refine (N2.out _ _ I2.out).mono ?_
      rintro e w5 ⟨rfl, b5⟩
      have B5 := Lib.hid (B2.out.trans ((A2.out.trans (b5.mono A2.out.size)).mono B2.out.size))
      clear b5 A2 I2
      go_wp2
      go_ret2
      exact ⟨by rw [HS.out]; rfl, B5.out⟩
    · have N1 := Lib.hid (fun v w hv => NU.out v [2] w hv (by simp))
      have l1 := numsF_length [2]
      have s1 : (⟨(numsF [2]).toArray⟩ : ByteArray).size = (numsF [2]).length := rfl
      have N2 := Lib.hid (fun v w hv => NU.out v [a4, a2, a5] w hv (by simp))
      have l2 := numsF_length [a4, a2, a5]
      have s2 : (⟨(numsF [a4, a2, a5]).toArray⟩ : ByteArray).size = (numsF [a4, a2, a5]).length := rfl
      have HE2 : E = numsF [2] ++ numsF [a4, a2, a5] := by
        rw [HE.out, show numF 2 = numsF [2] from by simp [numsF]]
        show numsF [2] ++ (numsF [a4, a2, a5] ++ []) = _
        simp [numsF]
      have HS : Hid (strV E = .string ((⟨(numsF [2]).toArray⟩ : ByteArray) ++ (⟨(numsF [a4, a2, a5]).toArray⟩ : ByteArray))) := Lib.hid (by rw [HE2, strV_append])
      clear HE HE2 NU HFT HDL2
      unfold strV at N1 N2
      generalize (⟨(numsF [2]).toArray⟩ : ByteArray) = q1 at N1 s1 HS
      generalize (numsF [2]).length = m1 at l1 s1
      generalize (⟨(numsF [a4, a2, a5]).toArray⟩ : ByteArray) = q2 at N2 s2 HS
      generalize (numsF [a4, a2, a5]).length = m2 at l2 s2
      simp only [List.length_cons, List.length_nil] at l1 l2
      go_enter Try.func35, Try.ntmps35
      go_wp2_with fail
      refine (HM.out _).mono ?_
      rintro e w1 ⟨rfl, b1⟩
      rw [HB.out]
      have R1 := Lib.hid (HR.out.below b1)
      have B1 := Lib.hid (BX.out.trans (b1.mono BX.out.size))
      clear b1 HR BX HM
      have x0 : w1.cell? ⟨w.heap.size, 0, none⟩ = some (.int .i64 2) := R1.out.1 0 (by simp)
      have A1 := Lib.hid (show Below w1.heap.size w1 (w1.alloc (.cells #[.int .i64 2] 3)) from (Below.refl _ _).alloc (Nat.le_refl _) _)
      have I1 : Hid (Ints (w1.alloc (.cells #[.int .i64 2] 3)) (.slice (some ⟨w1.heap.size, 0, none⟩) 1 1) [2]) := Lib.hid (ints_new w1 [2])
      go_wp2_with fail
      refine (N1.out _ _ I1.out).mono ?_
      rintro e w2 ⟨rfl, b2⟩
      have b2' := A1.out.trans (b2.mono A1.out.size)
      have R2 := Lib.hid (R1.out.below b2')
      have B2 := Lib.hid (B1.out.trans (b2'.mono B1.out.size))
      clear b2 b2' R1 B1 x0 A1 I1
      have x0 : w2.cell? ⟨w.heap.size, 0, none⟩ = some (.int .i64 2) := R2.out.1 0 (by simp)
      have x4 : w2.cell? ⟨w.heap.size, 4, none⟩ = some (.int .i64 a4) := R2.out.1 4 (by simp)
      have x2 : w2.cell? ⟨w.heap.size, 2, none⟩ = some (.int .i64 a2) := R2.out.1 2 (by simp)
      have x5 : w2.cell? ⟨w.heap.size, 5, none⟩ = some (.int .i64 a5) := R2.out.1 5 (by simp)
      have A2 := Lib.hid (show Below w2.heap.size w2 (w2.alloc (.cells #[.int .i64 a4, .int .i64 a2, .int .i64 a5] 3)) from (Below.refl _ _).alloc (Nat.le_refl _) _)
      have I2 : Hid (Ints (w2.alloc (.cells #[.int .i64 a4, .int .i64 a2, .int .i64 a5] 3)) (.slice (some ⟨w2.heap.size, 0, none⟩) 3 3) [a4, a2, a5]) := Lib.hid (ints_new w2 [a4, a2, a5])
      go_wp2_with fail
      refine (N2.out _ _ I2.out).mono ?_
      rintro e w5 ⟨rfl, b5⟩
      have B5 := Lib.hid (B2.out.trans ((A2.out.trans (b5.mono A2.out.size)).mono B2.out.size))
      clear b5 A2 I2
      go_wp2
      go_ret2
      exact ⟨by rw [HS.out]; rfl, B5.out⟩
    · have N1 := Lib.hid (fun v w hv => NU.out v [3] w hv (by simp))
      have l1 := numsF_length [3]
      have s1 : (⟨(numsF [3]).toArray⟩ : ByteArray).size = (numsF [3]).length := rfl
      have N2 := Lib.hid (fun v w hv => NU.out v [a6, a7, a4] w hv (by simp))
      have l2 := numsF_length [a6, a7, a4]
      have s2 : (⟨(numsF [a6, a7, a4]).toArray⟩ : ByteArray).size = (numsF [a6, a7, a4]).length := rfl
      have HE2 : E = numsF [3] ++ numsF [a6, a7, a4] ++ putText d := by
        rw [HE.out, show numF 3 = numsF [3] from by simp [numsF]]
        show numsF [3] ++ (numsF [a6, a7, a4] ++ putText d) = _
        simp [numsF]
      have HS : Hid (strV E = .string ((⟨(numsF [3]).toArray⟩ : ByteArray) ++ (⟨(numsF [a6, a7, a4]).toArray⟩ : ByteArray) ++ (⟨(putText d).toArray⟩ : ByteArray))) := Lib.hid (by rw [HE2, strV_append]; congr 1)
      have hdl := HDL2.out rfl
      have l3 := putText_length d hdl
      have s3 : (⟨(putText d).toArray⟩ : ByteArray).size = (putText d).length := rfl
      have n3 := HFT.out (by omega)
      simp only [show ¬ (65536 < d.length) from by omega, if_false] at n3
      have N3 := Lib.hid n3
      clear n3
      clear HE HE2 NU HFT HDL2 hdl
      unfold strV at N1 N2 N3
      generalize (⟨(numsF [3]).toArray⟩ : ByteArray) = q1 at N1 s1 HS
      generalize (numsF [3]).length = m1 at l1 s1
      generalize (⟨(numsF [a6, a7, a4]).toArray⟩ : ByteArray) = q2 at N2 s2 HS
      generalize (numsF [a6, a7, a4]).length = m2 at l2 s2
      generalize (⟨(putText d).toArray⟩ : ByteArray) = q3 at N3 s3 HS
      generalize (putText d).length = m3 at l3 s3
      simp only [List.length_cons, List.length_nil] at l1 l2
      go_enter Try.func35, Try.ntmps35
      go_wp2_with fail
      refine (HM.out _).mono ?_
      rintro e w1 ⟨rfl, b1⟩
      rw [HB.out]
      have R1 := Lib.hid (HR.out.below b1)
      have B1 := Lib.hid (BX.out.trans (b1.mono BX.out.size))
      clear b1 HR BX HM
      have x0 : w1.cell? ⟨w.heap.size, 0, none⟩ = some (.int .i64 3) := R1.out.1 0 (by simp)
      have A1 := Lib.hid (show Below w1.heap.size w1 (w1.alloc (.cells #[.int .i64 3] 3)) from (Below.refl _ _).alloc (Nat.le_refl _) _)
      have I1 : Hid (Ints (w1.alloc (.cells #[.int .i64 3] 3)) (.slice (some ⟨w1.heap.size, 0, none⟩) 1 1) [3]) := Lib.hid (ints_new w1 [3])
      go_wp2_with fail
      refine (N1.out _ _ I1.out).mono ?_
      rintro e w2 ⟨rfl, b2⟩
      have b2' := A1.out.trans (b2.mono A1.out.size)
      have R2 := Lib.hid (R1.out.below b2')
      have B2 := Lib.hid (B1.out.trans (b2'.mono B1.out.size))
      clear b2 b2' R1 B1 x0 A1 I1
      have x0 : w2.cell? ⟨w.heap.size, 0, none⟩ = some (.int .i64 3) := R2.out.1 0 (by simp)
      have x8 : w2.cell? ⟨w.heap.size, 8, none⟩ = some (.string bs) := R2.out.2 0 (by simp)
      go_wp2_with fail
      refine (N3.out _).mono ?_
      rintro e w3 ⟨rfl, b3⟩
      have R3 := Lib.hid (R2.out.below b3)
      have B3 := Lib.hid (B2.out.trans (b3.mono B2.out.size))
      clear b3 R2 B2 x0 x8
      have x6 : w3.cell? ⟨w.heap.size, 6, none⟩ = some (.int .i64 a6) := R3.out.1 6 (by simp)
      have x7 : w3.cell? ⟨w.heap.size, 7, none⟩ = some (.int .i64 a7) := R3.out.1 7 (by simp)
      have x4 : w3.cell? ⟨w.heap.size, 4, none⟩ = some (.int .i64 a4) := R3.out.1 4 (by simp)
      have A2 := Lib.hid (show Below w3.heap.size w3 (w3.alloc (.cells #[.int .i64 a6, .int .i64 a7, .int .i64 a4] 3)) from (Below.refl _ _).alloc (Nat.le_refl _) _)
      have I2 : Hid (Ints (w3.alloc (.cells #[.int .i64 a6, .int .i64 a7, .int .i64 a4] 3)) (.slice (some ⟨w3.heap.size, 0, none⟩) 3 3) [a6, a7, a4]) := Lib.hid (ints_new w3 [a6, a7, a4])
      go_wp2_with fail
      refine (N2.out _ _ I2.out).mono ?_
      rintro e w5 ⟨rfl, b5⟩
      have B5 := Lib.hid (B3.out.trans ((A2.out.trans (b5.mono A2.out.size)).mono B3.out.size))
      clear b5 A2 I2
      go_wp2
      go_ret2
      exact ⟨by rw [HS.out]; rfl, B5.out⟩
    · have N1 := Lib.hid (fun v w hv => NU.out v [4] w hv (by simp))
      have l1 := numsF_length [4]
      have s1 : (⟨(numsF [4]).toArray⟩ : ByteArray).size = (numsF [4]).length := rfl
      have N2 := Lib.hid (fun v w hv => NU.out v [a6, a4] w hv (by simp))
      have l2 := numsF_length [a6, a4]
      have s2 : (⟨(numsF [a6, a4]).toArray⟩ : ByteArray).size = (numsF [a6, a4]).length := rfl
      have HE2 : E = numsF [4] ++ numsF [a6, a4] := by
        rw [HE.out, show numF 4 = numsF [4] from by simp [numsF]]
        show numsF [4] ++ (numsF [a6, a4] ++ []) = _
        simp [numsF]
      have HS : Hid (strV E = .string ((⟨(numsF [4]).toArray⟩ : ByteArray) ++ (⟨(numsF [a6, a4]).toArray⟩ : ByteArray))) := Lib.hid (by rw [HE2, strV_append])
      clear HE HE2 NU HFT HDL2
      unfold strV at N1 N2
      generalize (⟨(numsF [4]).toArray⟩ : ByteArray) = q1 at N1 s1 HS
      generalize (numsF [4]).length = m1 at l1 s1
      generalize (⟨(numsF [a6, a4]).toArray⟩ : ByteArray) = q2 at N2 s2 HS
      generalize (numsF [a6, a4]).length = m2 at l2 s2
      simp only [List.length_cons, List.length_nil] at l1 l2
      go_enter Try.func35, Try.ntmps35
      go_wp2_with fail
      refine (HM.out _).mono ?_
      rintro e w1 ⟨rfl, b1⟩
      rw [HB.out]
      have R1 := Lib.hid (HR.out.below b1)
      have B1 := Lib.hid (BX.out.trans (b1.mono BX.out.size))
      clear b1 HR BX HM
      have x0 : w1.cell? ⟨w.heap.size, 0, none⟩ = some (.int .i64 4) := R1.out.1 0 (by simp)
      have A1 := Lib.hid (show Below w1.heap.size w1 (w1.alloc (.cells #[.int .i64 4] 3)) from (Below.refl _ _).alloc (Nat.le_refl _) _)
      have I1 : Hid (Ints (w1.alloc (.cells #[.int .i64 4] 3)) (.slice (some ⟨w1.heap.size, 0, none⟩) 1 1) [4]) := Lib.hid (ints_new w1 [4])
      go_wp2_with fail
      refine (N1.out _ _ I1.out).mono ?_
      rintro e w2 ⟨rfl, b2⟩
      have b2' := A1.out.trans (b2.mono A1.out.size)
      have R2 := Lib.hid (R1.out.below b2')
      have B2 := Lib.hid (B1.out.trans (b2'.mono B1.out.size))
      clear b2 b2' R1 B1 x0 A1 I1
      have x0 : w2.cell? ⟨w.heap.size, 0, none⟩ = some (.int .i64 4) := R2.out.1 0 (by simp)
      have x6 : w2.cell? ⟨w.heap.size, 6, none⟩ = some (.int .i64 a6) := R2.out.1 6 (by simp)
      have x4 : w2.cell? ⟨w.heap.size, 4, none⟩ = some (.int .i64 a4) := R2.out.1 4 (by simp)
      have A2 := Lib.hid (show Below w2.heap.size w2 (w2.alloc (.cells #[.int .i64 a6, .int .i64 a4] 3)) from (Below.refl _ _).alloc (Nat.le_refl _) _)
      have I2 : Hid (Ints (w2.alloc (.cells #[.int .i64 a6, .int .i64 a4] 3)) (.slice (some ⟨w2.heap.size, 0, none⟩) 2 2) [a6, a4]) := Lib.hid (ints_new w2 [a6, a4])
      go_wp2_with fail
      refine (N2.out _ _ I2.out).mono ?_
      rintro e w5 ⟨rfl, b5⟩
      have B5 := Lib.hid (B2.out.trans ((A2.out.trans (b5.mono A2.out.size)).mono B2.out.size))
      clear b5 A2 I2
      go_wp2
      go_ret2
      exact ⟨by rw [HS.out]; rfl, B5.out⟩
end Go.Proofs.Ythkbeigimdgamaa
