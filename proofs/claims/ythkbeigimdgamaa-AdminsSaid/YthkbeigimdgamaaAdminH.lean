/- bastionref1.PutAdmin -/
import Derived.Test.YthkbeigimdgamaaAdminF
namespace Go.Proofs.Ythkbeigimdgamaa
open Go Go.RowKit

set_option maxRecDepth 100000 in
set_option maxHeartbeats 12800000 in
theorem refAdminPut_any (k a1 a2 a3 a4 a5 : Int) (w : World) : Calls Try.prog 20 #[recV [k, a1, a2, a3, a4, a5] []] w fun e w' => e = .returned (.tuple #[strV (adminS.put [k, a1, a2, a3, a4, a5] []), .int .i64 (formE (adminS.may [k, a1, a2, a3, a4, a5] []) 600)]) ∧ Below w.heap.size w w' := by
  have hM := fun w => refAdminMay_any k a1 a2 a3 a4 a5 w
  have hR := rec_new w [k, a1, a2, a3, a4, a5] [] 23
  have NU := Lib.hid nums_any
  rw [show recV [k, a1, a2, a3, a4, a5] [] = .agg #[.int .i64 k, .int .i64 a1, .int .i64 a2, .int .i64 a3, .int .i64 a4, .int .i64 a5] from rfl] at hM ⊢
  replace hR : Rec (w.alloc (.cells #[.int .i64 k, .int .i64 a1, .int .i64 a2, .int .i64 a3, .int .i64 a4, .int .i64 a5] 23)) w.heap.size [k, a1, a2, a3, a4, a5] [] := hR
  have HR := Lib.hid hR
  have HM := Lib.hid hM
  have BX := Lib.hid (show Below w.heap.size w (w.alloc (.cells #[.int .i64 k, .int .i64 a1, .int .i64 a2, .int .i64 a3, .int .i64 a4, .int .i64 a5] 23)) from (Below.refl _ _).alloc (Nat.le_refl _) _)
  clear hM hR
  unfold Sp.put
  have HE := Lib.hid (show adminS.enc [k, a1, a2, a3, a4, a5] [] = numF k ++ (numsF ((adminIdx k).map fun i => [k, a1, a2, a3, a4, a5][i]!) ++ (if adminS.txt k = true then putText [] else [])) from rfl)
  cases hm : adminS.may [k, a1, a2, a3, a4, a5] []
  · have HB := Lib.hid hm
    clear hm HE
    go_enter Try.func20, Try.ntmps20
    go_wp2_with fail
    refine (HM.out _).mono ?_
    rintro e w1 ⟨rfl, b1⟩
    rw [HB.out]
    go_wp2
    go_ret2
    exact ⟨rfl, BX.out.trans (b1.mono BX.out.size)⟩
  · have hk := (adminMay_kind k a1 a2 a3 a4 a5 hm).1
    have HB := Lib.hid hm
    rw [if_pos rfl]
    clear hm
    generalize adminS.enc [k, a1, a2, a3, a4, a5] [] = E at HE ⊢
    rcases hk with rfl | rfl | rfl | rfl | rfl
    · have N1 := Lib.hid (fun v w hv => NU.out v [0] w hv (by simp))
      have l1 := numsF_length [0]
      have s1 : (⟨(numsF [0]).toArray⟩ : ByteArray).size = (numsF [0]).length := rfl
      have N2 := Lib.hid (fun v w hv => NU.out v [a1, a2, a3, a4] w hv (by simp))
      have l2 := numsF_length [a1, a2, a3, a4]
      have s2 : (⟨(numsF [a1, a2, a3, a4]).toArray⟩ : ByteArray).size = (numsF [a1, a2, a3, a4]).length := rfl
      have HE2 : E = numsF [0] ++ numsF [a1, a2, a3, a4] := by
        rw [HE.out, show numF 0 = numsF [0] from by simp [numsF]]
        show numsF [0] ++ (numsF [a1, a2, a3, a4] ++ []) = _
        simp [numsF]
      have HS : Hid (strV E = .string ((⟨(numsF [0]).toArray⟩ : ByteArray) ++ (⟨(numsF [a1, a2, a3, a4]).toArray⟩ : ByteArray))) := Lib.hid (by rw [HE2, strV_append])
      clear HE HE2 NU
      unfold strV at N1 N2
      generalize (⟨(numsF [0]).toArray⟩ : ByteArray) = q1 at N1 s1 HS
      generalize (numsF [0]).length = m1 at l1 s1
      generalize (⟨(numsF [a1, a2, a3, a4]).toArray⟩ : ByteArray) = q2 at N2 s2 HS
      generalize (numsF [a1, a2, a3, a4]).length = m2 at l2 s2
      simp only [List.length_cons, List.length_nil] at l1 l2
      go_enter Try.func20, Try.ntmps20
      go_wp2_with fail
      refine (HM.out _).mono ?_
      rintro e w1 ⟨rfl, b1⟩
      rw [HB.out]
      have R1 := Lib.hid (HR.out.below b1)
      have B1 := Lib.hid (BX.out.trans (b1.mono BX.out.size))
      clear b1 HR BX HM
      have x0 : w1.cell? ⟨w.heap.size, 0, none⟩ = some (.int .i64 0) := R1.out.1 0 (by simp)
      have A1 := Lib.hid (show Below w1.heap.size w1 (w1.alloc (.cells #[.int .i64 0] 3)) from (Below.refl _ _).alloc (Nat.le_refl _) _)
      have I1 : Hid (Ints (w1.alloc (.cells #[.int .i64 0] 3)) (.slice (some ⟨w1.heap.size, 0, none⟩) 1 1) [0]) := Lib.hid (ints_new w1 [0])
      go_wp2_with fail
      refine (N1.out _ _ I1.out).mono ?_
      rintro e w2 ⟨rfl, b2⟩
      have b2' := A1.out.trans (b2.mono A1.out.size)
      have R2 := Lib.hid (R1.out.below b2')
      have B2 := Lib.hid (B1.out.trans (b2'.mono B1.out.size))
      clear b2 b2' R1 B1 x0 A1 I1
      have x0 : w2.cell? ⟨w.heap.size, 0, none⟩ = some (.int .i64 0) := R2.out.1 0 (by simp)
      have x1 : w2.cell? ⟨w.heap.size, 1, none⟩ = some (.int .i64 a1) := R2.out.1 1 (by simp)
      have x2 : w2.cell? ⟨w.heap.size, 2, none⟩ = some (.int .i64 a2) := R2.out.1 2 (by simp)
      have x3 : w2.cell? ⟨w.heap.size, 3, none⟩ = some (.int .i64 a3) := R2.out.1 3 (by simp)
      have x4 : w2.cell? ⟨w.heap.size, 4, none⟩ = some (.int .i64 a4) := R2.out.1 4 (by simp)
      have A2 := Lib.hid (show Below w2.heap.size w2 (w2.alloc (.cells #[.int .i64 a1, .int .i64 a2, .int .i64 a3, .int .i64 a4] 3)) from (Below.refl _ _).alloc (Nat.le_refl _) _)
      have I2 : Hid (Ints (w2.alloc (.cells #[.int .i64 a1, .int .i64 a2, .int .i64 a3, .int .i64 a4] 3)) (.slice (some ⟨w2.heap.size, 0, none⟩) 4 4) [a1, a2, a3, a4]) := Lib.hid (ints_new w2 [a1, a2, a3, a4])
      go_wp2_with fail
      refine (N2.out _ _ I2.out).mono ?_
      rintro e w5 ⟨rfl, b5⟩
      have B5 := Lib.hid (B2.out.trans ((A2.out.trans (b5.mono A2.out.size)).mono B2.out.size))
      clear b5 A2 I2
      go_wp2
      go_ret2
      exact ⟨by rw [HS.out]; rfl, B5.out⟩
    · have N1 := Lib.hid (fun v w hv => NU.out v [1] w hv (by simp))
      have l1 := numsF_length [1]
      have s1 : (⟨(numsF [1]).toArray⟩ : ByteArray).size = (numsF [1]).length := rfl
      have N2 := Lib.hid (fun v w hv => NU.out v [a1] w hv (by simp))
      have l2 := numsF_length [a1]
      have s2 : (⟨(numsF [a1]).toArray⟩ : ByteArray).size = (numsF [a1]).length := rfl
      have HE2 : E = numsF [1] ++ numsF [a1] := by
        rw [HE.out, show numF 1 = numsF [1] from by simp [numsF]]
        show numsF [1] ++ (numsF [a1] ++ []) = _
        simp [numsF]
      have HS : Hid (strV E = .string ((⟨(numsF [1]).toArray⟩ : ByteArray) ++ (⟨(numsF [a1]).toArray⟩ : ByteArray))) := Lib.hid (by rw [HE2, strV_append])
      clear HE HE2 NU
      unfold strV at N1 N2
      generalize (⟨(numsF [1]).toArray⟩ : ByteArray) = q1 at N1 s1 HS
      generalize (numsF [1]).length = m1 at l1 s1
      generalize (⟨(numsF [a1]).toArray⟩ : ByteArray) = q2 at N2 s2 HS
      generalize (numsF [a1]).length = m2 at l2 s2
      simp only [List.length_cons, List.length_nil] at l1 l2
      go_enter Try.func20, Try.ntmps20
      go_wp2_with fail
      refine (HM.out _).mono ?_
      rintro e w1 ⟨rfl, b1⟩
      rw [HB.out]
      have R1 := Lib.hid (HR.out.below b1)
      have B1 := Lib.hid (BX.out.trans (b1.mono BX.out.size))
      clear b1 HR BX HM
      have x0 : w1.cell? ⟨w.heap.size, 0, none⟩ = some (.int .i64 1) := R1.out.1 0 (by simp)
      have A1 := Lib.hid (show Below w1.heap.size w1 (w1.alloc (.cells #[.int .i64 1] 3)) from (Below.refl _ _).alloc (Nat.le_refl _) _)
      have I1 : Hid (Ints (w1.alloc (.cells #[.int .i64 1] 3)) (.slice (some ⟨w1.heap.size, 0, none⟩) 1 1) [1]) := Lib.hid (ints_new w1 [1])
      go_wp2_with fail
      refine (N1.out _ _ I1.out).mono ?_
      rintro e w2 ⟨rfl, b2⟩
      have b2' := A1.out.trans (b2.mono A1.out.size)
      have R2 := Lib.hid (R1.out.below b2')
      have B2 := Lib.hid (B1.out.trans (b2'.mono B1.out.size))
      clear b2 b2' R1 B1 x0 A1 I1
      have x0 : w2.cell? ⟨w.heap.size, 0, none⟩ = some (.int .i64 1) := R2.out.1 0 (by simp)
      have x1 : w2.cell? ⟨w.heap.size, 1, none⟩ = some (.int .i64 a1) := R2.out.1 1 (by simp)
      have A2 := Lib.hid (show Below w2.heap.size w2 (w2.alloc (.cells #[.int .i64 a1] 3)) from (Below.refl _ _).alloc (Nat.le_refl _) _)
      have I2 : Hid (Ints (w2.alloc (.cells #[.int .i64 a1] 3)) (.slice (some ⟨w2.heap.size, 0, none⟩) 1 1) [a1]) := Lib.hid (ints_new w2 [a1])
      go_wp2_with fail
      refine (N2.out _ _ I2.out).mono ?_
      rintro e w5 ⟨rfl, b5⟩
      have B5 := Lib.hid (B2.out.trans ((A2.out.trans (b5.mono A2.out.size)).mono B2.out.size))
      clear b5 A2 I2
      go_wp2
      go_ret2
      exact ⟨by rw [HS.out]; rfl, B5.out⟩
    · have N1 := Lib.hid (fun v w hv => NU.out v [2] w hv (by simp))
      have l1 := numsF_length [2]
      have s1 : (⟨(numsF [2]).toArray⟩ : ByteArray).size = (numsF [2]).length := rfl
      have N2 := Lib.hid (fun v w hv => NU.out v [a1] w hv (by simp))
      have l2 := numsF_length [a1]
      have s2 : (⟨(numsF [a1]).toArray⟩ : ByteArray).size = (numsF [a1]).length := rfl
      have HE2 : E = numsF [2] ++ numsF [a1] := by
        rw [HE.out, show numF 2 = numsF [2] from by simp [numsF]]
        show numsF [2] ++ (numsF [a1] ++ []) = _
        simp [numsF]
      have HS : Hid (strV E = .string ((⟨(numsF [2]).toArray⟩ : ByteArray) ++ (⟨(numsF [a1]).toArray⟩ : ByteArray))) := Lib.hid (by rw [HE2, strV_append])
      clear HE HE2 NU
      unfold strV at N1 N2
      generalize (⟨(numsF [2]).toArray⟩ : ByteArray) = q1 at N1 s1 HS
      generalize (numsF [2]).length = m1 at l1 s1
      generalize (⟨(numsF [a1]).toArray⟩ : ByteArray) = q2 at N2 s2 HS
      generalize (numsF [a1]).length = m2 at l2 s2
      simp only [List.length_cons, List.length_nil] at l1 l2
      go_enter Try.func20, Try.ntmps20
      go_wp2_with fail
      refine (HM.out _).mono ?_
      rintro e w1 ⟨rfl, b1⟩
      rw [HB.out]
      have R1 := Lib.hid (HR.out.below b1)
      have B1 := Lib.hid (BX.out.trans (b1.mono BX.out.size))
      clear b1 HR BX HM
      have x0 : w1.cell? ⟨w.heap.size, 0, none⟩ = some (.int .i64 2) := R1.out.1 0 (by simp)
      have A1 := Lib.hid (show Below w1.heap.size w1 (w1.alloc (.cells #[.int .i64 2] 3)) from (Below.refl _ _).alloc (Nat.le_refl _) _)
      have I1 : Hid (Ints (w1.alloc (.cells #[.int .i64 2] 3)) (.slice (some ⟨w1.heap.size, 0, none⟩) 1 1) [2]) := Lib.hid (ints_new w1 [2])
      go_wp2_with fail
      refine (N1.out _ _ I1.out).mono ?_
      rintro e w2 ⟨rfl, b2⟩
      have b2' := A1.out.trans (b2.mono A1.out.size)
      have R2 := Lib.hid (R1.out.below b2')
      have B2 := Lib.hid (B1.out.trans (b2'.mono B1.out.size))
      clear b2 b2' R1 B1 x0 A1 I1
      have x0 : w2.cell? ⟨w.heap.size, 0, none⟩ = some (.int .i64 2) := R2.out.1 0 (by simp)
      have x1 : w2.cell? ⟨w.heap.size, 1, none⟩ = some (.int .i64 a1) := R2.out.1 1 (by simp)
      have A2 := Lib.hid (show Below w2.heap.size w2 (w2.alloc (.cells #[.int .i64 a1] 3)) from (Below.refl _ _).alloc (Nat.le_refl _) _)
      have I2 : Hid (Ints (w2.alloc (.cells #[.int .i64 a1] 3)) (.slice (some ⟨w2.heap.size, 0, none⟩) 1 1) [a1]) := Lib.hid (ints_new w2 [a1])
      go_wp2_with fail
      refine (N2.out _ _ I2.out).mono ?_
      rintro e w5 ⟨rfl, b5⟩
      have B5 := Lib.hid (B2.out.trans ((A2.out.trans (b5.mono A2.out.size)).mono B2.out.size))
      clear b5 A2 I2
      go_wp2
      go_ret2
      exact ⟨by rw [HS.out]; rfl, B5.out⟩
    · have N1 := Lib.hid (fun v w hv => NU.out v [3] w hv (by simp))
      have l1 := numsF_length [3]
      have s1 : (⟨(numsF [3]).toArray⟩ : ByteArray).size = (numsF [3]).length := rfl
      have HE2 : E = numsF [3] := by
        rw [HE.out, show numF 3 = numsF [3] from by simp [numsF]]
        show numsF [3] ++ (numsF [] ++ []) = _
        simp [numsF]
      have HS : Hid (strV E = .string ((⟨(numsF [3]).toArray⟩ : ByteArray))) := Lib.hid (by rw [HE2]; rfl)
      clear HE HE2 NU
      unfold strV at N1
      generalize (⟨(numsF [3]).toArray⟩ : ByteArray) = q1 at N1 s1 HS
      generalize (numsF [3]).length = m1 at l1 s1
      simp only [List.length_cons, List.length_nil] at l1
      go_enter Try.func20, Try.ntmps20
      go_wp2_with fail
      refine (HM.out _).mono ?_
      rintro e w1 ⟨rfl, b1⟩
      rw [HB.out]
      have R1 := Lib.hid (HR.out.below b1)
      have B1 := Lib.hid (BX.out.trans (b1.mono BX.out.size))
      clear b1 HR BX HM
      have x0 : w1.cell? ⟨w.heap.size, 0, none⟩ = some (.int .i64 3) := R1.out.1 0 (by simp)
      have A1 := Lib.hid (show Below w1.heap.size w1 (w1.alloc (.cells #[.int .i64 3] 3)) from (Below.refl _ _).alloc (Nat.le_refl _) _)
      have I1 : Hid (Ints (w1.alloc (.cells #[.int .i64 3] 3)) (.slice (some ⟨w1.heap.size, 0, none⟩) 1 1) [3]) := Lib.hid (ints_new w1 [3])
      go_wp2_with fail
      refine (N1.out _ _ I1.out).mono ?_
      rintro e w2 ⟨rfl, b2⟩
      have b2' := A1.out.trans (b2.mono A1.out.size)
      have R2 := Lib.hid (R1.out.below b2')
      have B2 := Lib.hid (B1.out.trans (b2'.mono B1.out.size))
      clear b2 b2' R1 B1 x0 A1 I1
      have x0 : w2.cell? ⟨w.heap.size, 0, none⟩ = some (.int .i64 3) := R2.out.1 0 (by simp)
      go_wp2
      go_ret2
      exact ⟨by rw [HS.out]; rfl, B2.out⟩
    · have N1 := Lib.hid (fun v w hv => NU.out v [4] w hv (by simp))
      have l1 := numsF_length [4]
      have s1 : (⟨(numsF [4]).toArray⟩ : ByteArray).size = (numsF [4]).length := rfl
      have N2 := Lib.hid (fun v w hv => NU.out v [a5] w hv (by simp))
      have l2 := numsF_length [a5]
      have s2 : (⟨(numsF [a5]).toArray⟩ : ByteArray).size = (numsF [a5]).length := rfl
      have HE2 : E = numsF [4] ++ numsF [a5] := by
        rw [HE.out, show numF 4 = numsF [4] from by simp [numsF]]
        show numsF [4] ++ (numsF [a5] ++ []) = _
        simp [numsF]
      have HS : Hid (strV E = .string ((⟨(numsF [4]).toArray⟩ : ByteArray) ++ (⟨(numsF [a5]).toArray⟩ : ByteArray))) := Lib.hid (by rw [HE2, strV_append])
      clear HE HE2 NU
      unfold strV at N1 N2
      generalize (⟨(numsF [4]).toArray⟩ : ByteArray) = q1 at N1 s1 HS
      generalize (numsF [4]).length = m1 at l1 s1
      generalize (⟨(numsF [a5]).toArray⟩ : ByteArray) = q2 at N2 s2 HS
      generalize (numsF [a5]).length = m2 at l2 s2
      simp only [List.length_cons, List.length_nil] at l1 l2
      go_enter Try.func20, Try.ntmps20
      go_wp2_with fail
      refine (HM.out _).mono ?_
      rintro e w1 ⟨rfl, b1⟩
      rw [HB.out]
      have R1 := Lib.hid (HR.out.below b1)
      have B1 := Lib.hid (BX.out.trans (b1.mono BX.out.size))
      clear b1 HR BX HM
      have x0 : w1.cell? ⟨w.heap.size, 0, none⟩ = some (.int .i64 4) := R1.out.1 0 (by simp)
      have A1 := Lib.hid (show Below w1.heap.size w1 (w1.alloc (.cells #[.int .i64 4] 3)) from (Below.refl _ _).alloc (Nat.le_refl _) _)
      have I1 : Hid (Ints (w1.alloc (.cells #[.int .i64 4] 3)) (.slice (some ⟨w1.heap.size, 0, none⟩) 1 1) [4]) := Lib.hid (ints_new w1 [4])
      go_wp2_with fail
      refine (N1.out _ _ I1.out).mono ?_
      rintro e w2 ⟨rfl, b2⟩
      have b2' := A1.out.trans (b2.mono A1.out.size)
      have R2 := Lib.hid (R1.out.below b2')
      have B2 := Lib.hid (B1.out.trans (b2'.mono B1.out.size))
      clear b2 b2' R1 B1 x0 A1 I1
      have x0 : w2.cell? ⟨w.heap.size, 0, none⟩ = some (.int .i64 4) := R2.out.1 0 (by simp)
      have x5 : w2.cell? ⟨w.heap.size, 5, none⟩ = some (.int .i64 a5) := R2.out.1 5 (by simp)
      have A2 := Lib.hid (show Below w2.heap.size w2 (w2.alloc (.cells #[.int .i64 a5] 3)) from (Below.refl _ _).alloc (Nat.le_refl _) _)
      have I2 : Hid (Ints (w2.alloc (.cells #[.int .i64 a5] 3)) (.slice (some ⟨w2.heap.size, 0, none⟩) 1 1) [a5]) := Lib.hid (ints_new w2 [a5])
      go_wp2_with fail
      refine (N2.out _ _ I2.out).mono ?_
      rintro e w5 ⟨rfl, b5⟩
      have B5 := Lib.hid (B2.out.trans ((A2.out.trans (b5.mono A2.out.size)).mono B2.out.size))
      clear b5 A2 I2
      go_wp2
      go_ret2
      exact ⟨by rw [HS.out]; rfl, B5.out⟩
end Go.Proofs.Ythkbeigimdgamaa
