/- packet.Put -/
import Derived.Test.YthkbeigimdgamaaPacketC
namespace Go.Proofs.Ythkbeigimdgamaa
open Go Go.RowKit

set_option maxRecDepth 100000 in
set_option maxHeartbeats 6400000 in
theorem packetPut_any (k a1 a2 a3 a4 a5 a6 a7 : Int) (d : List UInt8) (w : World) : Calls Try.prog 34 #[recV [k, a1, a2, a3, a4, a5, a6, a7] [strV d]] w fun e w' => e = .returned (.tuple #[strV (packetS.put [k, a1, a2, a3, a4, a5, a6, a7] d), .int .i64 (formE (packetS.may [k, a1, a2, a3, a4, a5, a6, a7] d) 400)]) ∧ Below w.heap.size w w' := by
  have hM := fun w => packetMay_any k a1 a2 a3 a4 a5 a6 a7 d w
  have hR := rec_new w [k, a1, a2, a3, a4, a5, a6, a7] [strV d] 56
  have hDL := packetS.text [k, a1, a2, a3, a4, a5, a6, a7] d
  have HDL := Lib.hid (fun h => hDL (Sp.may_parts h).1)
  clear hDL
  have HFT := Lib.hid (fieldText_any d)
  rw [show recV [k, a1, a2, a3, a4, a5, a6, a7] [strV d] = .agg #[.int .i64 k, .int .i64 a1, .int .i64 a2, .int .i64 a3, .int .i64 a4, .int .i64 a5, .int .i64 a6, .int .i64 a7, .string ⟨d.toArray⟩] from rfl] at hM ⊢
  rw [show strV d = .string ⟨d.toArray⟩ from rfl] at hR HFT
  generalize (⟨d.toArray⟩ : ByteArray) = bs at hR hM HFT ⊢
  replace hR : Rec (w.alloc (.cells #[.int .i64 k, .int .i64 a1, .int .i64 a2, .int .i64 a3, .int .i64 a4, .int .i64 a5, .int .i64 a6, .int .i64 a7, .string bs] 56)) w.heap.size [k, a1, a2, a3, a4, a5, a6, a7] [.string bs] := hR
  have HR := Lib.hid hR
  have HM := Lib.hid hM
  have BX := Lib.hid (show Below w.heap.size w (w.alloc (.cells #[.int .i64 k, .int .i64 a1, .int .i64 a2, .int .i64 a3, .int .i64 a4, .int .i64 a5, .int .i64 a6, .int .i64 a7, .string bs] 56)) from (Below.refl _ _).alloc (Nat.le_refl _) _)
  clear hM hR
  unfold Sp.put
  have HE := Lib.hid (show packetS.enc [k, a1, a2, a3, a4, a5, a6, a7] d = numF k ++ (numsF ((packetIdx k).map fun i => [k, a1, a2, a3, a4, a5, a6, a7][i]!) ++ (if packetS.txt k = true then putText d else [])) from rfl)
  cases hm : packetS.may [k, a1, a2, a3, a4, a5, a6, a7] d
  · have HB := Lib.hid hm
    clear hm HE
    go_enter Try.func34, Try.ntmps34
    go_wp2_with fail
    refine (HM.out _).mono ?_
    rintro e w1 ⟨rfl, b1⟩
    rw [HB.out]
    go_wp2
    go_ret2
    exact ⟨rfl, BX.out.trans (b1.mono BX.out.size)⟩
  · have HB := Lib.hid hm
    rw [if_pos rfl]
    clear hm
    generalize packetS.enc [k, a1, a2, a3, a4, a5, a6, a7] d = E at HE ⊢
    have hdl := HDL.out HB.out
    have HDL2 := Lib.hid hdl
    clear hdl HDL
    go_enter Try.func34, Try.ntmps34
    go_wp2_with fail
    refine (HM.out _).mono ?_
    rintro e w1 ⟨rfl, b1⟩
    rw [HB.out]
    have R1 := Lib.hid (HR.out.below b1)
    have B1 := Lib.hid (BX.out.trans (b1.mono BX.out.size))
    clear b1 HR BX HM
    have x0 : w1.cell? ⟨w.heap.size, 0, none⟩ = some (.int .i64 k) := R1.out.1 0 (by simp)
    go_wp2_with fail
    refine (fieldNum_any k _).mono ?_
    rintro e w2 ⟨rfl, b2⟩
    have R2 := Lib.hid (R1.out.below b2)
    have B2 := Lib.hid (B1.out.trans (b2.mono B1.out.size))
    clear b2 R1 B1 x0
    go_wp2_with fail
    refine (packetParts_any _ k _ (R2.out.1 0 (by simp))).mono ?_
    rintro e w4 ⟨v, rfl, P, b4⟩
    obtain ⟨ao, cap, rfl, q⟩ := P
    have R4 := Lib.hid (R2.out.below b4)
    have B4 := Lib.hid (B2.out.trans (b4.mono B2.out.size))
    have Q := Lib.hid (fun j hj => show ∃ g, ao = some ⟨g, 0, none⟩ ∧ w4.cell? ⟨g, j, none⟩ = _ from (q j hj).imp fun g h => ⟨h.1, h.2.2⟩)
    clear q b4 R2 B2
    go_wp2_with fail
    have HI := Lib.hid (packetIdx_lt k)
    have hn := packetIdx_length k
    have hk5 := numF_length k
    generalize packetIdx k = is at HI hn Q HE ⊢
    have HZ := Lib.hid (map_at [k, a1, a2, a3, a4, a5, a6, a7] is)
    obtain ⟨zs, hzs⟩ : ∃ zs, zs = is.map fun i => [k, a1, a2, a3, a4, a5, a6, a7][i]! := ⟨_, rfl⟩
    have hzl : zs.length = is.length := by rw [hzs, List.length_map]
    rw [← hzs] at HZ
    have FN := Lib.hid fieldNum_any
    obtain ⟨n, hnn⟩ : ∃ n, n = is.length := ⟨_, rfl⟩
    have HN := Lib.hid hnn
    have HZL := Lib.hid (hzl.trans hnn.symm)
    rw [← hnn] at hn ⊢
    rw [← hzs] at HE
    clear hnn hzl hzs
    generalize numF k = pk at hk5 HE ⊢
    have ea0 : strV (pk ++ numsF (zs.take 0)) = strV pk := by simp [numsF]
    rw [← ea0]
    clear ea0
    go_loopg [4, 23] (n + 1) (fun gg s4 s23 wr => ∃ (j : Nat), j ≤ n ∧ n - j < gg ∧ s23 = .int .i64 j ∧ s4 = strV (pk ++ numsF (zs.take j)) ∧ Aside (Below w4.heap.size w4 wr))
    case atStart => exact ⟨0, by omega, by omega, rfl, rfl, Below.refl _ _⟩
    case round =>
      obtain ⟨j, hj, hjg, rfl, rfl, AB⟩ := hrel
      have hl := numsF_length (zs.take j)
      have hl2 : (pk ++ numsF (zs.take j)).length ≤ 25 := by rw [List.length_append]; rw [List.length_take] at hl; omega
      clear hl
      by_cases h : j < n
      · have hji : (j : Int) < n := by omega
        obtain ⟨g, rfl, p1⟩ := Q.out j (by rw [← HN.out]; exact h)
        have hi6 := HI.out j (by rw [← HN.out]; exact h)
        have y1 := keep_cell p1 AB.out
        have y2 := keep_cell (R4.out.1 is[j]! hi6) AB.out
        have e := Lib.hid (numsF_take zs j (by rw [HZL.out]; exact h))
        have ez := Lib.hid (HZ.out j (by rw [← HN.out]; exact h))
        rw [← ez.out] at y2
        have hm2 := numF_length zs[j]!
        have ea := Lib.hid (strV_append (pk ++ numsF (zs.take j)) (numF zs[j]!))
        rw [List.append_assoc, ← e.out] at ea
        have hs1 : (⟨(pk ++ numsF (zs.take j)).toArray⟩ : ByteArray).size = (pk ++ numsF (zs.take j)).length := rfl
        have hs2 : (⟨(numF zs[j]!).toArray⟩ : ByteArray).size = (numF zs[j]!).length := rfl
        have hcall := FN.out zs[j]!
        rw [show strV (pk ++ numsF (zs.take j)) = .string ⟨(pk ++ numsF (zs.take j)).toArray⟩ from rfl]
        rw [show strV (numF zs[j]!) = .string ⟨(numF zs[j]!).toArray⟩ from rfl] at hcall
        have HCALL := Lib.hid hcall
        clear hcall e ez p1 hi6
        generalize (⟨(pk ++ numsF (zs.take j)).toArray⟩ : ByteArray) = q1 at ea hs1 ⊢
        generalize (⟨(numF zs[j]!).toArray⟩ : ByteArray) = q2 at ea hs2 HCALL
        generalize (pk ++ numsF (zs.take j)).length = n1 at hl2 hs1
        generalize (numF zs[j]!).length = n2 at hm2 hs2
        generalize is[j]! = i at y1 y2
        generalize zs[j]! = z at y2 HCALL
        go_wp2_with (first | (go_at_call 48; refine (HCALL.out _).mono ?_; rintro e w1 ⟨rfl, hb⟩))
        go_roundg (n - j)
        case measure => omega
        case rel => exact ⟨j + 1, by omega, by omega, by go_num, ea.out.symm, AB.out.trans (hb.mono AB.out.size)⟩
      · have hji : ¬ (j : Int) < n := by omega
        have hjn : j = n := by omega
        subst hjn
        rw [show zs.take j = zs from by rw [List.take_of_length_le]; rw [HZL.out]; omega] at hl2 ⊢
        have x0 := keep_cell (R4.out.1 0 (by simp)) AB.out
        have x8 := keep_cell (R4.out.2 0 (by simp)) AB.out
        replace x0 : wr.cell? ⟨w.heap.size, 0, none⟩ = some (.int .i64 k) := x0
        replace x8 : wr.cell? ⟨w.heap.size, 8, none⟩ = some (.string bs) := x8
        by_cases hk : k = 3
        · have e0 := beq_of k 3 hk
          have HT : packetS.txt k = true := decide_eq_true hk
          have HT' := Lib.hid HT
          have hdl := HDL2.out HT
          have HPT := Lib.hid (putText_length d hdl)
          have ea : Hid (strV E = .string (⟨(pk ++ numsF zs).toArray⟩ ++ ⟨(putText d).toArray⟩)) := Lib.hid (by rw [← strV_append, HE.out, if_pos HT, List.append_assoc])
          clear hk HT HE
          have hft := HFT.out (by omega)
          simp only [show ¬ (65536 < d.length) from by omega, if_false] at hft
          have hs1 : (⟨(pk ++ numsF zs).toArray⟩ : ByteArray).size = (pk ++ numsF zs).length := rfl
          have hs2 : (⟨(putText d).toArray⟩ : ByteArray).size = (putText d).length := rfl
          have hp2 := HPT.out
          rw [show strV (pk ++ numsF zs) = .string ⟨(pk ++ numsF zs).toArray⟩ from rfl]
          rw [show strV (putText d) = .string ⟨(putText d).toArray⟩ from rfl] at hft
          have HFT2 := Lib.hid hft
          clear hft hdl
          generalize (⟨(pk ++ numsF zs).toArray⟩ : ByteArray) = q1 at hs1 ea ⊢
          generalize (⟨(putText d).toArray⟩ : ByteArray) = q2 at hs2 HFT2 ea
          generalize (pk ++ numsF zs).length = n1 at hl2 hs1
          generalize (putText d).length = n2 at hp2 hs2
          go_wp2_with (first | (go_at_call 61; refine (HFT2.out _).mono ?_; rintro e w1 ⟨rfl, hb⟩))
          go_ret2
          exact ⟨by rw [ea.out]; rfl, B4.out.trans ((AB.out.trans (hb.mono AB.out.size)).mono B4.out.size)⟩
        · have e0 := bne_of k 3 hk
          have HT : packetS.txt k = false := decide_eq_false hk
          replace HE : Hid (E = pk ++ numsF zs) := Lib.hid (HE.out.trans (by rw [HT, if_neg (by decide), List.append_nil]))
          clear hk HT
          go_wp2
          go_ret2
          exact ⟨by rw [HE.out]; rfl, B4.out.trans (AB.out.mono B4.out.size)⟩
end Go.Proofs.Ythkbeigimdgamaa
