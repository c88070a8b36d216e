/- A number out of bytes by the document: bastionref1.GetNum. -/
import Derived.Test.YthkbeigimdgamaaE
namespace Go.Proofs.Ythkbeigimdgamaa
open Go Go.RowKit

theorem valN_first_go : ∀ (l : List UInt8) (x : Nat), x * 256 ^ l.length ≤ l.foldl (fun x b => x * 256 + b.toNat) x
  | [], x => by simp
  | b :: l, x => by
    simp only [List.foldl_cons, List.length_cons]
    refine Nat.le_trans ?_ (valN_first_go l (x * 256 + b.toNat))
    rw [Nat.pow_succ, Nat.mul_comm (256 ^ l.length) 256, ← Nat.mul_assoc]
    exact Nat.mul_le_mul_right _ (by omega)

/-- As many bytes as needed: none, or the first one is not 0. -/
theorem width_first (m : List UInt8) : widthN (valN m) = m.length ↔ ¬ (0 < m.length ∧ m[0]! = 0) := by
  cases m with
  | nil => simp [valN, widthN_zero]
  | cons b l =>
    have hv : valN (b :: l) = l.foldl (fun x b => x * 256 + b.toNat) b.toNat := by simp [valN]
    have h1 := valN_go l b.toNat
    have h2 := valN_first_go l b.toNat
    have hb : b.toNat < 256 := UInt8.toNat_lt _
    constructor
    · rintro h ⟨_, h0⟩
      have hb0 : b.toNat = 0 := by
        have : b = 0 := by simpa using h0
        rw [this]; rfl
      rw [hb0] at h1
      have := widthN_le l.length (valN (b :: l)) (by rw [hv, hb0]; simpa using h1)
      simp at h
      omega
    · intro h
      have hb1 : 1 ≤ b.toNat := by
        have : b ≠ 0 := by simpa using h
        have : b.toNat ≠ 0 := fun e => this (UInt8.toNat.inj e)
        omega
      have g1 := widthN_gt l.length (valN (b :: l)) (by rw [hv]; exact Nat.le_trans (Nat.le_mul_of_pos_left _ hb1) h2)
      have g2 := widthN_le (l.length + 1) (valN (b :: l)) (by
        rw [hv, Nat.pow_succ, Nat.mul_comm]
        exact Nat.lt_of_lt_of_le h1 (Nat.mul_le_mul_right _ (by omega)))
      simp
      omega

theorem byte_at (bs : ByteArray) (p k : Nat) (hk : p + 1 + k ≤ bs.size) (j : Nat) (hj : j < k) (hb : p + (j + 1) < bs.size) : bs[p + (j + 1)]'hb = ((bs.data.toList.drop (p + 1)).take k)[j]! := by
  have h1 : j < ((bs.data.toList.drop (p + 1)).take k).length := by
    have : bs.data.toList.length = bs.size := rfl
    rw [List.length_take, List.length_drop, this]; omega
  rw [getElem!_pos _ j h1, List.getElem_take, List.getElem_drop, Array.getElem_toList]
  show bs.data[p + (j + 1)]'_ = _
  congr 1
  omega

set_option maxRecDepth 100000 in
set_option maxHeartbeats 3200000 in
theorem refGetNum_pos (bs : ByteArray) (p : Nat) (hp : p < bs.size) (hs : bs.size < 4611686018427387904) (w : World) : Calls Try.prog 71 #[.string bs, .int .i64 p] w fun e w' => e = .returned (.tuple #[.int .i64 (getF bs.data.toList p).1, .int .i64 (getF bs.data.toList p).2.1, .int .i64 (getF bs.data.toList p).2.2]) ∧ w = w' := by
  go_enter Try.func71, Try.ntmps71
  have h1 : (p : Int) < bs.size := by omega
  have hb : bs[p].toNat < 256 := UInt8.toNat_lt _
  have hbw : wrap64 (bs[p].toNat : Int) = (bs[p].toNat : Int) := by unfold wrap64; omega
  have hkl : bs.data.toList[p]!.toNat = bs[p].toNat := by
    simp [hp]
    rfl
  obtain ⟨k, hk⟩ : ∃ k : Nat, k = bs[p].toNat := ⟨_, rfl⟩
  have hpl : p < bs.data.toList.length := hp
  have HPL := Lib.hid hpl
  have HP := Lib.hid (show bs.data.toList[p]!.toNat = k from by rw [hkl, hk])
  have HK := Lib.hid hk
  clear hkl hpl
  by_cases h4 : 4 < k
  · have HG := Lib.hid (getF_form HPL.out HP.out h4)
    rw [hk] at h4
    clear hk
    go_wp2
    go_ret3
    rw [HG.out]
    exact ⟨rfl, rfl⟩
  · by_cases h5 : bs.size < p + 1 + k
    · have HG := Lib.hid (getF_cut HPL.out HP.out h4 h5)
      rw [hk] at h4 h5
      clear hk
      go_wp2
      go_ret3
      rw [HG.out]
      exact ⟨rfl, rfl⟩
    · have H4 := Lib.hid h4
      have H5 := Lib.hid h5
      rw [hk] at h4 h5
      clear hk
      go_wp2_with fail
      rw [← HK.out] at h4 h5 hb hbw ⊢
      clear h4 h5
      have h4 := H4.out
      have h5 := H5.out
      obtain ⟨m, hm⟩ : ∃ m, m = (bs.data.toList.drop (p + 1)).take k := ⟨_, rfl⟩
      have hml : m.length = k := by rw [hm, List.length_take, List.length_drop]; have := HPL.out; simp; omega
      have hmb := Lib.hid (fun (j : Nat) (hj : j < k) (hb : p + (j + 1) < bs.size) => show bs[p + (j + 1)]'hb = m[j]! from by
        rw [hm]
        exact byte_at bs p k (by omega) j hj hb)
      have HM := Lib.hid hm
      have HML := Lib.hid hml
      clear hm hml
      have d1 : decide (bs.size < p) = false := by simp; omega
      have d2 : ((p : Int) == (bs.size : Int)) = false := by simp; omega
      simp only [d1, d2]
      clear d1 d2
      go_loopg [8, 9] (k + 1) (fun gg s8 s9 wr => ∃ (j : Nat), j ≤ k ∧ k - j < gg ∧ s9 = .int .i64 ((j + 1 : Nat) : Int) ∧ s8 = .int .i64 (valN (m.take j)) ∧ Aside (w = wr))
      case atStart => exact ⟨0, by omega, by omega, rfl, rfl, rfl⟩
      case round =>
        obtain ⟨j, hj, hjg, rfl, rfl, AW⟩ := hrel
        obtain rfl := AW.out
        by_cases hjk : j < k
        · have hx := valN_lt (m.take j)
          have hx2 : valN (m.take j) < 16777216 := by
            refine Nat.lt_of_lt_of_le hx ?_
            rw [List.length_take]
            exact Nat.pow_le_pow_right (n := 256) (by omega) (show _ ≤ 3 by omega)
          have e := Lib.hid (valN_take m j (by rw [HML.out]; exact hjk))
          have hpi : p + (j + 1) < bs.size := by omega
          rw [← hmb.out j hjk hpi] at e
          clear hx
          generalize valN (m.take j) = x at hx2 e
          have HJ := Lib.hid (show j < k ∧ k - j < gk from ⟨hjk, hjg⟩)
          obtain ⟨i, hi⟩ : ∃ i, i = j + 1 := ⟨_, rfl⟩
          have HI := Lib.hid hi
          have hpi2 : p + i < bs.size := by rw [hi]; exact hpi
          have E' : Hid (valN (m.take i) = x * 256 + (bs[p + i]'hpi2).toNat) := by subst hi; exact e
          rw [← hi]
          have hik : (i : Int) ≤ (k : Int) := by omega
          clear e hpi hj hjg hjk hi
          have hy : (bs[p + i]).toNat < 256 := UInt8.toNat_lt _
          have hyw : wrap64 ((bs[p + i]).toNat : Int) = ((bs[p + i]).toNat : Int) := by unfold wrap64; omega
          go_wp2
          go_roundg (k - j)
          case measure => exact HJ.out.2
          case rel => exact ⟨i, by omega, by have := HI.out; have := HJ.out; omega, by go_num, by rw [or_byte x _ hx2 hy, E'.out], rfl⟩
        · have hjk2 : j = k := by omega
          subst hjk2
          have hx := valN_lt (m.take j)
          have hmt := Lib.hid (show m.take j = m from by rw [List.take_of_length_le]; rw [HML.out]; omega)
          rw [hmt.out] at hx ⊢
          rw [HML.out] at hx
          have hx2 : valN m < 4294967296 := Nat.lt_of_lt_of_le hx (Nat.pow_le_pow_right (n := 256) (by omega) (show _ ≤ 4 by omega))
          have HV := Lib.hid (show valN m = valN ((bs.data.toList.drop (p + 1)).take j) from by rw [HM.out])
          have hwf := width_first m
          rw [HML.out] at hwf
          have HF := Lib.hid hwf
          clear hx hj hwf
          generalize valN m = x at hx2 HV HF ⊢
          have hjn : ¬ ((j + 1 : Nat) : Int) ≤ (j : Int) := by omega
          by_cases hb : widthN x ≠ j ∨ 1073741823 < x
          · have HG := Lib.hid (getF_bad HPL.out HP.out h4 h5 HV.out hb)
            by_cases hj0 : 0 < j
            · have hj1 : (0 : Int) < (j : Int) := by omega
              have hp1 : p + 1 < bs.size := by omega
              have hm0 := hmb.out 0 hj0 hp1
              have hb2 : ((bs[p + 1].toNat : Int) == 0) = true ∨ ((bs[p + 1].toNat : Int) == 0) = false ∧ (1073741823 : Int) < x := by
                by_cases e : bs[p + 1] = 0
                · exact .inl (by simp [e])
                · refine .inr ⟨?_, ?_⟩
                  · have : bs[p + 1].toNat ≠ 0 := fun h => e (UInt8.toNat.inj h)
                    simp; omega
                  · have := HF.out.2 (fun h => e (by rw [show bs[p + 1] = m[0]! from hm0]; exact h.2))
                    omega
              clear hb hm0 hj0
              rcases hb2 with g1 | ⟨g1, g2⟩
              all_goals
                go_wp2
                go_ret3
                rw [HG.out]
                exact ⟨rfl, rfl⟩
            · have hj1 : ¬ (0 : Int) < (j : Int) := by omega
              have g2 : (1073741823 : Int) < x := by
                have := HF.out.2 (fun h => hj0 h.1)
                omega
              clear hb hj0
              go_wp2
              go_ret3
              rw [HG.out]
              exact ⟨rfl, rfl⟩
          · have HG := Lib.hid ((getF_ok HPL.out HP.out h4 h5 HV.out hb).trans (show _ = ((x : Int), (p : Int) + (j : Int) + 1, (0 : Int)) from by rw [show (p : Int) + 1 + (j : Int) = (p : Int) + (j : Int) + 1 from by omega]))
            have g2 : ¬ (1073741823 : Int) < x := by omega
            have hwj : widthN x = j := by omega
            by_cases hj0 : 0 < j
            · have hj1 : (0 : Int) < (j : Int) := by omega
              have hp1 : p + 1 < bs.size := by omega
              have hm0 := hmb.out 0 hj0 hp1
              have g1 : ((bs[p + 1].toNat : Int) == 0) = false := by
                have : bs[p + 1] ≠ 0 := fun e => HF.out.1 hwj ⟨hj0, by rw [← hm0]; exact e⟩
                have : bs[p + 1].toNat ≠ 0 := fun h => this (UInt8.toNat.inj h)
                simp; omega
              clear hb hm0 hj0 hwj
              go_wp2
              go_ret3
              rw [HG.out]
              exact ⟨rfl, rfl⟩
            · have hj1 : ¬ (0 : Int) < (j : Int) := by omega
              clear hb hj0 hwj
              go_wp2
              go_ret3
              rw [HG.out]
              exact ⟨rfl, rfl⟩

/-- What reading by the document gives. -/
def ReadR (e : Ending) (r : Int × Int × Int) : Prop := e = .returned (.tuple #[.int .i64 r.1, .int .i64 r.2.1, .int .i64 r.2.2])

set_option maxRecDepth 100000 in
theorem refGetNum_any (l : List UInt8) (a : Int) (hs : l.length < 4611686018427387904) (w : World) : Calls Try.prog 71 #[strV l, .int .i64 a] w fun e w' => ReadR e (getF l a) ∧ w = w' := by
  have hsz : (⟨l.toArray⟩ : ByteArray).size = l.length := rfl
  by_cases h0 : a < 0
  · have HG := Lib.hid (show getF l a = (0, 0, 100) from by unfold getF; rw [if_pos (.inl h0)])
    unfold strV
    go_enter Try.func71, Try.ntmps71
    go_wp2
    go_ret3
    unfold ReadR
    rw [HG.out]
    exact ⟨rfl, rfl⟩
  · by_cases h1 : (l.length : Int) < a
    · have HG := Lib.hid (show getF l a = (0, 0, 100) from by unfold getF; rw [if_pos (.inr h1)])
      unfold strV
      go_enter Try.func71, Try.ntmps71
      go_wp2
      go_ret3
      unfold ReadR
      rw [HG.out]
      exact ⟨rfl, rfl⟩
    · by_cases h2 : a = l.length
      · subst h2
        have HG := Lib.hid (show getF l l.length = (0, 0, 101) from by unfold getF; rw [if_neg (by omega), if_pos rfl])
        unfold strV
        go_enter Try.func71, Try.ntmps71
        go_wp2
        go_ret3
        unfold ReadR
        rw [HG.out]
        exact ⟨rfl, rfl⟩
      · obtain ⟨p, rfl⟩ : ∃ p : Nat, a = p := ⟨a.toNat, by omega⟩
        exact refGetNum_pos ⟨l.toArray⟩ p (by rw [hsz]; omega) (by rw [hsz]; omega) w
end Go.Proofs.Ythkbeigimdgamaa
