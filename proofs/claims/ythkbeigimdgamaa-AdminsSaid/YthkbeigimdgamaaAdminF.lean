/- bastionref1.AdminMay -/
import Derived.Test.YthkbeigimdgamaaAdminE
namespace Go.Proofs.Ythkbeigimdgamaa
open Go Go.RowKit

theorem adminMay_kind (k a1 a2 a3 a4 a5 : Int)  (h : adminS.may [k, a1, a2, a3, a4, a5] [] = true) : (k = 0 ∨ k = 1 ∨ k = 2 ∨ k = 3 ∨ k = 4) ∧ ((k = 0 ∧ a4 ≤ 1048576 ∧ a1 < 8) ∨ (k = 1 ∧ a1 < 8) ∨ (k = 2 ∧ a1 < 8) ∨ (k = 3) ∨ (k = 4)) ∧ (0 : Int) = 0 := by
  have h1 : ((k = 0 ∧ a4 ≤ 1048576 ∧ a1 < 8) ∨ (k = 1 ∧ a1 < 8) ∨ (k = 2 ∧ a1 < 8) ∨ (k = 3) ∨ (k = 4)) ∧ (0 : Int) = 0 := of_decide_eq_true (Sp.may_parts h).1
  refine ⟨?_, h1⟩
  omega
theorem adminMay_k0 (a1 a2 a3 a4 a5 : Int)  (h : adminS.may [0, a1, a2, a3, a4, a5] [] = true) : numMayB a1 = true ∧ numMayB a2 = true ∧ numMayB a3 = true ∧ numMayB a4 = true ∧ a5 = 0 := by
  obtain ⟨h1, h2, h3, h4⟩ := Sp.may_parts h
  replace h3 : [0, a1, a2, a3, a4, a5] = [0, a1, a2, a3, a4, 0] := h3
  exact ⟨h2 1 (show 1 ∈ [1, 2, 3, 4] from by decide), h2 2 (show 2 ∈ [1, 2, 3, 4] from by decide), h2 3 (show 3 ∈ [1, 2, 3, 4] from by decide), h2 4 (show 4 ∈ [1, 2, 3, 4] from by decide), congrArg (fun l => l[5]!) h3⟩
theorem adminMay_k1 (a1 a2 a3 a4 a5 : Int)  (h : adminS.may [1, a1, a2, a3, a4, a5] [] = true) : numMayB a1 = true ∧ a2 = 0 ∧ a3 = 0 ∧ a4 = 0 ∧ a5 = 0 := by
  obtain ⟨h1, h2, h3, h4⟩ := Sp.may_parts h
  replace h3 : [1, a1, a2, a3, a4, a5] = [1, a1, 0, 0, 0, 0] := h3
  exact ⟨h2 1 (show 1 ∈ [1] from by decide), congrArg (fun l => l[2]!) h3, congrArg (fun l => l[3]!) h3, congrArg (fun l => l[4]!) h3, congrArg (fun l => l[5]!) h3⟩
theorem adminMay_k2 (a1 a2 a3 a4 a5 : Int)  (h : adminS.may [2, a1, a2, a3, a4, a5] [] = true) : numMayB a1 = true ∧ a2 = 0 ∧ a3 = 0 ∧ a4 = 0 ∧ a5 = 0 := by
  obtain ⟨h1, h2, h3, h4⟩ := Sp.may_parts h
  replace h3 : [2, a1, a2, a3, a4, a5] = [2, a1, 0, 0, 0, 0] := h3
  exact ⟨h2 1 (show 1 ∈ [1] from by decide), congrArg (fun l => l[2]!) h3, congrArg (fun l => l[3]!) h3, congrArg (fun l => l[4]!) h3, congrArg (fun l => l[5]!) h3⟩
theorem adminMay_k3 (a1 a2 a3 a4 a5 : Int)  (h : adminS.may [3, a1, a2, a3, a4, a5] [] = true) : a1 = 0 ∧ a2 = 0 ∧ a3 = 0 ∧ a4 = 0 ∧ a5 = 0 := by
  obtain ⟨h1, h2, h3, h4⟩ := Sp.may_parts h
  replace h3 : [3, a1, a2, a3, a4, a5] = [3, 0, 0, 0, 0, 0] := h3
  exact ⟨congrArg (fun l => l[1]!) h3, congrArg (fun l => l[2]!) h3, congrArg (fun l => l[3]!) h3, congrArg (fun l => l[4]!) h3, congrArg (fun l => l[5]!) h3⟩
theorem adminMay_k4 (a1 a2 a3 a4 a5 : Int)  (h : adminS.may [4, a1, a2, a3, a4, a5] [] = true) : numMayB a5 = true ∧ a1 = 0 ∧ a2 = 0 ∧ a3 = 0 ∧ a4 = 0 := by
  obtain ⟨h1, h2, h3, h4⟩ := Sp.may_parts h
  replace h3 : [4, a1, a2, a3, a4, a5] = [4, 0, 0, 0, 0, a5] := h3
  exact ⟨h2 5 (show 5 ∈ [5] from by decide), congrArg (fun l => l[1]!) h3, congrArg (fun l => l[2]!) h3, congrArg (fun l => l[3]!) h3, congrArg (fun l => l[4]!) h3⟩
theorem adminMay_all (k a1 a2 a3 a4 a5 : Int)  (h : adminS.may [k, a1, a2, a3, a4, a5] [] = true) : 0 ≤ a1 ∧ a1 < 8 ∧ (0 ≤ a2 ∧ a2 ≤ 1073741823) ∧ (0 ≤ a3 ∧ a3 ≤ 1073741823) ∧ 0 ≤ a4 ∧ a4 ≤ 1048576 ∧ (0 ≤ a5 ∧ a5 ≤ 1073741823) := by
  obtain ⟨hk, h1⟩ := adminMay_kind k a1 a2 a3 a4 a5 h
  rcases hk with rfl | rfl | rfl | rfl | rfl
  · obtain ⟨q1, q2, q3, q4, z5⟩ := adminMay_k0 a1 a2 a3 a4 a5 h
    rw [numMay_iff] at q1 q2 q3 q4
    omega
  · obtain ⟨q1, z2, z3, z4, z5⟩ := adminMay_k1 a1 a2 a3 a4 a5 h
    rw [numMay_iff] at q1
    omega
  · obtain ⟨q1, z2, z3, z4, z5⟩ := adminMay_k2 a1 a2 a3 a4 a5 h
    rw [numMay_iff] at q1
    omega
  · obtain ⟨z1, z2, z3, z4, z5⟩ := adminMay_k3 a1 a2 a3 a4 a5 h
    omega
  · obtain ⟨q5, z1, z2, z3, z4⟩ := adminMay_k4 a1 a2 a3 a4 a5 h
    rw [numMay_iff] at q5
    omega
theorem adminMay_is0 (a1 a2 a3 a4 a5 : Int)  (hl : adminS.lim [0, a1, a2, a3, a4, a5] [] = true) (q1 : numMayB a1 = true) (q2 : numMayB a2 = true) (q3 : numMayB a3 = true) (q4 : numMayB a4 = true) : adminS.may [0, a1, a2, a3, a4, a5] [] = (decide ([0, a1, a2, a3, a4, a5] = [0, a1, a2, a3, a4, 0])) := by
  rw [Sp.may_lim, hl, Bool.true_and]
  show ((numMayB a1 && (numMayB a2 && (numMayB a3 && (numMayB a4 && true)))) && (decide ([0, a1, a2, a3, a4, a5] = [0, a1, a2, a3, a4, 0]) && true)) = _
  simp only [q1, q2, q3, q4, Bool.and_true, Bool.true_and]
theorem adminMay_is1 (a1 a2 a3 a4 a5 : Int)  (hl : adminS.lim [1, a1, a2, a3, a4, a5] [] = true) (q1 : numMayB a1 = true) : adminS.may [1, a1, a2, a3, a4, a5] [] = (decide ([1, a1, a2, a3, a4, a5] = [1, a1, 0, 0, 0, 0])) := by
  rw [Sp.may_lim, hl, Bool.true_and]
  show ((numMayB a1 && true) && (decide ([1, a1, a2, a3, a4, a5] = [1, a1, 0, 0, 0, 0]) && true)) = _
  simp only [q1, Bool.and_true, Bool.true_and]
theorem adminMay_is2 (a1 a2 a3 a4 a5 : Int)  (hl : adminS.lim [2, a1, a2, a3, a4, a5] [] = true) (q1 : numMayB a1 = true) : adminS.may [2, a1, a2, a3, a4, a5] [] = (decide ([2, a1, a2, a3, a4, a5] = [2, a1, 0, 0, 0, 0])) := by
  rw [Sp.may_lim, hl, Bool.true_and]
  show ((numMayB a1 && true) && (decide ([2, a1, a2, a3, a4, a5] = [2, a1, 0, 0, 0, 0]) && true)) = _
  simp only [q1, Bool.and_true, Bool.true_and]
theorem adminMay_is3 (a1 a2 a3 a4 a5 : Int)  (hl : adminS.lim [3, a1, a2, a3, a4, a5] [] = true)  : adminS.may [3, a1, a2, a3, a4, a5] [] = (decide ([3, a1, a2, a3, a4, a5] = [3, 0, 0, 0, 0, 0])) := by
  rw [Sp.may_lim, hl, Bool.true_and]
  show (true && (decide ([3, a1, a2, a3, a4, a5] = [3, 0, 0, 0, 0, 0]) && true)) = _
  simp only [Bool.and_true, Bool.true_and]
theorem adminMay_is4 (a1 a2 a3 a4 a5 : Int)  (hl : adminS.lim [4, a1, a2, a3, a4, a5] [] = true) (q5 : numMayB a5 = true) : adminS.may [4, a1, a2, a3, a4, a5] [] = (decide ([4, a1, a2, a3, a4, a5] = [4, 0, 0, 0, 0, a5])) := by
  rw [Sp.may_lim, hl, Bool.true_and]
  show ((numMayB a5 && true) && (decide ([4, a1, a2, a3, a4, a5] = [4, 0, 0, 0, 0, a5]) && true)) = _
  simp only [q5, Bool.and_true, Bool.true_and]

set_option maxRecDepth 100000 in
set_option maxHeartbeats 12800000 in
theorem refAdminMay_any (k a1 a2 a3 a4 a5 : Int)  (w : World) : Calls Try.prog 25 #[recV [k, a1, a2, a3, a4, a5] []] w fun e w' => e = .returned (.bool (adminS.may [k, a1, a2, a3, a4, a5] [])) ∧ Below w.heap.size w w' := by
  have HALL := Lib.hid (adminMay_all k a1 a2 a3 a4 a5)
  have HKIND := Lib.hid (adminMay_kind k a1 a2 a3 a4 a5)
  have NM := Lib.hid refNumMay_any
  have HK0 := Lib.hid (adminMay_is0 a1 a2 a3 a4 a5)
  have HK1 := Lib.hid (adminMay_is1 a1 a2 a3 a4 a5)
  have HK2 := Lib.hid (adminMay_is2 a1 a2 a3 a4 a5)
  have HK3 := Lib.hid (adminMay_is3 a1 a2 a3 a4 a5)
  have HK4 := Lib.hid (adminMay_is4 a1 a2 a3 a4 a5)
  have BX := Lib.hid (fun (v : Array Value) => show Below w.heap.size w (w.alloc (.cells v 23)) from (Below.refl _ _).alloc (Nat.le_refl _) _)
  have BY := Lib.hid (fun (v u : Array Value) => show Below w.heap.size w ((w.alloc (.cells v 23)).alloc (.cells u 23)) from ((Below.refl _ _).alloc (Nat.le_refl _) _).alloc (by simp) _)
  rw [show recV [k, a1, a2, a3, a4, a5] [] = .agg #[.int .i64 k, .int .i64 a1, .int .i64 a2, .int .i64 a3, .int .i64 a4, .int .i64 a5] from rfl]
  have HL0 : Hid (((k = 0 ∧ a4 ≤ 1048576 ∧ a1 < 8) ∨ (k = 1 ∧ a1 < 8) ∨ (k = 2 ∧ a1 < 8) ∨ (k = 3) ∨ (k = 4)) ∧ (0 : Int) = 0 → k = 0 → adminS.lim [0, a1, a2, a3, a4, a5] [] = true) := Lib.hid (fun h e => by subst e; exact decide_eq_true h)
  have HL1 : Hid (((k = 0 ∧ a4 ≤ 1048576 ∧ a1 < 8) ∨ (k = 1 ∧ a1 < 8) ∨ (k = 2 ∧ a1 < 8) ∨ (k = 3) ∨ (k = 4)) ∧ (0 : Int) = 0 → k = 1 → adminS.lim [1, a1, a2, a3, a4, a5] [] = true) := Lib.hid (fun h e => by subst e; exact decide_eq_true h)
  have HL2 : Hid (((k = 0 ∧ a4 ≤ 1048576 ∧ a1 < 8) ∨ (k = 1 ∧ a1 < 8) ∨ (k = 2 ∧ a1 < 8) ∨ (k = 3) ∨ (k = 4)) ∧ (0 : Int) = 0 → k = 2 → adminS.lim [2, a1, a2, a3, a4, a5] [] = true) := Lib.hid (fun h e => by subst e; exact decide_eq_true h)
  have HL3 : Hid (((k = 0 ∧ a4 ≤ 1048576 ∧ a1 < 8) ∨ (k = 1 ∧ a1 < 8) ∨ (k = 2 ∧ a1 < 8) ∨ (k = 3) ∨ (k = 4)) ∧ (0 : Int) = 0 → k = 3 → adminS.lim [3, a1, a2, a3, a4, a5] [] = true) := Lib.hid (fun h e => by subst e; exact decide_eq_true h)
  have HL4 : Hid (((k = 0 ∧ a4 ≤ 1048576 ∧ a1 < 8) ∨ (k = 1 ∧ a1 < 8) ∨ (k = 2 ∧ a1 < 8) ∨ (k = 3) ∨ (k = 4)) ∧ (0 : Int) = 0 → k = 4 → adminS.lim [4, a1, a2, a3, a4, a5] [] = true) := Lib.hid (fun h e => by subst e; exact decide_eq_true h)
  have hc : (0 ≤ a1 ∧ a1 < 8 ∧ (0 ≤ a2 ∧ a2 ≤ 1073741823) ∧ (0 ≤ a3 ∧ a3 ≤ 1073741823) ∧ 0 ≤ a4 ∧ a4 ≤ 1048576 ∧ (0 ≤ a5 ∧ a5 ≤ 1073741823)) ∨ (¬ 0 ≤ a1) ∨ (0 ≤ a1 ∧ ¬ a1 < 8) ∨ (0 ≤ a1 ∧ a1 < 8 ∧ ¬ (0 ≤ a2 ∧ a2 ≤ 1073741823)) ∨ (0 ≤ a1 ∧ a1 < 8 ∧ (0 ≤ a2 ∧ a2 ≤ 1073741823) ∧ ¬ (0 ≤ a3 ∧ a3 ≤ 1073741823)) ∨ (0 ≤ a1 ∧ a1 < 8 ∧ (0 ≤ a2 ∧ a2 ≤ 1073741823) ∧ (0 ≤ a3 ∧ a3 ≤ 1073741823) ∧ ¬ 0 ≤ a4) ∨ (0 ≤ a1 ∧ a1 < 8 ∧ (0 ≤ a2 ∧ a2 ≤ 1073741823) ∧ (0 ≤ a3 ∧ a3 ≤ 1073741823) ∧ 0 ≤ a4 ∧ ¬ a4 ≤ 1048576) ∨ (0 ≤ a1 ∧ a1 < 8 ∧ (0 ≤ a2 ∧ a2 ≤ 1073741823) ∧ (0 ≤ a3 ∧ a3 ≤ 1073741823) ∧ 0 ≤ a4 ∧ a4 ≤ 1048576 ∧ ¬ (0 ≤ a5 ∧ a5 ≤ 1073741823)) := by omega
  rcases hc with ⟨h0, h1, h2, h3, h4, h5, h6⟩ | h0 | ⟨h0, h1⟩ | ⟨h0, h1, h2⟩ | ⟨h0, h1, h2, h3⟩ | ⟨h0, h1, h2, h3, h4⟩ | ⟨h0, h1, h2, h3, h4, h5⟩ | ⟨h0, h1, h2, h3, h4, h5, h6⟩
  · have hk : k = 0 ∨ k = 1 ∨ k = 2 ∨ k = 3 ∨ k = 4 ∨ (k ≠ 0 ∧ k ≠ 1 ∧ k ≠ 2 ∧ k ≠ 3 ∧ k ≠ 4) := by omega
    rcases hk with rfl | rfl | rfl | rfl | rfl | ⟨g0, g1, g2, g3, g4⟩
    · have HR := Lib.hid (HK0.out (HL0.out (by omega) rfl) ((numMay_iff a1).2 (by omega)) ((numMay_iff a2).2 (by omega)) ((numMay_iff a3).2 (by omega)) ((numMay_iff a4).2 (by omega)))
      have q2 := (numMay_iff a2).2 h2; clear h2
      have q3 := (numMay_iff a3).2 h3; clear h3
      have q5 := (numMay_iff a5).2 h6; clear h6
      clear HALL HKIND HK0 HL0 HK1 HL1 HK2 HL2 HK3 HL3 HK4 HL4
      have hq := run_eqlAdmin 0 a1 a2 a3 a4 a5 0 a1 a2 a3 a4 0
      have hg := guard23
      generalize adminS.may [0, a1, a2, a3, a4, a5] [] = M at HR ⊢
      generalize decide ([0, a1, a2, a3, a4, a5] = [0, a1, a2, a3, a4, 0]) = bb at hq HR
      go_enter Try.func25, Try.ntmps25
      go_wp2_with (go_at_call 56; refine (NM.out _ _).mono ?_; rintro e w' ⟨rfl, rfl⟩; first | rw [q2] | rw [q3] | rw [q5])
      go_ret
      exact ⟨by rw [HR.out]; rfl, BY.out _ _⟩
    · have HR := Lib.hid (HK1.out (HL1.out (by omega) rfl) ((numMay_iff a1).2 (by omega)))
      have q2 := (numMay_iff a2).2 h2; clear h2
      have q3 := (numMay_iff a3).2 h3; clear h3
      have q5 := (numMay_iff a5).2 h6; clear h6
      clear HALL HKIND HK0 HL0 HK1 HL1 HK2 HL2 HK3 HL3 HK4 HL4
      have hq := run_eqlAdmin 1 a1 a2 a3 a4 a5 1 a1 0 0 0 0
      have hg := guard23
      generalize adminS.may [1, a1, a2, a3, a4, a5] [] = M at HR ⊢
      generalize decide ([1, a1, a2, a3, a4, a5] = [1, a1, 0, 0, 0, 0]) = bb at hq HR
      go_enter Try.func25, Try.ntmps25
      go_wp2_with (go_at_call 56; refine (NM.out _ _).mono ?_; rintro e w' ⟨rfl, rfl⟩; first | rw [q2] | rw [q3] | rw [q5])
      go_ret
      exact ⟨by rw [HR.out]; rfl, BY.out _ _⟩
    · have HR := Lib.hid (HK2.out (HL2.out (by omega) rfl) ((numMay_iff a1).2 (by omega)))
      have q2 := (numMay_iff a2).2 h2; clear h2
      have q3 := (numMay_iff a3).2 h3; clear h3
      have q5 := (numMay_iff a5).2 h6; clear h6
      clear HALL HKIND HK0 HL0 HK1 HL1 HK2 HL2 HK3 HL3 HK4 HL4
      have hq := run_eqlAdmin 2 a1 a2 a3 a4 a5 2 a1 0 0 0 0
      have hg := guard23
      generalize adminS.may [2, a1, a2, a3, a4, a5] [] = M at HR ⊢
      generalize decide ([2, a1, a2, a3, a4, a5] = [2, a1, 0, 0, 0, 0]) = bb at hq HR
      go_enter Try.func25, Try.ntmps25
      go_wp2_with (go_at_call 56; refine (NM.out _ _).mono ?_; rintro e w' ⟨rfl, rfl⟩; first | rw [q2] | rw [q3] | rw [q5])
      go_ret
      exact ⟨by rw [HR.out]; rfl, BY.out _ _⟩
    · have HR := Lib.hid (HK3.out (HL3.out (by omega) rfl) )
      have q2 := (numMay_iff a2).2 h2; clear h2
      have q3 := (numMay_iff a3).2 h3; clear h3
      have q5 := (numMay_iff a5).2 h6; clear h6
      clear HALL HKIND HK0 HL0 HK1 HL1 HK2 HL2 HK3 HL3 HK4 HL4
      have hq := run_eqlAdmin 3 a1 a2 a3 a4 a5 3 0 0 0 0 0
      have hg := guard23
      generalize adminS.may [3, a1, a2, a3, a4, a5] [] = M at HR ⊢
      generalize decide ([3, a1, a2, a3, a4, a5] = [3, 0, 0, 0, 0, 0]) = bb at hq HR
      go_enter Try.func25, Try.ntmps25
      go_wp2_with (go_at_call 56; refine (NM.out _ _).mono ?_; rintro e w' ⟨rfl, rfl⟩; first | rw [q2] | rw [q3] | rw [q5])
      go_ret
      exact ⟨by rw [HR.out]; rfl, BY.out _ _⟩
    · have HR := Lib.hid (HK4.out (HL4.out (by omega) rfl) ((numMay_iff a5).2 (by omega)))
      have q2 := (numMay_iff a2).2 h2; clear h2
      have q3 := (numMay_iff a3).2 h3; clear h3
      have q5 := (numMay_iff a5).2 h6; clear h6
      clear HALL HKIND HK0 HL0 HK1 HL1 HK2 HL2 HK3 HL3 HK4 HL4
      have hq := run_eqlAdmin 4 a1 a2 a3 a4 a5 4 0 0 0 0 a5
      have hg := guard23
      generalize adminS.may [4, a1, a2, a3, a4, a5] [] = M at HR ⊢
      generalize decide ([4, a1, a2, a3, a4, a5] = [4, 0, 0, 0, 0, a5]) = bb at hq HR
      go_enter Try.func25, Try.ntmps25
      go_wp2_with (go_at_call 56; refine (NM.out _ _).mono ?_; rintro e w' ⟨rfl, rfl⟩; first | rw [q2] | rw [q3] | rw [q5])
      go_ret
      exact ⟨by rw [HR.out]; rfl, BY.out _ _⟩
    · have HR : Hid (adminS.may [k, a1, a2, a3, a4, a5] [] = false) := Lib.hid (by cases e : adminS.may [k, a1, a2, a3, a4, a5] []; rfl; exact absurd (HKIND.out e).1 (by omega))
      have q2 := (numMay_iff a2).2 h2; clear h2
      have q3 := (numMay_iff a3).2 h3; clear h3
      have q5 := (numMay_iff a5).2 h6; clear h6
      clear HALL HKIND HK0 HL0 HK1 HL1 HK2 HL2 HK3 HL3 HK4 HL4
      have e0 := bne_of k 0 g0; have e1 := bne_of k 1 g1; have e2 := bne_of k 2 g2; have e3 := bne_of k 3 g3; have e4 := bne_of k 4 g4
      clear g0 g1 g2 g3 g4
      generalize adminS.may [k, a1, a2, a3, a4, a5] [] = M at HR ⊢
      go_enter Try.func25, Try.ntmps25
      go_wp2_with (go_at_call 56; refine (NM.out _ _).mono ?_; rintro e w' ⟨rfl, rfl⟩; first | rw [q2] | rw [q3] | rw [q5])
      go_ret
      exact ⟨by rw [HR.out]; rfl, BY.out _ _⟩
  · have HR : Hid (adminS.may [k, a1, a2, a3, a4, a5] [] = false) := Lib.hid (by cases e : adminS.may [k, a1, a2, a3, a4, a5] []; rfl; have := HALL.out e; omega)
    clear HALL HKIND HK0 HL0 HK1 HL1 HK2 HL2 HK3 HL3 HK4 HL4
    generalize adminS.may [k, a1, a2, a3, a4, a5] [] = M at HR ⊢
    go_enter Try.func25, Try.ntmps25
    go_wp2_with (go_at_call 56; refine (NM.out _ _).mono ?_; rintro e w' ⟨rfl, rfl⟩; first | rw [q2] | rw [q3] | rw [q5])
    go_ret
    exact ⟨by rw [HR.out]; rfl, BX.out _⟩
  · have HR : Hid (adminS.may [k, a1, a2, a3, a4, a5] [] = false) := Lib.hid (by cases e : adminS.may [k, a1, a2, a3, a4, a5] []; rfl; have := HALL.out e; omega)
    clear HALL HKIND HK0 HL0 HK1 HL1 HK2 HL2 HK3 HL3 HK4 HL4
    generalize adminS.may [k, a1, a2, a3, a4, a5] [] = M at HR ⊢
    go_enter Try.func25, Try.ntmps25
    go_wp2_with (go_at_call 56; refine (NM.out _ _).mono ?_; rintro e w' ⟨rfl, rfl⟩; first | rw [q2] | rw [q3] | rw [q5])
    go_ret
    exact ⟨by rw [HR.out]; rfl, BX.out _⟩
  · have HR : Hid (adminS.may [k, a1, a2, a3, a4, a5] [] = false) := Lib.hid (by cases e : adminS.may [k, a1, a2, a3, a4, a5] []; rfl; have := HALL.out e; omega)
    have q2 := numNot_of a2 h2; clear h2
    clear HALL HKIND HK0 HL0 HK1 HL1 HK2 HL2 HK3 HL3 HK4 HL4
    generalize adminS.may [k, a1, a2, a3, a4, a5] [] = M at HR ⊢
    go_enter Try.func25, Try.ntmps25
    go_wp2_with (go_at_call 56; refine (NM.out _ _).mono ?_; rintro e w' ⟨rfl, rfl⟩; first | rw [q2] | rw [q3] | rw [q5])
    go_ret
    exact ⟨by rw [HR.out]; rfl, BX.out _⟩
  · have HR : Hid (adminS.may [k, a1, a2, a3, a4, a5] [] = false) := Lib.hid (by cases e : adminS.may [k, a1, a2, a3, a4, a5] []; rfl; have := HALL.out e; omega)
    have q2 := (numMay_iff a2).2 h2; clear h2
    have q3 := numNot_of a3 h3; clear h3
    clear HALL HKIND HK0 HL0 HK1 HL1 HK2 HL2 HK3 HL3 HK4 HL4
    generalize adminS.may [k, a1, a2, a3, a4, a5] [] = M at HR ⊢
    go_enter Try.func25, Try.ntmps25
    go_wp2_with (go_at_call 56; refine (NM.out _ _).mono ?_; rintro e w' ⟨rfl, rfl⟩; first | rw [q2] | rw [q3] | rw [q5])
    go_ret
    exact ⟨by rw [HR.out]; rfl, BX.out _⟩
  · have HR : Hid (adminS.may [k, a1, a2, a3, a4, a5] [] = false) := Lib.hid (by cases e : adminS.may [k, a1, a2, a3, a4, a5] []; rfl; have := HALL.out e; omega)
    have q2 := (numMay_iff a2).2 h2; clear h2
    have q3 := (numMay_iff a3).2 h3; clear h3
    clear HALL HKIND HK0 HL0 HK1 HL1 HK2 HL2 HK3 HL3 HK4 HL4
    generalize adminS.may [k, a1, a2, a3, a4, a5] [] = M at HR ⊢
    go_enter Try.func25, Try.ntmps25
    go_wp2_with (go_at_call 56; refine (NM.out _ _).mono ?_; rintro e w' ⟨rfl, rfl⟩; first | rw [q2] | rw [q3] | rw [q5])
    go_ret
    exact ⟨by rw [HR.out]; rfl, BX.out _⟩
  · have HR : Hid (adminS.may [k, a1, a2, a3, a4, a5] [] = false) := Lib.hid (by cases e : adminS.may [k, a1, a2, a3, a4, a5] []; rfl; have := HALL.out e; omega)
    have q2 := (numMay_iff a2).2 h2; clear h2
    have q3 := (numMay_iff a3).2 h3; clear h3
    clear HALL HKIND HK0 HL0 HK1 HL1 HK2 HL2 HK3 HL3 HK4 HL4
    generalize adminS.may [k, a1, a2, a3, a4, a5] [] = M at HR ⊢
    go_enter Try.func25, Try.ntmps25
    go_wp2_with (go_at_call 56; refine (NM.out _ _).mono ?_; rintro e w' ⟨rfl, rfl⟩; first | rw [q2] | rw [q3] | rw [q5])
    go_ret
    exact ⟨by rw [HR.out]; rfl, BX.out _⟩
  · have HR : Hid (adminS.may [k, a1, a2, a3, a4, a5] [] = false) := Lib.hid (by cases e : adminS.may [k, a1, a2, a3, a4, a5] []; rfl; have := HALL.out e; omega)
    have q2 := (numMay_iff a2).2 h2; clear h2
    have q3 := (numMay_iff a3).2 h3; clear h3
    have q5 := numNot_of a5 h6; clear h6
    clear HALL HKIND HK0 HL0 HK1 HL1 HK2 HL2 HK3 HL3 HK4 HL4
    generalize adminS.may [k, a1, a2, a3, a4, a5] [] = M at HR ⊢
    go_enter Try.func25, Try.ntmps25
    go_wp2_with (go_at_call 56; refine (NM.out _ _).mono ?_; rintro e w' ⟨rfl, rfl⟩; first | rw [q2] | rw [q3] | rw [q5])
    go_ret
    exact ⟨by rw [HR.out]; rfl, BX.out _⟩
end Go.Proofs.Ythkbeigimdgamaa
