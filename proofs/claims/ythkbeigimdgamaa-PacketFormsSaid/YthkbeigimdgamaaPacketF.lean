/- bastionref1.PacketMay -/
import Derived.Test.YthkbeigimdgamaaPacketE
namespace Go.Proofs.Ythkbeigimdgamaa
open Go Go.RowKit

theorem packetMay_kind (k a1 a2 a3 a4 a5 a6 a7 : Int) (d : List UInt8) (h : packetS.may [k, a1, a2, a3, a4, a5, a6, a7] d = true) : (k = 0 ∨ k = 1 ∨ k = 2 ∨ k = 3 ∨ k = 4) ∧ ((k = 3 ∧ a7 ≤ 1048575 ∧ (d.length : Int) ≤ 64) ∨ (k = 0) ∨ (k = 1) ∨ (k = 2) ∨ (k = 4)) ∧ (0 : Int) = 0 := by
  have h1 : ((k = 3 ∧ a7 ≤ 1048575 ∧ (d.length : Int) ≤ 64) ∨ (k = 0) ∨ (k = 1) ∨ (k = 2) ∨ (k = 4)) ∧ (0 : Int) = 0 := of_decide_eq_true (Sp.may_parts h).1
  refine ⟨?_, h1⟩
  omega
theorem packetMay_k0 (a1 a2 a3 a4 a5 a6 a7 : Int) (d : List UInt8) (h : packetS.may [0, a1, a2, a3, a4, a5, a6, a7] d = true) : numMayB a1 = true ∧ numMayB a2 = true ∧ a3 = 0 ∧ a4 = 0 ∧ a5 = 0 ∧ a6 = 0 ∧ a7 = 0 ∧ d = [] := by
  obtain ⟨h1, h2, h3, h4⟩ := Sp.may_parts h
  replace h3 : [0, a1, a2, a3, a4, a5, a6, a7] = [0, a1, a2, 0, 0, 0, 0, 0] := h3
  exact ⟨h2 1 (show 1 ∈ [1, 2] from by decide), h2 2 (show 2 ∈ [1, 2] from by decide), congrArg (fun l => l[3]!) h3, congrArg (fun l => l[4]!) h3, congrArg (fun l => l[5]!) h3, congrArg (fun l => l[6]!) h3, congrArg (fun l => l[7]!) h3, h4.resolve_left (show ¬ decide ((0 : Int) = 3) = true from by decide)⟩
theorem packetMay_k1 (a1 a2 a3 a4 a5 a6 a7 : Int) (d : List UInt8) (h : packetS.may [1, a1, a2, a3, a4, a5, a6, a7] d = true) : numMayB a3 = true ∧ numMayB a4 = true ∧ numMayB a5 = true ∧ a1 = 0 ∧ a2 = 0 ∧ a6 = 0 ∧ a7 = 0 ∧ d = [] := by
  obtain ⟨h1, h2, h3, h4⟩ := Sp.may_parts h
  replace h3 : [1, a1, a2, a3, a4, a5, a6, a7] = [1, 0, 0, a3, a4, a5, 0, 0] := h3
  exact ⟨h2 3 (show 3 ∈ [3, 4, 5] from by decide), h2 4 (show 4 ∈ [3, 4, 5] from by decide), h2 5 (show 5 ∈ [3, 4, 5] from by decide), congrArg (fun l => l[1]!) h3, congrArg (fun l => l[2]!) h3, congrArg (fun l => l[6]!) h3, congrArg (fun l => l[7]!) h3, h4.resolve_left (show ¬ decide ((1 : Int) = 3) = true from by decide)⟩
theorem packetMay_k2 (a1 a2 a3 a4 a5 a6 a7 : Int) (d : List UInt8) (h : packetS.may [2, a1, a2, a3, a4, a5, a6, a7] d = true) : numMayB a4 = true ∧ numMayB a2 = true ∧ numMayB a5 = true ∧ a1 = 0 ∧ a3 = 0 ∧ a6 = 0 ∧ a7 = 0 ∧ d = [] := by
  obtain ⟨h1, h2, h3, h4⟩ := Sp.may_parts h
  replace h3 : [2, a1, a2, a3, a4, a5, a6, a7] = [2, 0, a2, 0, a4, a5, 0, 0] := h3
  exact ⟨h2 4 (show 4 ∈ [4, 2, 5] from by decide), h2 2 (show 2 ∈ [4, 2, 5] from by decide), h2 5 (show 5 ∈ [4, 2, 5] from by decide), congrArg (fun l => l[1]!) h3, congrArg (fun l => l[3]!) h3, congrArg (fun l => l[6]!) h3, congrArg (fun l => l[7]!) h3, h4.resolve_left (show ¬ decide ((2 : Int) = 3) = true from by decide)⟩
theorem packetMay_k3 (a1 a2 a3 a4 a5 a6 a7 : Int) (d : List UInt8) (h : packetS.may [3, a1, a2, a3, a4, a5, a6, a7] d = true) : numMayB a6 = true ∧ numMayB a7 = true ∧ numMayB a4 = true ∧ a1 = 0 ∧ a2 = 0 ∧ a3 = 0 ∧ a5 = 0 := by
  obtain ⟨h1, h2, h3, h4⟩ := Sp.may_parts h
  replace h3 : [3, a1, a2, a3, a4, a5, a6, a7] = [3, 0, 0, 0, a4, 0, a6, a7] := h3
  exact ⟨h2 6 (show 6 ∈ [6, 7, 4] from by decide), h2 7 (show 7 ∈ [6, 7, 4] from by decide), h2 4 (show 4 ∈ [6, 7, 4] from by decide), congrArg (fun l => l[1]!) h3, congrArg (fun l => l[2]!) h3, congrArg (fun l => l[3]!) h3, congrArg (fun l => l[5]!) h3⟩
theorem packetMay_k4 (a1 a2 a3 a4 a5 a6 a7 : Int) (d : List UInt8) (h : packetS.may [4, a1, a2, a3, a4, a5, a6, a7] d = true) : numMayB a6 = true ∧ numMayB a4 = true ∧ a1 = 0 ∧ a2 = 0 ∧ a3 = 0 ∧ a5 = 0 ∧ a7 = 0 ∧ d = [] := by
  obtain ⟨h1, h2, h3, h4⟩ := Sp.may_parts h
  replace h3 : [4, a1, a2, a3, a4, a5, a6, a7] = [4, 0, 0, 0, a4, 0, a6, 0] := h3
  exact ⟨h2 6 (show 6 ∈ [6, 4] from by decide), h2 4 (show 4 ∈ [6, 4] from by decide), congrArg (fun l => l[1]!) h3, congrArg (fun l => l[2]!) h3, congrArg (fun l => l[3]!) h3, congrArg (fun l => l[5]!) h3, congrArg (fun l => l[7]!) h3, h4.resolve_left (show ¬ decide ((4 : Int) = 3) = true from by decide)⟩
theorem packetMay_all (k a1 a2 a3 a4 a5 a6 a7 : Int) (d : List UInt8) (h : packetS.may [k, a1, a2, a3, a4, a5, a6, a7] d = true) : (d.length : Int) ≤ 64 ∧ 0 ≤ a7 ∧ a7 ≤ 1048575 ∧ (0 ≤ a1 ∧ a1 ≤ 1073741823) ∧ (0 ≤ a2 ∧ a2 ≤ 1073741823) ∧ (0 ≤ a3 ∧ a3 ≤ 1073741823) ∧ (0 ≤ a4 ∧ a4 ≤ 1073741823) ∧ (0 ≤ a5 ∧ a5 ≤ 1073741823) ∧ (0 ≤ a6 ∧ a6 ≤ 1073741823) := by
  obtain ⟨hk, h1⟩ := packetMay_kind k a1 a2 a3 a4 a5 a6 a7 d h
  rcases hk with rfl | rfl | rfl | rfl | rfl
  · obtain ⟨q1, q2, z3, z4, z5, z6, z7, zd⟩ := packetMay_k0 a1 a2 a3 a4 a5 a6 a7 d h
    rw [numMay_iff] at q1 q2
    subst zd
    simp only [List.length_nil] at h1 ⊢
    omega
  · obtain ⟨q3, q4, q5, z1, z2, z6, z7, zd⟩ := packetMay_k1 a1 a2 a3 a4 a5 a6 a7 d h
    rw [numMay_iff] at q3 q4 q5
    subst zd
    simp only [List.length_nil] at h1 ⊢
    omega
  · obtain ⟨q4, q2, q5, z1, z3, z6, z7, zd⟩ := packetMay_k2 a1 a2 a3 a4 a5 a6 a7 d h
    rw [numMay_iff] at q4 q2 q5
    subst zd
    simp only [List.length_nil] at h1 ⊢
    omega
  · obtain ⟨q6, q7, q4, z1, z2, z3, z5⟩ := packetMay_k3 a1 a2 a3 a4 a5 a6 a7 d h
    rw [numMay_iff] at q6 q7 q4
    omega
  · obtain ⟨q6, q4, z1, z2, z3, z5, z7, zd⟩ := packetMay_k4 a1 a2 a3 a4 a5 a6 a7 d h
    rw [numMay_iff] at q6 q4
    subst zd
    simp only [List.length_nil] at h1 ⊢
    omega
theorem packetMay_is0 (a1 a2 a3 a4 a5 a6 a7 : Int) (d : List UInt8) (hl : packetS.lim [0, a1, a2, a3, a4, a5, a6, a7] d = true) (q1 : numMayB a1 = true) (q2 : numMayB a2 = true) : packetS.may [0, a1, a2, a3, a4, a5, a6, a7] d = (decide ([0, a1, a2, a3, a4, a5, a6, a7] = [0, a1, a2, 0, 0, 0, 0, 0]) && decide ((⟨d.toArray⟩ : ByteArray) = ⟨#[]⟩)) := by
  rw [Sp.may_lim, hl, Bool.true_and]
  rw [show decide ((⟨d.toArray⟩ : ByteArray) = ⟨#[]⟩) = (false || d.isEmpty) from txt_eq false d]
  show ((numMayB a1 && (numMayB a2 && true)) && (decide ([0, a1, a2, a3, a4, a5, a6, a7] = [0, a1, a2, 0, 0, 0, 0, 0]) && (false || d.isEmpty))) = _
  simp only [q1, q2, Bool.and_true, Bool.true_and]
theorem packetMay_is1 (a1 a2 a3 a4 a5 a6 a7 : Int) (d : List UInt8) (hl : packetS.lim [1, a1, a2, a3, a4, a5, a6, a7] d = true) (q3 : numMayB a3 = true) (q4 : numMayB a4 = true) (q5 : numMayB a5 = true) : packetS.may [1, a1, a2, a3, a4, a5, a6, a7] d = (decide ([1, a1, a2, a3, a4, a5, a6, a7] = [1, 0, 0, a3, a4, a5, 0, 0]) && decide ((⟨d.toArray⟩ : ByteArray) = ⟨#[]⟩)) := by
  rw [Sp.may_lim, hl, Bool.true_and]
  rw [show decide ((⟨d.toArray⟩ : ByteArray) = ⟨#[]⟩) = (false || d.isEmpty) from txt_eq false d]
  show ((numMayB a3 && (numMayB a4 && (numMayB a5 && true))) && (decide ([1, a1, a2, a3, a4, a5, a6, a7] = [1, 0, 0, a3, a4, a5, 0, 0]) && (false || d.isEmpty))) = _
  simp only [q3, q4, q5, Bool.and_true, Bool.true_and]
theorem packetMay_is2 (a1 a2 a3 a4 a5 a6 a7 : Int) (d : List UInt8) (hl : packetS.lim [2, a1, a2, a3, a4, a5, a6, a7] d = true) (q4 : numMayB a4 = true) (q2 : numMayB a2 = true) (q5 : numMayB a5 = true) : packetS.may [2, a1, a2, a3, a4, a5, a6, a7] d = (decide ([2, a1, a2, a3, a4, a5, a6, a7] = [2, 0, a2, 0, a4, a5, 0, 0]) && decide ((⟨d.toArray⟩ : ByteArray) = ⟨#[]⟩)) := by
  rw [Sp.may_lim, hl, Bool.true_and]
  rw [show decide ((⟨d.toArray⟩ : ByteArray) = ⟨#[]⟩) = (false || d.isEmpty) from txt_eq false d]
  show ((numMayB a4 && (numMayB a2 && (numMayB a5 && true))) && (decide ([2, a1, a2, a3, a4, a5, a6, a7] = [2, 0, a2, 0, a4, a5, 0, 0]) && (false || d.isEmpty))) = _
  simp only [q4, q2, q5, Bool.and_true, Bool.true_and]
theorem packetMay_is3 (a1 a2 a3 a4 a5 a6 a7 : Int) (d : List UInt8) (hl : packetS.lim [3, a1, a2, a3, a4, a5, a6, a7] d = true) (q6 : numMayB a6 = true) (q7 : numMayB a7 = true) (q4 : numMayB a4 = true) : packetS.may [3, a1, a2, a3, a4, a5, a6, a7] d = (decide ([3, a1, a2, a3, a4, a5, a6, a7] = [3, 0, 0, 0, a4, 0, a6, a7]) && decide ((⟨d.toArray⟩ : ByteArray) = ⟨d.toArray⟩)) := by
  rw [Sp.may_lim, hl, Bool.true_and]
  rw [show decide ((⟨d.toArray⟩ : ByteArray) = ⟨d.toArray⟩) = (true || d.isEmpty) from txt_eq true d]
  show ((numMayB a6 && (numMayB a7 && (numMayB a4 && true))) && (decide ([3, a1, a2, a3, a4, a5, a6, a7] = [3, 0, 0, 0, a4, 0, a6, a7]) && (true || d.isEmpty))) = _
  simp only [q6, q7, q4, Bool.and_true, Bool.true_and]
theorem packetMay_is4 (a1 a2 a3 a4 a5 a6 a7 : Int) (d : List UInt8) (hl : packetS.lim [4, a1, a2, a3, a4, a5, a6, a7] d = true) (q6 : numMayB a6 = true) (q4 : numMayB a4 = true) : packetS.may [4, a1, a2, a3, a4, a5, a6, a7] d = (decide ([4, a1, a2, a3, a4, a5, a6, a7] = [4, 0, 0, 0, a4, 0, a6, 0]) && decide ((⟨d.toArray⟩ : ByteArray) = ⟨#[]⟩)) := by
  rw [Sp.may_lim, hl, Bool.true_and]
  rw [show decide ((⟨d.toArray⟩ : ByteArray) = ⟨#[]⟩) = (false || d.isEmpty) from txt_eq false d]
  show ((numMayB a6 && (numMayB a4 && true)) && (decide ([4, a1, a2, a3, a4, a5, a6, a7] = [4, 0, 0, 0, a4, 0, a6, 0]) && (false || d.isEmpty))) = _
  simp only [q6, q4, Bool.and_true, Bool.true_and]

set_option maxRecDepth 100000 in
set_option maxHeartbeats 12800000 in
theorem refPacketMay_any (k a1 a2 a3 a4 a5 a6 a7 : Int) (d : List UInt8) (w : World) : Calls Try.prog 39 #[recV [k, a1, a2, a3, a4, a5, a6, a7] [strV d]] w fun e w' => e = .returned (.bool (packetS.may [k, a1, a2, a3, a4, a5, a6, a7] d)) ∧ Below w.heap.size w w' := by
  have HALL := Lib.hid (packetMay_all k a1 a2 a3 a4 a5 a6 a7 d)
  have HKIND := Lib.hid (packetMay_kind k a1 a2 a3 a4 a5 a6 a7 d)
  have NM := Lib.hid refNumMay_any
  have HK0 := Lib.hid (packetMay_is0 a1 a2 a3 a4 a5 a6 a7 d)
  have HK1 := Lib.hid (packetMay_is1 a1 a2 a3 a4 a5 a6 a7 d)
  have HK2 := Lib.hid (packetMay_is2 a1 a2 a3 a4 a5 a6 a7 d)
  have HK3 := Lib.hid (packetMay_is3 a1 a2 a3 a4 a5 a6 a7 d)
  have HK4 := Lib.hid (packetMay_is4 a1 a2 a3 a4 a5 a6 a7 d)
  have BX := Lib.hid (fun (v : Array Value) => show Below w.heap.size w (w.alloc (.cells v 56)) from (Below.refl _ _).alloc (Nat.le_refl _) _)
  have BY := Lib.hid (fun (v u : Array Value) => show Below w.heap.size w ((w.alloc (.cells v 56)).alloc (.cells u 56)) from ((Below.refl _ _).alloc (Nat.le_refl _) _).alloc (by simp) _)
  have hsz : (⟨d.toArray⟩ : ByteArray).size = d.length := rfl
  rw [show recV [k, a1, a2, a3, a4, a5, a6, a7] [strV d] = .agg #[.int .i64 k, .int .i64 a1, .int .i64 a2, .int .i64 a3, .int .i64 a4, .int .i64 a5, .int .i64 a6, .int .i64 a7, .string ⟨d.toArray⟩] from rfl]
  rw [← hsz] at HALL HKIND
  have HL0 : Hid (((k = 3 ∧ a7 ≤ 1048575 ∧ ((⟨d.toArray⟩ : ByteArray).size : Int) ≤ 64) ∨ (k = 0) ∨ (k = 1) ∨ (k = 2) ∨ (k = 4)) ∧ (0 : Int) = 0 → k = 0 → packetS.lim [0, a1, a2, a3, a4, a5, a6, a7] d = true) := Lib.hid (fun h e => by subst e; exact decide_eq_true h)
  have HL1 : Hid (((k = 3 ∧ a7 ≤ 1048575 ∧ ((⟨d.toArray⟩ : ByteArray).size : Int) ≤ 64) ∨ (k = 0) ∨ (k = 1) ∨ (k = 2) ∨ (k = 4)) ∧ (0 : Int) = 0 → k = 1 → packetS.lim [1, a1, a2, a3, a4, a5, a6, a7] d = true) := Lib.hid (fun h e => by subst e; exact decide_eq_true h)
  have HL2 : Hid (((k = 3 ∧ a7 ≤ 1048575 ∧ ((⟨d.toArray⟩ : ByteArray).size : Int) ≤ 64) ∨ (k = 0) ∨ (k = 1) ∨ (k = 2) ∨ (k = 4)) ∧ (0 : Int) = 0 → k = 2 → packetS.lim [2, a1, a2, a3, a4, a5, a6, a7] d = true) := Lib.hid (fun h e => by subst e; exact decide_eq_true h)
  have HL3 : Hid (((k = 3 ∧ a7 ≤ 1048575 ∧ ((⟨d.toArray⟩ : ByteArray).size : Int) ≤ 64) ∨ (k = 0) ∨ (k = 1) ∨ (k = 2) ∨ (k = 4)) ∧ (0 : Int) = 0 → k = 3 → packetS.lim [3, a1, a2, a3, a4, a5, a6, a7] d = true) := Lib.hid (fun h e => by subst e; exact decide_eq_true h)
  have HL4 : Hid (((k = 3 ∧ a7 ≤ 1048575 ∧ ((⟨d.toArray⟩ : ByteArray).size : Int) ≤ 64) ∨ (k = 0) ∨ (k = 1) ∨ (k = 2) ∨ (k = 4)) ∧ (0 : Int) = 0 → k = 4 → packetS.lim [4, a1, a2, a3, a4, a5, a6, a7] d = true) := Lib.hid (fun h e => by subst e; exact decide_eq_true h)
  generalize hbs : (⟨d.toArray⟩ : ByteArray) = bs at HALL HKIND hsz HL0 HL1 HL2 HL3 HL4 HK0 HK1 HK2 HK3 HK4 ⊢
  clear hbs hsz
  by_cases h0 : (bs.size : Int) ≤ 64
  case neg =>
    have HR : Hid (packetS.may [k, a1, a2, a3, a4, a5, a6, a7] d = false) := Lib.hid (by cases e : packetS.may [k, a1, a2, a3, a4, a5, a6, a7] d; rfl; exact absurd (HALL.out e).1 h0)
    clear HALL HKIND HK0 HL0 HK1 HL1 HK2 HL2 HK3 HL3 HK4 HL4
    generalize packetS.may [k, a1, a2, a3, a4, a5, a6, a7] d = M at HR ⊢
    go_enter Try.func39, Try.ntmps39
    go_wp2_with (go_at_call 56; refine (NM.out _ _).mono ?_; rintro e w' ⟨rfl, rfl⟩; first | rw [q1] | rw [q2] | rw [q3] | rw [q4] | rw [q5] | rw [q6])
    go_ret
    exact ⟨by rw [HR.out]; rfl, BX.out _⟩
  by_cases h1 : 0 ≤ a7
  case neg =>
    have HR : Hid (packetS.may [k, a1, a2, a3, a4, a5, a6, a7] d = false) := Lib.hid (by cases e : packetS.may [k, a1, a2, a3, a4, a5, a6, a7] d; rfl; exact absurd (HALL.out e).2.1 h1)
    clear HALL HKIND HK0 HL0 HK1 HL1 HK2 HL2 HK3 HL3 HK4 HL4
    generalize packetS.may [k, a1, a2, a3, a4, a5, a6, a7] d = M at HR ⊢
    go_enter Try.func39, Try.ntmps39
    go_wp2_with (go_at_call 56; refine (NM.out _ _).mono ?_; rintro e w' ⟨rfl, rfl⟩; first | rw [q1] | rw [q2] | rw [q3] | rw [q4] | rw [q5] | rw [q6])
    go_ret
    exact ⟨by rw [HR.out]; rfl, BX.out _⟩
  by_cases h2 : a7 ≤ 1048575
  case neg =>
    have HR : Hid (packetS.may [k, a1, a2, a3, a4, a5, a6, a7] d = false) := Lib.hid (by cases e : packetS.may [k, a1, a2, a3, a4, a5, a6, a7] d; rfl; exact absurd (HALL.out e).2.2.1 h2)
    clear HALL HKIND HK0 HL0 HK1 HL1 HK2 HL2 HK3 HL3 HK4 HL4
    generalize packetS.may [k, a1, a2, a3, a4, a5, a6, a7] d = M at HR ⊢
    go_enter Try.func39, Try.ntmps39
    go_wp2_with (go_at_call 56; refine (NM.out _ _).mono ?_; rintro e w' ⟨rfl, rfl⟩; first | rw [q1] | rw [q2] | rw [q3] | rw [q4] | rw [q5] | rw [q6])
    go_ret
    exact ⟨by rw [HR.out]; rfl, BX.out _⟩
  by_cases h3 : (0 ≤ a1 ∧ a1 ≤ 1073741823)
  case neg =>
    have HR : Hid (packetS.may [k, a1, a2, a3, a4, a5, a6, a7] d = false) := Lib.hid (by cases e : packetS.may [k, a1, a2, a3, a4, a5, a6, a7] d; rfl; exact absurd (HALL.out e).2.2.2.1 h3)
    have q1 := numNot_of a1 h3; clear h3
    clear HALL HKIND HK0 HL0 HK1 HL1 HK2 HL2 HK3 HL3 HK4 HL4
    generalize packetS.may [k, a1, a2, a3, a4, a5, a6, a7] d = M at HR ⊢
    go_enter Try.func39, Try.ntmps39
    go_wp2_with (go_at_call 56; refine (NM.out _ _).mono ?_; rintro e w' ⟨rfl, rfl⟩; first | rw [q1] | rw [q2] | rw [q3] | rw [q4] | rw [q5] | rw [q6])
    go_ret
    exact ⟨by rw [HR.out]; rfl, BX.out _⟩
  by_cases h4 : (0 ≤ a2 ∧ a2 ≤ 1073741823)
  case neg =>
    have HR : Hid (packetS.may [k, a1, a2, a3, a4, a5, a6, a7] d = false) := Lib.hid (by cases e : packetS.may [k, a1, a2, a3, a4, a5, a6, a7] d; rfl; exact absurd (HALL.out e).2.2.2.2.1 h4)
    have q1 := (numMay_iff a1).2 h3; clear h3
    have q2 := numNot_of a2 h4; clear h4
    clear HALL HKIND HK0 HL0 HK1 HL1 HK2 HL2 HK3 HL3 HK4 HL4
    generalize packetS.may [k, a1, a2, a3, a4, a5, a6, a7] d = M at HR ⊢
    go_enter Try.func39, Try.ntmps39
    go_wp2_with (go_at_call 56; refine (NM.out _ _).mono ?_; rintro e w' ⟨rfl, rfl⟩; first | rw [q1] | rw [q2] | rw [q3] | rw [q4] | rw [q5] | rw [q6])
    go_ret
    exact ⟨by rw [HR.out]; rfl, BX.out _⟩
  by_cases h5 : (0 ≤ a3 ∧ a3 ≤ 1073741823)
  case neg =>
    have HR : Hid (packetS.may [k, a1, a2, a3, a4, a5, a6, a7] d = false) := Lib.hid (by cases e : packetS.may [k, a1, a2, a3, a4, a5, a6, a7] d; rfl; exact absurd (HALL.out e).2.2.2.2.2.1 h5)
    have q1 := (numMay_iff a1).2 h3; clear h3
    have q2 := (numMay_iff a2).2 h4; clear h4
    have q3 := numNot_of a3 h5; clear h5
    clear HALL HKIND HK0 HL0 HK1 HL1 HK2 HL2 HK3 HL3 HK4 HL4
    generalize packetS.may [k, a1, a2, a3, a4, a5, a6, a7] d = M at HR ⊢
    go_enter Try.func39, Try.ntmps39
    go_wp2_with (go_at_call 56; refine (NM.out _ _).mono ?_; rintro e w' ⟨rfl, rfl⟩; first | rw [q1] | rw [q2] | rw [q3] | rw [q4] | rw [q5] | rw [q6])
    go_ret
    exact ⟨by rw [HR.out]; rfl, BX.out _⟩
  by_cases h6 : (0 ≤ a4 ∧ a4 ≤ 1073741823)
  case neg =>
    have HR : Hid (packetS.may [k, a1, a2, a3, a4, a5, a6, a7] d = false) := Lib.hid (by cases e : packetS.may [k, a1, a2, a3, a4, a5, a6, a7] d; rfl; exact absurd (HALL.out e).2.2.2.2.2.2.1 h6)
    have q1 := (numMay_iff a1).2 h3; clear h3
    have q2 := (numMay_iff a2).2 h4; clear h4
    have q3 := (numMay_iff a3).2 h5; clear h5
    have q4 := numNot_of a4 h6; clear h6
    clear HALL HKIND HK0 HL0 HK1 HL1 HK2 HL2 HK3 HL3 HK4 HL4
    generalize packetS.may [k, a1, a2, a3, a4, a5, a6, a7] d = M at HR ⊢
    go_enter Try.func39, Try.ntmps39
    go_wp2_with (go_at_call 56; refine (NM.out _ _).mono ?_; rintro e w' ⟨rfl, rfl⟩; first | rw [q1] | rw [q2] | rw [q3] | rw [q4] | rw [q5] | rw [q6])
    go_ret
    exact ⟨by rw [HR.out]; rfl, BX.out _⟩
  by_cases h7 : (0 ≤ a5 ∧ a5 ≤ 1073741823)
  case neg =>
    have HR : Hid (packetS.may [k, a1, a2, a3, a4, a5, a6, a7] d = false) := Lib.hid (by cases e : packetS.may [k, a1, a2, a3, a4, a5, a6, a7] d; rfl; exact absurd (HALL.out e).2.2.2.2.2.2.2.1 h7)
    have q1 := (numMay_iff a1).2 h3; clear h3
    have q2 := (numMay_iff a2).2 h4; clear h4
    have q3 := (numMay_iff a3).2 h5; clear h5
    have q4 := (numMay_iff a4).2 h6; clear h6
    have q5 := numNot_of a5 h7; clear h7
    clear HALL HKIND HK0 HL0 HK1 HL1 HK2 HL2 HK3 HL3 HK4 HL4
    generalize packetS.may [k, a1, a2, a3, a4, a5, a6, a7] d = M at HR ⊢
    go_enter Try.func39, Try.ntmps39
    go_wp2_with (go_at_call 56; refine (NM.out _ _).mono ?_; rintro e w' ⟨rfl, rfl⟩; first | rw [q1] | rw [q2] | rw [q3] | rw [q4] | rw [q5] | rw [q6])
    go_ret
    exact ⟨by rw [HR.out]; rfl, BX.out _⟩
  by_cases h8 : (0 ≤ a6 ∧ a6 ≤ 1073741823)
  case neg =>
    have HR : Hid (packetS.may [k, a1, a2, a3, a4, a5, a6, a7] d = false) := Lib.hid (by cases e : packetS.may [k, a1, a2, a3, a4, a5, a6, a7] d; rfl; exact absurd (HALL.out e).2.2.2.2.2.2.2.2 h8)
    have q1 := (numMay_iff a1).2 h3; clear h3
    have q2 := (numMay_iff a2).2 h4; clear h4
    have q3 := (numMay_iff a3).2 h5; clear h5
    have q4 := (numMay_iff a4).2 h6; clear h6
    have q5 := (numMay_iff a5).2 h7; clear h7
    have q6 := numNot_of a6 h8; clear h8
    clear HALL HKIND HK0 HL0 HK1 HL1 HK2 HL2 HK3 HL3 HK4 HL4
    generalize packetS.may [k, a1, a2, a3, a4, a5, a6, a7] d = M at HR ⊢
    go_enter Try.func39, Try.ntmps39
    go_wp2_with (go_at_call 56; refine (NM.out _ _).mono ?_; rintro e w' ⟨rfl, rfl⟩; first | rw [q1] | rw [q2] | rw [q3] | rw [q4] | rw [q5] | rw [q6])
    go_ret
    exact ⟨by rw [HR.out]; rfl, BX.out _⟩
  · have hk : k = 0 ∨ k = 1 ∨ k = 2 ∨ k = 3 ∨ k = 4 ∨ (k ≠ 0 ∧ k ≠ 1 ∧ k ≠ 2 ∧ k ≠ 3 ∧ k ≠ 4) := by omega
    rcases hk with rfl | rfl | rfl | rfl | rfl | ⟨g0, g1, g2, g3, g4⟩
    · have HR := Lib.hid (HK0.out (HL0.out (by omega) rfl) ((numMay_iff a1).2 (by omega)) ((numMay_iff a2).2 (by omega)))
      have q1 := (numMay_iff a1).2 h3; clear h3
      have q2 := (numMay_iff a2).2 h4; clear h4
      have q3 := (numMay_iff a3).2 h5; clear h5
      have q4 := (numMay_iff a4).2 h6; clear h6
      have q5 := (numMay_iff a5).2 h7; clear h7
      have q6 := (numMay_iff a6).2 h8; clear h8
      clear HALL HKIND HK0 HL0 HK1 HL1 HK2 HL2 HK3 HL3 HK4 HL4
      have hq := run_eqlPacket 0 a1 a2 a3 a4 a5 a6 a7 0 a1 a2 0 0 0 0 0 bs ⟨#[]⟩
      have hg := guard56
      generalize packetS.may [0, a1, a2, a3, a4, a5, a6, a7] d = M at HR ⊢
      generalize (decide ([0, a1, a2, a3, a4, a5, a6, a7] = [0, a1, a2, 0, 0, 0, 0, 0]) && decide (bs = ⟨#[]⟩)) = bb at hq HR
      go_enter Try.func39, Try.ntmps39
      go_wp2_with (go_at_call 56; refine (NM.out _ _).mono ?_; rintro e w' ⟨rfl, rfl⟩; first | rw [q1] | rw [q2] | rw [q3] | rw [q4] | rw [q5] | rw [q6])
      go_ret
      exact ⟨by rw [HR.out]; rfl, BY.out _ _⟩
    · have HR := Lib.hid (HK1.out (HL1.out (by omega) rfl) ((numMay_iff a3).2 (by omega)) ((numMay_iff a4).2 (by omega)) ((numMay_iff a5).2 (by omega)))
      have q1 := (numMay_iff a1).2 h3; clear h3
      have q2 := (numMay_iff a2).2 h4; clear h4
      have q3 := (numMay_iff a3).2 h5; clear h5
      have q4 := (numMay_iff a4).2 h6; clear h6
      have q5 := (numMay_iff a5).2 h7; clear h7
      have q6 := (numMay_iff a6).2 h8; clear h8
      clear HALL HKIND HK0 HL0 HK1 HL1 HK2 HL2 HK3 HL3 HK4 HL4
      have hq := run_eqlPacket 1 a1 a2 a3 a4 a5 a6 a7 1 0 0 a3 a4 a5 0 0 bs ⟨#[]⟩
      have hg := guard56
      generalize packetS.may [1, a1, a2, a3, a4, a5, a6, a7] d = M at HR ⊢
      generalize (decide ([1, a1, a2, a3, a4, a5, a6, a7] = [1, 0, 0, a3, a4, a5, 0, 0]) && decide (bs = ⟨#[]⟩)) = bb at hq HR
      go_enter Try.func39, Try.ntmps39
      go_wp2_with (go_at_call 56; refine (NM.out _ _).mono ?_; rintro e w' ⟨rfl, rfl⟩; first | rw [q1] | rw [q2] | rw [q3] | rw [q4] | rw [q5] | rw [q6])
      go_ret
      exact ⟨by rw [HR.out]; rfl, BY.out _ _⟩
    · have HR := Lib.hid (HK2.out (HL2.out (by omega) rfl) ((numMay_iff a4).2 (by omega)) ((numMay_iff a2).2 (by omega)) ((numMay_iff a5).2 (by omega)))
      have q1 := (numMay_iff a1).2 h3; clear h3
      have q2 := (numMay_iff a2).2 h4; clear h4
      have q3 := (numMay_iff a3).2 h5; clear h5
      have q4 := (numMay_iff a4).2 h6; clear h6
      have q5 := (numMay_iff a5).2 h7; clear h7
      have q6 := (numMay_iff a6).2 h8; clear h8
      clear HALL HKIND HK0 HL0 HK1 HL1 HK2 HL2 HK3 HL3 HK4 HL4
      have hq := run_eqlPacket 2 a1 a2 a3 a4 a5 a6 a7 2 0 a2 0 a4 a5 0 0 bs ⟨#[]⟩
      have hg := guard56
      generalize packetS.may [2, a1, a2, a3, a4, a5, a6, a7] d = M at HR ⊢
      generalize (decide ([2, a1, a2, a3, a4, a5, a6, a7] = [2, 0, a2, 0, a4, a5, 0, 0]) && decide (bs = ⟨#[]⟩)) = bb at hq HR
      go_enter Try.func39, Try.ntmps39
      go_wp2_with (go_at_call 56; refine (NM.out _ _).mono ?_; rintro e w' ⟨rfl, rfl⟩; first | rw [q1] | rw [q2] | rw [q3] | rw [q4] | rw [q5] | rw [q6])
      go_ret
      exact ⟨by rw [HR.out]; rfl, BY.out _ _⟩
    · have HR := Lib.hid (HK3.out (HL3.out (by omega) rfl) ((numMay_iff a6).2 (by omega)) ((numMay_iff a7).2 (by omega)) ((numMay_iff a4).2 (by omega)))
      have q1 := (numMay_iff a1).2 h3; clear h3
      have q2 := (numMay_iff a2).2 h4; clear h4
      have q3 := (numMay_iff a3).2 h5; clear h5
      have q4 := (numMay_iff a4).2 h6; clear h6
      have q5 := (numMay_iff a5).2 h7; clear h7
      have q6 := (numMay_iff a6).2 h8; clear h8
      clear HALL HKIND HK0 HL0 HK1 HL1 HK2 HL2 HK3 HL3 HK4 HL4
      have hq := run_eqlPacket 3 a1 a2 a3 a4 a5 a6 a7 3 0 0 0 a4 0 a6 a7 bs bs
      have hg := guard56
      generalize packetS.may [3, a1, a2, a3, a4, a5, a6, a7] d = M at HR ⊢
      generalize (decide ([3, a1, a2, a3, a4, a5, a6, a7] = [3, 0, 0, 0, a4, 0, a6, a7]) && decide (bs = bs)) = bb at hq HR
      go_enter Try.func39, Try.ntmps39
      go_wp2_with (go_at_call 56; refine (NM.out _ _).mono ?_; rintro e w' ⟨rfl, rfl⟩; first | rw [q1] | rw [q2] | rw [q3] | rw [q4] | rw [q5] | rw [q6])
      go_ret
      exact ⟨by rw [HR.out]; rfl, BY.out _ _⟩
    · have HR := Lib.hid (HK4.out (HL4.out (by omega) rfl) ((numMay_iff a6).2 (by omega)) ((numMay_iff a4).2 (by omega)))
      have q1 := (numMay_iff a1).2 h3; clear h3
      have q2 := (numMay_iff a2).2 h4; clear h4
      have q3 := (numMay_iff a3).2 h5; clear h5
      have q4 := (numMay_iff a4).2 h6; clear h6
      have q5 := (numMay_iff a5).2 h7; clear h7
      have q6 := (numMay_iff a6).2 h8; clear h8
      clear HALL HKIND HK0 HL0 HK1 HL1 HK2 HL2 HK3 HL3 HK4 HL4
      have hq := run_eqlPacket 4 a1 a2 a3 a4 a5 a6 a7 4 0 0 0 a4 0 a6 0 bs ⟨#[]⟩
      have hg := guard56
      generalize packetS.may [4, a1, a2, a3, a4, a5, a6, a7] d = M at HR ⊢
      generalize (decide ([4, a1, a2, a3, a4, a5, a6, a7] = [4, 0, 0, 0, a4, 0, a6, 0]) && decide (bs = ⟨#[]⟩)) = bb at hq HR
      go_enter Try.func39, Try.ntmps39
      go_wp2_with (go_at_call 56; refine (NM.out _ _).mono ?_; rintro e w' ⟨rfl, rfl⟩; first | rw [q1] | rw [q2] | rw [q3] | rw [q4] | rw [q5] | rw [q6])
      go_ret
      exact ⟨by rw [HR.out]; rfl, BY.out _ _⟩
    · have HR : Hid (packetS.may [k, a1, a2, a3, a4, a5, a6, a7] d = false) := Lib.hid (by cases e : packetS.may [k, a1, a2, a3, a4, a5, a6, a7] d; rfl; exact absurd (HKIND.out e).1 (by omega))
      have q1 := (numMay_iff a1).2 h3; clear h3
      have q2 := (numMay_iff a2).2 h4; clear h4
      have q3 := (numMay_iff a3).2 h5; clear h5
      have q4 := (numMay_iff a4).2 h6; clear h6
      have q5 := (numMay_iff a5).2 h7; clear h7
      have q6 := (numMay_iff a6).2 h8; clear h8
      clear HALL HKIND HK0 HL0 HK1 HL1 HK2 HL2 HK3 HL3 HK4 HL4
      have e0 := bne_of k 0 g0; have e1 := bne_of k 1 g1; have e2 := bne_of k 2 g2; have e3 := bne_of k 3 g3; have e4 := bne_of k 4 g4
      clear g0 g1 g2 g3 g4
      generalize packetS.may [k, a1, a2, a3, a4, a5, a6, a7] d = M at HR ⊢
      go_enter Try.func39, Try.ntmps39
      go_wp2_with (go_at_call 56; refine (NM.out _ _).mono ?_; rintro e w' ⟨rfl, rfl⟩; first | rw [q1] | rw [q2] | rw [q3] | rw [q4] | rw [q5] | rw [q6])
      go_ret
      exact ⟨by rw [HR.out]; rfl, BY.out _ _⟩
end Go.Proofs.Ythkbeigimdgamaa
