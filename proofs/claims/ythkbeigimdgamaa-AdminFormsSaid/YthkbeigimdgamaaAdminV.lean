/- AdminForms -/
import Derived.Test.YthkbeigimdgamaaAdminB2
import Derived.Test.YthkbeigimdgamaaAdminF
import Derived.Test.YthkbeigimdgamaaL
import Derived.Laws.BitsLemmas
import Derived.IntWalk
import Derived.Deep.RegionWith
import Derived.Deep.DeepCutAuto
import Derived.Outline
namespace Go.Proofs.Ythkbeigimdgamaa
open Go Go.RowKit

theorem admin_and_mask (x : Int) (k : Nat) (hk : k < 63) : ∃ m : Nat, bits .and .i64 x ((2 ^ k - 1 : Nat) : Int) = (m : Int) ∧ m ≤ 2 ^ k - 1 := by
  have hp : 2 ^ k < 2 ^ 63 := Nat.pow_lt_pow_right (by omega) hk
  refine ⟨(BitVec.ofInt 64 x).toNat &&& (2 ^ k - 1), ?_, Nat.and_le_right⟩
  show IntKind.i64.wrap ((BitVec.ofInt 64 x &&& BitVec.ofInt 64 ((2 ^ k - 1 : Nat) : Int)).toNat : Int) = _
  have h1 : (BitVec.ofInt 64 ((2 ^ k - 1 : Nat) : Int)).toNat = 2 ^ k - 1 := by
    rw [BitVec.ofInt_natCast, BitVec.toNat_ofNat]
    exact Nat.mod_eq_of_lt (by omega)
  rw [BitVec.toNat_and, h1, IntKind.wrap_i64]
  have h2 : (BitVec.ofInt 64 x).toNat &&& (2 ^ k - 1) ≤ 2 ^ k - 1 := Nat.and_le_right
  omega

theorem adminBad0 (d : Int) (h1 : 1 ≤ d) (h2 : d ≤ 1024) : adminS.may [-d, 0, 0, 0, 0, 0] [] = false := by
  cases e : adminS.may [-d, 0, 0, 0, 0, 0] []
  · rfl
  · exfalso
    have h1 := (adminMay_kind (-d) (0) (0) (0) (0) (0) e).1
    omega
theorem adminBad1 (d : Int) (h1 : 1 ≤ d) (h2 : d ≤ 1024) : adminS.may [4 + d, 0, 0, 0, 0, 0] [] = false := by
  cases e : adminS.may [4 + d, 0, 0, 0, 0, 0] []
  · rfl
  · exfalso
    have h1 := (adminMay_kind (4 + d) (0) (0) (0) (0) (0) e).1
    omega
theorem adminBad2 (d : Int) (h1 : 1 ≤ d) (h2 : d ≤ 1024) : adminS.may [0, 7 + d, 0, 0, 0, 0] [] = false := by
  cases e : adminS.may [0, 7 + d, 0, 0, 0, 0] []
  · rfl
  · exfalso
    have h1 := adminMay_all (0) (7 + d) (0) (0) (0) (0) e
    have h2 := adminMay_k0 (7 + d) (0) (0) (0) (0) e
    try simp only [numMay_iff] at h2
    omega
theorem adminBad3 (d : Int) (h1 : 1 ≤ d) (h2 : d ≤ 1024) : adminS.may [0, -d, 0, 0, 0, 0] [] = false := by
  cases e : adminS.may [0, -d, 0, 0, 0, 0] []
  · rfl
  · exfalso
    have h1 := adminMay_all (0) (-d) (0) (0) (0) (0) e
    have h2 := adminMay_k0 (-d) (0) (0) (0) (0) e
    try simp only [numMay_iff] at h2
    omega
theorem adminBad4 (d : Int) (h1 : 1 ≤ d) (h2 : d ≤ 1024) : adminS.may [0, 0, -d, 0, 0, 0] [] = false := by
  cases e : adminS.may [0, 0, -d, 0, 0, 0] []
  · rfl
  · exfalso
    have h1 := adminMay_all (0) (0) (-d) (0) (0) (0) e
    have h2 := adminMay_k0 (0) (-d) (0) (0) (0) e
    try simp only [numMay_iff] at h2
    omega
theorem adminBad5 (d : Int) (h1 : 1 ≤ d) (h2 : d ≤ 1024) : adminS.may [0, 0, 0, 1073741823 + d, 0, 0] [] = false := by
  cases e : adminS.may [0, 0, 0, 1073741823 + d, 0, 0] []
  · rfl
  · exfalso
    have h1 := adminMay_all (0) (0) (0) (1073741823 + d) (0) (0) e
    have h2 := adminMay_k0 (0) (0) (1073741823 + d) (0) (0) e
    try simp only [numMay_iff] at h2
    omega
theorem adminBad6 (d : Int) (h1 : 1 ≤ d) (h2 : d ≤ 1024) : adminS.may [0, 0, 0, 0, 1048576 + d, 0] [] = false := by
  cases e : adminS.may [0, 0, 0, 0, 1048576 + d, 0] []
  · rfl
  · exfalso
    have h1 := adminMay_all (0) (0) (0) (0) (1048576 + d) (0) e
    have h2 := adminMay_k0 (0) (0) (0) (1048576 + d) (0) e
    try simp only [numMay_iff] at h2
    omega
theorem adminBad7 (d : Int) (h1 : 1 ≤ d) (h2 : d ≤ 1024) : adminS.may [0, 0, 0, 0, -d, 0] [] = false := by
  cases e : adminS.may [0, 0, 0, 0, -d, 0] []
  · rfl
  · exfalso
    have h1 := adminMay_all (0) (0) (0) (0) (-d) (0) e
    have h2 := adminMay_k0 (0) (0) (0) (-d) (0) e
    try simp only [numMay_iff] at h2
    omega
theorem adminBad8 (d : Int) (h1 : 1 ≤ d) (h2 : d ≤ 1024) : adminS.may [0, 0, 0, 0, 0, d] [] = false := by
  cases e : adminS.may [0, 0, 0, 0, 0, d] []
  · rfl
  · exfalso
    have h1 := adminMay_all (0) (0) (0) (0) (0) (d) e
    have h2 := adminMay_k0 (0) (0) (0) (0) (d) e
    try simp only [numMay_iff] at h2
    omega
theorem adminBad9 (d : Int) (h1 : 1 ≤ d) (h2 : d ≤ 1024) : adminS.may [1, 0, d, 0, 0, 0] [] = false := by
  cases e : adminS.may [1, 0, d, 0, 0, 0] []
  · rfl
  · exfalso
    have h1 := adminMay_all (1) (0) (d) (0) (0) (0) e
    have h2 := adminMay_k1 (0) (d) (0) (0) (0) e
    try simp only [numMay_iff] at h2
    omega
theorem adminBad10 (d : Int) (h1 : 1 ≤ d) (h2 : d ≤ 1024) : adminS.may [1, 7 + d, 0, 0, 0, 0] [] = false := by
  cases e : adminS.may [1, 7 + d, 0, 0, 0, 0] []
  · rfl
  · exfalso
    have h1 := adminMay_all (1) (7 + d) (0) (0) (0) (0) e
    have h2 := adminMay_k1 (7 + d) (0) (0) (0) (0) e
    try simp only [numMay_iff] at h2
    omega
theorem adminBad11 (d : Int) (h1 : 1 ≤ d) (h2 : d ≤ 1024) : adminS.may [2, 0, 0, 0, d, 0] [] = false := by
  cases e : adminS.may [2, 0, 0, 0, d, 0] []
  · rfl
  · exfalso
    have h1 := adminMay_all (2) (0) (0) (0) (d) (0) e
    have h2 := adminMay_k2 (0) (0) (0) (d) (0) e
    try simp only [numMay_iff] at h2
    omega
theorem adminBad12 (d : Int) (h1 : 1 ≤ d) (h2 : d ≤ 1024) : adminS.may [3, 0, 0, 0, 0, d] [] = false := by
  cases e : adminS.may [3, 0, 0, 0, 0, d] []
  · rfl
  · exfalso
    have h1 := adminMay_all (3) (0) (0) (0) (0) (d) e
    have h2 := adminMay_k3 (0) (0) (0) (0) (d) e
    try simp only [numMay_iff] at h2
    omega
theorem adminBad13 (d : Int) (h1 : 1 ≤ d) (h2 : d ≤ 1024) : adminS.may [4, 0, 0, d, 0, 0] [] = false := by
  cases e : adminS.may [4, 0, 0, d, 0, 0] []
  · rfl
  · exfalso
    have h1 := adminMay_all (4) (0) (0) (d) (0) (0) e
    have h2 := adminMay_k4 (0) (0) (d) (0) (0) e
    try simp only [numMay_iff] at h2
    omega
theorem adminBad14 (d : Int) (h1 : 1 ≤ d) (h2 : d ≤ 1024) : adminS.may [4, 0, 0, 0, 0, -d] [] = false := by
  cases e : adminS.may [4, 0, 0, 0, 0, -d] []
  · rfl
  · exfalso
    have h1 := adminMay_all (4) (0) (0) (0) (0) (-d) e
    have h2 := adminMay_k4 (0) (0) (0) (0) (-d) e
    try simp only [numMay_iff] at h2
    omega
theorem adminGood0 : adminS.may [0, 7, 1073741823, 1073741823, 1048576, 0] [] = true := by decide
theorem adminGood1 : adminS.may [1, 1, 0, 0, 0, 0] [] = true := by decide
theorem adminGood2 : adminS.may [2, 1, 0, 0, 0, 0] [] = true := by decide
theorem adminGood3 : adminS.may [3, 0, 0, 0, 0, 0] [] = true := by decide
theorem adminGood4 : adminS.may [4, 0, 0, 0, 0, 1073741823] [] = true := by decide

def adminBadL (d : Int) : List Value := ([[-d, 0, 0, 0, 0, 0], [4 + d, 0, 0, 0, 0, 0], [0, 7 + d, 0, 0, 0, 0], [0, -d, 0, 0, 0, 0], [0, 0, -d, 0, 0, 0], [0, 0, 0, 1073741823 + d, 0, 0], [0, 0, 0, 0, 1048576 + d, 0], [0, 0, 0, 0, -d, 0], [0, 0, 0, 0, 0, d], [1, 0, d, 0, 0, 0], [1, 7 + d, 0, 0, 0, 0], [2, 0, 0, 0, d, 0], [3, 0, 0, 0, 0, d], [4, 0, 0, d, 0, 0], [4, 0, 0, 0, 0, -d]] : List (List Int)).flatMap fun r => recL r []
theorem adminBads (w wB : World) (A : Array Value) (hW : w.alloc (.cells A 23) = wB) (d : Int) (h1 : 1 ≤ d) (h2 : d ≤ 1024) (hA : A.toList = adminBadL d) (q : Nat) (hq : q < 15) : ∃ p0 p1 p2 p3 p4 p5 : Int, (wB.cell? ⟨w.heap.size, q * 6, none⟩ = some (.int .i64 p0) ∧ wB.cell? ⟨w.heap.size, q * 6 + 1, none⟩ = some (.int .i64 p1) ∧ wB.cell? ⟨w.heap.size, q * 6 + 2, none⟩ = some (.int .i64 p2) ∧ wB.cell? ⟨w.heap.size, q * 6 + 3, none⟩ = some (.int .i64 p3) ∧ wB.cell? ⟨w.heap.size, q * 6 + 4, none⟩ = some (.int .i64 p4) ∧ wB.cell? ⟨w.heap.size, q * 6 + 5, none⟩ = some (.int .i64 p5)) ∧ adminS.may [p0, p1, p2, p3, p4, p5] [] = false ∧ Below w.heap.size w wB := by
  have hb : Below w.heap.size w wB := by rw [← hW]; exact (Below.refl _ _).alloc (Nat.le_refl _) _
  have hc : q = 0 ∨ q = 1 ∨ q = 2 ∨ q = 3 ∨ q = 4 ∨ q = 5 ∨ q = 6 ∨ q = 7 ∨ q = 8 ∨ q = 9 ∨ q = 10 ∨ q = 11 ∨ q = 12 ∨ q = 13 ∨ q = 14 := by omega
  have hg : ∀ i v, (adminBadL d)[i]? = some v → wB.cell? ⟨w.heap.size, i, none⟩ = some v := fun i v h => by
    rw [← hW]
    exact (World.cell?_alloc_mark _ _ _ _ _).trans (by rw [← Array.getElem?_toList, hA]; exact h)
  rcases hc with rfl | rfl | rfl | rfl | rfl | rfl | rfl | rfl | rfl | rfl | rfl | rfl | rfl | rfl | rfl
  · exact ⟨-d, 0, 0, 0, 0, 0, ⟨hg _ _ rfl, hg _ _ rfl, hg _ _ rfl, hg _ _ rfl, hg _ _ rfl, hg _ _ rfl⟩, adminBad0 d h1 h2, hb⟩
  · exact ⟨4 + d, 0, 0, 0, 0, 0, ⟨hg _ _ rfl, hg _ _ rfl, hg _ _ rfl, hg _ _ rfl, hg _ _ rfl, hg _ _ rfl⟩, adminBad1 d h1 h2, hb⟩
  · exact ⟨0, 7 + d, 0, 0, 0, 0, ⟨hg _ _ rfl, hg _ _ rfl, hg _ _ rfl, hg _ _ rfl, hg _ _ rfl, hg _ _ rfl⟩, adminBad2 d h1 h2, hb⟩
  · exact ⟨0, -d, 0, 0, 0, 0, ⟨hg _ _ rfl, hg _ _ rfl, hg _ _ rfl, hg _ _ rfl, hg _ _ rfl, hg _ _ rfl⟩, adminBad3 d h1 h2, hb⟩
  · exact ⟨0, 0, -d, 0, 0, 0, ⟨hg _ _ rfl, hg _ _ rfl, hg _ _ rfl, hg _ _ rfl, hg _ _ rfl, hg _ _ rfl⟩, adminBad4 d h1 h2, hb⟩
  · exact ⟨0, 0, 0, 1073741823 + d, 0, 0, ⟨hg _ _ rfl, hg _ _ rfl, hg _ _ rfl, hg _ _ rfl, hg _ _ rfl, hg _ _ rfl⟩, adminBad5 d h1 h2, hb⟩
  · exact ⟨0, 0, 0, 0, 1048576 + d, 0, ⟨hg _ _ rfl, hg _ _ rfl, hg _ _ rfl, hg _ _ rfl, hg _ _ rfl, hg _ _ rfl⟩, adminBad6 d h1 h2, hb⟩
  · exact ⟨0, 0, 0, 0, -d, 0, ⟨hg _ _ rfl, hg _ _ rfl, hg _ _ rfl, hg _ _ rfl, hg _ _ rfl, hg _ _ rfl⟩, adminBad7 d h1 h2, hb⟩
  · exact ⟨0, 0, 0, 0, 0, d, ⟨hg _ _ rfl, hg _ _ rfl, hg _ _ rfl, hg _ _ rfl, hg _ _ rfl, hg _ _ rfl⟩, adminBad8 d h1 h2, hb⟩
  · exact ⟨1, 0, d, 0, 0, 0, ⟨hg _ _ rfl, hg _ _ rfl, hg _ _ rfl, hg _ _ rfl, hg _ _ rfl, hg _ _ rfl⟩, adminBad9 d h1 h2, hb⟩
  · exact ⟨1, 7 + d, 0, 0, 0, 0, ⟨hg _ _ rfl, hg _ _ rfl, hg _ _ rfl, hg _ _ rfl, hg _ _ rfl, hg _ _ rfl⟩, adminBad10 d h1 h2, hb⟩
  · exact ⟨2, 0, 0, 0, d, 0, ⟨hg _ _ rfl, hg _ _ rfl, hg _ _ rfl, hg _ _ rfl, hg _ _ rfl, hg _ _ rfl⟩, adminBad11 d h1 h2, hb⟩
  · exact ⟨3, 0, 0, 0, 0, d, ⟨hg _ _ rfl, hg _ _ rfl, hg _ _ rfl, hg _ _ rfl, hg _ _ rfl, hg _ _ rfl⟩, adminBad12 d h1 h2, hb⟩
  · exact ⟨4, 0, 0, d, 0, 0, ⟨hg _ _ rfl, hg _ _ rfl, hg _ _ rfl, hg _ _ rfl, hg _ _ rfl, hg _ _ rfl⟩, adminBad13 d h1 h2, hb⟩
  · exact ⟨4, 0, 0, 0, 0, -d, ⟨hg _ _ rfl, hg _ _ rfl, hg _ _ rfl, hg _ _ rfl, hg _ _ rfl, hg _ _ rfl⟩, adminBad14 d h1 h2, hb⟩

def adminGoodL  : List Value := ([[0, 7, 1073741823, 1073741823, 1048576, 0], [1, 1, 0, 0, 0, 0], [2, 1, 0, 0, 0, 0], [3, 0, 0, 0, 0, 0], [4, 0, 0, 0, 0, 1073741823]] : List (List Int)).flatMap fun r => recL r []
theorem adminGoods (w wB : World) (A : Array Value) (hW : w.alloc (.cells A 23) = wB)  (hA : A.toList = adminGoodL) (q : Nat) (hq : q < 5) : ∃ g0 g1 g2 g3 g4 g5 : Int, (wB.cell? ⟨w.heap.size, q * 6, none⟩ = some (.int .i64 g0) ∧ wB.cell? ⟨w.heap.size, q * 6 + 1, none⟩ = some (.int .i64 g1) ∧ wB.cell? ⟨w.heap.size, q * 6 + 2, none⟩ = some (.int .i64 g2) ∧ wB.cell? ⟨w.heap.size, q * 6 + 3, none⟩ = some (.int .i64 g3) ∧ wB.cell? ⟨w.heap.size, q * 6 + 4, none⟩ = some (.int .i64 g4) ∧ wB.cell? ⟨w.heap.size, q * 6 + 5, none⟩ = some (.int .i64 g5)) ∧ adminS.may [g0, g1, g2, g3, g4, g5] [] = true ∧ Below w.heap.size w wB := by
  have hb : Below w.heap.size w wB := by rw [← hW]; exact (Below.refl _ _).alloc (Nat.le_refl _) _
  have hc : q = 0 ∨ q = 1 ∨ q = 2 ∨ q = 3 ∨ q = 4 := by omega
  have hg : ∀ i v, (adminGoodL)[i]? = some v → wB.cell? ⟨w.heap.size, i, none⟩ = some v := fun i v h => by
    rw [← hW]
    exact (World.cell?_alloc_mark _ _ _ _ _).trans (by rw [← Array.getElem?_toList, hA]; exact h)
  rcases hc with rfl | rfl | rfl | rfl | rfl
  · exact ⟨0, 7, 1073741823, 1073741823, 1048576, 0, ⟨hg _ _ rfl, hg _ _ rfl, hg _ _ rfl, hg _ _ rfl, hg _ _ rfl, hg _ _ rfl⟩, adminGood0, hb⟩
  · exact ⟨1, 1, 0, 0, 0, 0, ⟨hg _ _ rfl, hg _ _ rfl, hg _ _ rfl, hg _ _ rfl, hg _ _ rfl, hg _ _ rfl⟩, adminGood1, hb⟩
  · exact ⟨2, 1, 0, 0, 0, 0, ⟨hg _ _ rfl, hg _ _ rfl, hg _ _ rfl, hg _ _ rfl, hg _ _ rfl, hg _ _ rfl⟩, adminGood2, hb⟩
  · exact ⟨3, 0, 0, 0, 0, 0, ⟨hg _ _ rfl, hg _ _ rfl, hg _ _ rfl, hg _ _ rfl, hg _ _ rfl, hg _ _ rfl⟩, adminGood3, hb⟩
  · exact ⟨4, 0, 0, 0, 0, 1073741823, ⟨hg _ _ rfl, hg _ _ rfl, hg _ _ rfl, hg _ _ rfl, hg _ _ rfl, hg _ _ rfl⟩, adminGood4, hb⟩

set_option maxRecDepth 100000 in
set_option maxHeartbeats 25600000 in
theorem adminForms_walk (which x : Int) (w : World) : Calls Try.prog 6 #[.int .i64 which, .int .i64 x] w fun e w' => e = .returned (.bool true) ∧ Below w.heap.size w w' := by
  obtain ⟨m, hm0, hm1⟩ := admin_and_mask x 10 (by omega)
  simp only [Nat.reducePow, Nat.reduceSub] at hm1
  have hm : bits .and .i64 x 1023 = (m : Int) := hm0
  clear hm0
  obtain ⟨q, hq0, hq1⟩ : ∃ q : Nat, (IntKind.u64.wrap which).tmod 15 = (q : Int) ∧ q < 15 := by
    have h0 : 0 ≤ IntKind.u64.wrap which := by rw [IntKind.wrap_u64]; omega
    refine ⟨((IntKind.u64.wrap which).tmod 15).toNat, ?_, ?_⟩
    · rw [Int.tmod_eq_emod_of_nonneg h0]; omega
    · rw [Int.tmod_eq_emod_of_nonneg h0]; omega
  have HQ := Lib.hid hq0
  clear hq0
  have AWK := Lib.hid adminAwake_any
  go_enter Try.func6, Try.ntmps6
  go_wp2_with fail
  refine (AWK.out _).mono ?_
  rintro e w1 ⟨rfl, b⟩
  have B1 := Lib.hid b
  clear b
  go_upto_region 4 with (fail)
  obtain ⟨d, hd⟩ : ∃ d : Int, d = 1 + (m : Int) := ⟨_, rfl⟩
  have hd1 : 1 ≤ d := by omega
  have hd2 : d ≤ 1024 := by omega
  rw [← hd]
  clear hd hm hm1
  go_upto_region 5 with (fail)
  generalize hW : w1.alloc (.cells _ 23) = wB
  obtain ⟨p0, p1, p2, p3, p4, p5, ⟨c0, c1, c2, c3, c4, c5⟩, hmp, hbb⟩ := adminBads w1 wB _ hW d hd1 hd2 rfl q hq1
  have BB := Lib.hid (B1.out.trans (hbb.mono B1.out.size))
  have HMP := Lib.hid hmp
  clear hW hbb B1 hmp
  have hq0 := HQ.out
  clear HQ
  go_wp2_with fail
  have hP := fun w => adminPut_any p0 p1 p2 p3 p4 p5 w
  have hMP := fun w => adminMay_any p0 p1 p2 p3 p4 p5 w
  rw [Sp.put, HMP.out, if_neg (by decide), show formE false 600 = 600 from rfl] at hP
  rw [HMP.out] at hMP
  replace hP : ∀ w, Calls Try.prog 19 #[.agg #[.int .i64 p0, .int .i64 p1, .int .i64 p2, .int .i64 p3, .int .i64 p4, .int .i64 p5]] w fun e w' => e = .returned (.tuple #[.string ⟨#[]⟩, .int .i64 600]) ∧ Below w.heap.size w w' := hP
  replace hMP : ∀ w, Calls Try.prog 24 #[.agg #[.int .i64 p0, .int .i64 p1, .int .i64 p2, .int .i64 p3, .int .i64 p4, .int .i64 p5]] w fun e w' => e = .returned (.bool false) ∧ Below w.heap.size w w' := hMP
  have PC := Lib.hid hP
  have MC := Lib.hid hMP
  have RP := Lib.hid (show Rec (wB.alloc (.cells #[.int .i64 p0, .int .i64 p1, .int .i64 p2, .int .i64 p3, .int .i64 p4, .int .i64 p5] 23)) wB.heap.size [p0, p1, p2, p3, p4, p5] [] from rec_new wB [p0, p1, p2, p3, p4, p5] [] 23)
  have B2 := Lib.hid (show Below w.heap.size w (wB.alloc (.cells #[.int .i64 p0, .int .i64 p1, .int .i64 p2, .int .i64 p3, .int .i64 p4, .int .i64 p5] 23)) from BB.out.alloc BB.out.size _)
  clear hP hMP HMP BB hq0 c0 c1 c2 c3 c4 c5 hq1 hd1 hd2
  refine (PC.out _).mono ?_
  rintro e w3 ⟨rfl, b⟩
  have RP3 := Lib.hid (RP.out.below b)
  have B3 := Lib.hid (B2.out.trans (b.mono B2.out.size))
  clear b RP B2 PC
  go_upto_region 8 with (fail)
  generalize hW : w3.alloc (.cells _ 23) = wG
  have HG := Lib.hid (adminGoods w3 wG _ hW rfl)
  have hbb : Below w3.heap.size w3 wG := by rw [← hW]; exact (Below.refl _ _).alloc (Nat.le_refl _) _
  have RP4 := Lib.hid (RP3.out.below hbb)
  have B4 := Lib.hid (B3.out.trans (hbb.mono B3.out.size))
  clear hW hbb RP3 B3
  generalize w3.heap.size = bg at HG ⊢
  go_wp2_with fail
  go_loopg [11] 6 (fun gg s11 wr => ∃ i : Nat, i ≤ 5 ∧ 5 - i < gg ∧ s11 = .int .i64 i ∧ Aside (Below wG.heap.size wG wr))
  case atStart => exact ⟨0, by omega, by omega, rfl, Below.refl _ _⟩
  case round =>
    obtain ⟨i, hi, hig, rfl, AB⟩ := hrel
    by_cases h : i < 5
    · have hii : (i : Int) < 5 := by omega
      obtain ⟨g0, g1, g2, g3, g4, g5, ⟨c0, c1, c2, c3, c4, c5⟩, hmg, _⟩ := HG.out i h
      have PG := fun w => adminPut_any g0 g1 g2 g3 g4 g5 w
      have MG := fun w => adminMay_any g0 g1 g2 g3 g4 g5 w
      have hub := adminEnc_le g0 g1 g2 g3 g4 g5 hmg
      have GG := fun w => adminGet_any (adminS.enc [g0, g1, g2, g3, g4, g5] []) (by omega) w
      obtain ⟨k1, k2, k3⟩ := adminS.ok_fwd [g0, g1, g2, g3, g4, g5] [] rfl hmg
      rw [show adminS.getC (adminS.enc [g0, g1, g2, g3, g4, g5] []) = [g0, g1, g2, g3, g4, g5] from by rw [Sp.getC, k1, if_pos rfl, k2], k1] at GG
      rw [Sp.put, hmg, if_pos rfl, show formE true 600 = 0 from rfl] at PG
      rw [hmg] at MG
      generalize adminS.enc [g0, g1, g2, g3, g4, g5] [] = E at PG GG
      have hneq : ∀ w, (binOp .neq 23 (.agg #[.int .i64 g0, .int .i64 g1, .int .i64 g2, .int .i64 g3, .int .i64 g4, .int .i64 g5]) (.agg #[.int .i64 g0, .int .i64 g1, .int .i64 g2, .int .i64 g3, .int .i64 g4, .int .i64 g5])).run Try.prog w = .ok (.bool false) w := fun w => adminNeqOf _ _ true w (by rw [run_eqlAdmin, decide_eq_true (rfl : [g0, g1, g2, g3, g4, g5] = [g0, g1, g2, g3, g4, g5])]) ⟨_, rfl⟩ ⟨_, rfl⟩
      have hg := guard23
      replace PG : ∀ w, Calls Try.prog 19 #[.agg #[.int .i64 g0, .int .i64 g1, .int .i64 g2, .int .i64 g3, .int .i64 g4, .int .i64 g5]] w fun e w' => e = .returned (.tuple #[.string ⟨E.toArray⟩, .int .i64 0]) ∧ Below w.heap.size w w' := PG
      replace MG : ∀ w, Calls Try.prog 24 #[.agg #[.int .i64 g0, .int .i64 g1, .int .i64 g2, .int .i64 g3, .int .i64 g4, .int .i64 g5]] w fun e w' => e = .returned (.bool true) ∧ Below w.heap.size w w' := MG
      replace GG : ∀ w, Calls Try.prog 21 #[.string ⟨E.toArray⟩] w fun e w' => e = .returned (.tuple #[.agg #[.int .i64 g0, .int .i64 g1, .int .i64 g2, .int .i64 g3, .int .i64 g4, .int .i64 g5], .int .i64 0]) ∧ Below w.heap.size w w' := GG
      generalize (⟨E.toArray⟩ : ByteArray) = es at PG GG
      have PGH := Lib.hid PG
      have MGH := Lib.hid MG
      have GGH := Lib.hid GG
      clear PG MG GG hub hmg k1 k2 k3
      replace c0 := keep_cell c0 AB.out
      replace c1 := keep_cell c1 AB.out
      replace c2 := keep_cell c2 AB.out
      replace c3 := keep_cell c3 AB.out
      replace c4 := keep_cell c4 AB.out
      replace c5 := keep_cell c5 AB.out
      have BR := Lib.hid AB.out
      have HI := Lib.hid (show i ≤ 5 ∧ 5 - i < gk from ⟨hi, hig⟩)
      clear AB hi hig
      go_wp2_with fail
      refine (PGH.out _).mono ?_
      rintro e w5 ⟨rfl, b⟩
      replace c0 := keep_cell c0 b
      replace c1 := keep_cell c1 b
      replace c2 := keep_cell c2 b
      replace c3 := keep_cell c3 b
      replace c4 := keep_cell c4 b
      replace c5 := keep_cell c5 b
      have BR5 := Lib.hid (BR.out.trans (b.mono BR.out.size))
      clear b BR
      go_wp2_with fail
      refine (GGH.out _).mono ?_
      rintro e w6 ⟨rfl, b⟩
      replace c0 : (w6.alloc (.cells #[.int .i64 g0, .int .i64 g1, .int .i64 g2, .int .i64 g3, .int .i64 g4, .int .i64 g5] 23)).cell? ⟨bg, i * 6, none⟩ = some (.int .i64 g0) := keep_cell (keep_cell c0 b) ((Below.refl _ _).alloc (Nat.le_refl _) _)
      replace c1 : (w6.alloc (.cells #[.int .i64 g0, .int .i64 g1, .int .i64 g2, .int .i64 g3, .int .i64 g4, .int .i64 g5] 23)).cell? ⟨bg, i * 6 + 1, none⟩ = some (.int .i64 g1) := keep_cell (keep_cell c1 b) ((Below.refl _ _).alloc (Nat.le_refl _) _)
      replace c2 : (w6.alloc (.cells #[.int .i64 g0, .int .i64 g1, .int .i64 g2, .int .i64 g3, .int .i64 g4, .int .i64 g5] 23)).cell? ⟨bg, i * 6 + 2, none⟩ = some (.int .i64 g2) := keep_cell (keep_cell c2 b) ((Below.refl _ _).alloc (Nat.le_refl _) _)
      replace c3 : (w6.alloc (.cells #[.int .i64 g0, .int .i64 g1, .int .i64 g2, .int .i64 g3, .int .i64 g4, .int .i64 g5] 23)).cell? ⟨bg, i * 6 + 3, none⟩ = some (.int .i64 g3) := keep_cell (keep_cell c3 b) ((Below.refl _ _).alloc (Nat.le_refl _) _)
      replace c4 : (w6.alloc (.cells #[.int .i64 g0, .int .i64 g1, .int .i64 g2, .int .i64 g3, .int .i64 g4, .int .i64 g5] 23)).cell? ⟨bg, i * 6 + 4, none⟩ = some (.int .i64 g4) := keep_cell (keep_cell c4 b) ((Below.refl _ _).alloc (Nat.le_refl _) _)
      replace c5 : (w6.alloc (.cells #[.int .i64 g0, .int .i64 g1, .int .i64 g2, .int .i64 g3, .int .i64 g4, .int .i64 g5] 23)).cell? ⟨bg, i * 6 + 5, none⟩ = some (.int .i64 g5) := keep_cell (keep_cell c5 b) ((Below.refl _ _).alloc (Nat.le_refl _) _)
      have RY := Lib.hid (show Rec (w6.alloc (.cells #[.int .i64 g0, .int .i64 g1, .int .i64 g2, .int .i64 g3, .int .i64 g4, .int .i64 g5] 23)) w6.heap.size [g0, g1, g2, g3, g4, g5] [] from rec_new w6 [g0, g1, g2, g3, g4, g5] [] 23)
      have BR6 := Lib.hid (show Below wG.heap.size wG (w6.alloc (.cells #[.int .i64 g0, .int .i64 g1, .int .i64 g2, .int .i64 g3, .int .i64 g4, .int .i64 g5] 23)) from (BR5.out.trans (b.mono BR5.out.size)).alloc (BR5.out.trans (b.mono BR5.out.size)).size _)
      clear b BR5
      go_upto_region 13 with (fail)
      generalize w6.alloc (.cells #[.int .i64 g0, .int .i64 g1, .int .i64 g2, .int .i64 g3, .int .i64 g4, .int .i64 g5] 23) = w7 at BR6 RY c0 c1 c2 c3 c4 c5 ⊢
      generalize w6.heap.size = by_ at RY ⊢
      have y0 : w7.cell? ⟨by_, 0, none⟩ = some (.int .i64 g0) := RY.out.1 0 (by simp)
      have y1 : w7.cell? ⟨by_, 1, none⟩ = some (.int .i64 g1) := RY.out.1 1 (by simp)
      have y2 : w7.cell? ⟨by_, 2, none⟩ = some (.int .i64 g2) := RY.out.1 2 (by simp)
      have y3 : w7.cell? ⟨by_, 3, none⟩ = some (.int .i64 g3) := RY.out.1 3 (by simp)
      have y4 : w7.cell? ⟨by_, 4, none⟩ = some (.int .i64 g4) := RY.out.1 4 (by simp)
      have y5 : w7.cell? ⟨by_, 5, none⟩ = some (.int .i64 g5) := RY.out.1 5 (by simp)
      clear RY
      first
      | go_region_with (first
          | (go_at_call 23; refine (num_any _ _).mono ?_; rintro e w' ⟨rfl, rfl⟩)
          | (go_at_call 24; refine (MGH.out _).mono ?_; rintro e w' ⟨rfl, b⟩; (have c0 := keep_b b c0); (have c1 := keep_b b c1); (have c2 := keep_b b c2); (have c3 := keep_b b c3); (have c4 := keep_b b c4); (have c5 := keep_b b c5); (have y0 := keep_b b y0); (have y1 := keep_b b y1); (have y2 := keep_b b y2); (have y3 := keep_b b y3); (have y4 := keep_b b y4); (have y5 := keep_b b y5)))
      | fail "the region"
      all_goals
        go_wp2
        go_roundg (5 - i)
        case measure => exact HI.out.2
        case rel => exact ⟨i + 1, by have := HI.out; omega, by have := HI.out; omega, by go_num, bel_next BR6.out.drew (by assumption)⟩
    · have hii : ¬ (i : Int) < 5 := by omega
      have RP5 := Lib.hid (RP4.out.below AB.out)
      have B5 := Lib.hid (B4.out.trans (AB.out.mono B4.out.size))
      have x0 : wr.cell? ⟨wB.heap.size, 0, none⟩ = some (.int .i64 p0) := RP5.out.1 0 (by simp)
      have x1 : wr.cell? ⟨wB.heap.size, 1, none⟩ = some (.int .i64 p1) := RP5.out.1 1 (by simp)
      have x2 : wr.cell? ⟨wB.heap.size, 2, none⟩ = some (.int .i64 p2) := RP5.out.1 2 (by simp)
      have x3 : wr.cell? ⟨wB.heap.size, 3, none⟩ = some (.int .i64 p3) := RP5.out.1 3 (by simp)
      have x4 : wr.cell? ⟨wB.heap.size, 4, none⟩ = some (.int .i64 p4) := RP5.out.1 4 (by simp)
      have x5 : wr.cell? ⟨wB.heap.size, 5, none⟩ = some (.int .i64 p5) := RP5.out.1 5 (by simp)
      clear AB RP4 B4 hi hig
      go_wp2_with fail
      refine (MC.out _).mono ?_
      rintro e w8 ⟨rfl, b⟩
      have B8 := Lib.hid (B5.out.trans (b.mono B5.out.size))
      clear b
      go_wp2_with (first | (go_at_call 23; refine (num_any _ _).mono ?_; rintro e w' ⟨rfl, rfl⟩))
      go_ret
      exact ⟨rfl, B8.out⟩
end Go.Proofs.Ythkbeigimdgamaa
