/- PacketForms -/
import Derived.Test.YthkbeigimdgamaaPacketB2
import Derived.Test.YthkbeigimdgamaaPacketF
import Derived.Test.YthkbeigimdgamaaL
import Derived.Laws.BitsLemmas
import Derived.IntWalk
import Derived.Deep.RegionWith
import Derived.Deep.DeepCutAuto
import Derived.Outline
import Derived.Great.BuildSlice
import Derived.KernelRfl
namespace Go.Proofs.Ythkbeigimdgamaa
open Go Go.RowKit

theorem packet_and_mask (x : Int) (k : Nat) (hk : k < 63) : ∃ m : Nat, bits .and .i64 x ((2 ^ k - 1 : Nat) : Int) = (m : Int) ∧ m ≤ 2 ^ k - 1 := by
  have hp : 2 ^ k < 2 ^ 63 := Nat.pow_lt_pow_right (by omega) hk
  refine ⟨(BitVec.ofInt 64 x).toNat &&& (2 ^ k - 1), ?_, Nat.and_le_right⟩
  show IntKind.i64.wrap ((BitVec.ofInt 64 x &&& BitVec.ofInt 64 ((2 ^ k - 1 : Nat) : Int)).toNat : Int) = _
  have h1 : (BitVec.ofInt 64 ((2 ^ k - 1 : Nat) : Int)).toNat = 2 ^ k - 1 := by
    rw [BitVec.ofInt_natCast, BitVec.toNat_ofNat]
    exact Nat.mod_eq_of_lt (by omega)
  rw [BitVec.toNat_and, h1, IntKind.wrap_i64]
  have h2 : (BitVec.ofInt 64 x).toNat &&& (2 ^ k - 1) ≤ 2 ^ k - 1 := Nat.and_le_right
  omega

def packetZ64 : List UInt8 := List.replicate 64 0
theorem packet_zero (n : Nat) (hn : n ≤ 70000) : ∃ zc : Array Value, (∀ w : World, (Instr.makeSlice 67 (.int .i64 n) (.int .i64 n)).run Try.prog w = .ok (.slice (some ⟨w.heap.size, 0, none⟩) n n) (w.alloc (.cells zc 5))) ∧
    ∀ w : World, (convert 67 9 (.slice (some ⟨w.heap.size, 0, none⟩) n n)).run Try.prog (w.alloc (.cells zc 5)) = .ok (.string ⟨(List.replicate n (0 : UInt8)).toArray⟩) (w.alloc (.cells zc 5)) := by
  refine ⟨(bcells (List.replicate n 0)).toArray, fun w => ?_, fun w => ?_⟩
  · obtain ⟨i0, hi, hz0, hz1, hz2⟩ := info_parts Try.info5
    have hr := run_make (P := Try.prog) w 67 5 i0 _ Try.underlying67 hi hz0 .i64 .i64 (n : Int) (n : Int) (by omega) (Int.le_refl _) (by rw [hz2]; omega) (by omega)
    rw [hz1] at hr
    simp only [Int.toNat_natCast] at hr
    have e : madeCells (Value.int .u8 0).cells (n * 1) = (bcells (List.replicate n 0)).toArray := by
      apply Array.ext'
      apply List.ext_getElem
      · simp [madeCells, bcells]
      · intro i h1 h2
        simp [madeCells, bcells, Value.cells, Nat.mod_one]
    rw [e] at hr
    exact hr
  · have h := run_convert_bytes_back (P := Try.prog) (w.alloc (.cells (bcells (List.replicate n 0)).toArray 5)) 67 9 5 ⟨w.heap.size, 0, none⟩ n (List.replicate n 0) Try.underlying67 Try.underlying5 Try.underlying9 (fun j hj => by
      rw [Addr.add_lit, Nat.zero_add]
      refine (World.cell?_alloc_mark w _ _ _ j).trans ?_
      simp at hj
      simp [bcells, hj])
    rw [List.length_replicate] at h
    exact h

theorem packetBad0 (d : Int) (h1 : 1 ≤ d) (h2 : d ≤ 1024) (dz : List UInt8) (hz : (dz.length : Int) = 64 + d) : packetS.may [-d, 0, 0, 0, 0, 0, 0, 0] [] = false := by
  cases e : packetS.may [-d, 0, 0, 0, 0, 0, 0, 0] []
  · rfl
  · exfalso
    have h1 := (packetMay_kind (-d) (0) (0) (0) (0) (0) (0) (0) ([]) e).1
    omega
theorem packetBad1 (d : Int) (h1 : 1 ≤ d) (h2 : d ≤ 1024) (dz : List UInt8) (hz : (dz.length : Int) = 64 + d) : packetS.may [4 + d, 0, 0, 0, 0, 0, 0, 0] [] = false := by
  cases e : packetS.may [4 + d, 0, 0, 0, 0, 0, 0, 0] []
  · rfl
  · exfalso
    have h1 := (packetMay_kind (4 + d) (0) (0) (0) (0) (0) (0) (0) ([]) e).1
    omega
theorem packetBad2 (d : Int) (h1 : 1 ≤ d) (h2 : d ≤ 1024) (dz : List UInt8) (hz : (dz.length : Int) = 64 + d) : packetS.may [0, -d, 0, 0, 0, 0, 0, 0] [] = false := by
  cases e : packetS.may [0, -d, 0, 0, 0, 0, 0, 0] []
  · rfl
  · exfalso
    have h1 := packetMay_all (0) (-d) (0) (0) (0) (0) (0) (0) ([]) e
    have h2 := packetMay_k0 (-d) (0) (0) (0) (0) (0) (0) ([]) e
    try simp only [numMay_iff] at h2
    have h3 := (packetMay_kind (0) (-d) (0) (0) (0) (0) (0) (0) ([]) e).2
    omega
theorem packetBad3 (d : Int) (h1 : 1 ≤ d) (h2 : d ≤ 1024) (dz : List UInt8) (hz : (dz.length : Int) = 64 + d) : packetS.may [0, 1073741823 + d, 0, 0, 0, 0, 0, 0] [] = false := by
  cases e : packetS.may [0, 1073741823 + d, 0, 0, 0, 0, 0, 0] []
  · rfl
  · exfalso
    have h1 := packetMay_all (0) (1073741823 + d) (0) (0) (0) (0) (0) (0) ([]) e
    have h2 := packetMay_k0 (1073741823 + d) (0) (0) (0) (0) (0) (0) ([]) e
    try simp only [numMay_iff] at h2
    have h3 := (packetMay_kind (0) (1073741823 + d) (0) (0) (0) (0) (0) (0) ([]) e).2
    omega
theorem packetBad4 (d : Int) (h1 : 1 ≤ d) (h2 : d ≤ 1024) (dz : List UInt8) (hz : (dz.length : Int) = 64 + d) : packetS.may [0, 0, -d, 0, 0, 0, 0, 0] [] = false := by
  cases e : packetS.may [0, 0, -d, 0, 0, 0, 0, 0] []
  · rfl
  · exfalso
    have h1 := packetMay_all (0) (0) (-d) (0) (0) (0) (0) (0) ([]) e
    have h2 := packetMay_k0 (0) (-d) (0) (0) (0) (0) (0) ([]) e
    try simp only [numMay_iff] at h2
    have h3 := (packetMay_kind (0) (0) (-d) (0) (0) (0) (0) (0) ([]) e).2
    omega
theorem packetBad5 (d : Int) (h1 : 1 ≤ d) (h2 : d ≤ 1024) (dz : List UInt8) (hz : (dz.length : Int) = 64 + d) : packetS.may [0, 0, 0, 0, d, 0, 0, 0] [] = false := by
  cases e : packetS.may [0, 0, 0, 0, d, 0, 0, 0] []
  · rfl
  · exfalso
    have h1 := packetMay_all (0) (0) (0) (0) (d) (0) (0) (0) ([]) e
    have h2 := packetMay_k0 (0) (0) (0) (d) (0) (0) (0) ([]) e
    try simp only [numMay_iff] at h2
    have h3 := (packetMay_kind (0) (0) (0) (0) (d) (0) (0) (0) ([]) e).2
    omega
theorem packetBad6 (d : Int) (h1 : 1 ≤ d) (h2 : d ≤ 1024) (dz : List UInt8) (hz : (dz.length : Int) = 64 + d) : packetS.may [0, 0, 0, d, 0, 0, 0, 0] [] = false := by
  cases e : packetS.may [0, 0, 0, d, 0, 0, 0, 0] []
  · rfl
  · exfalso
    have h1 := packetMay_all (0) (0) (0) (d) (0) (0) (0) (0) ([]) e
    have h2 := packetMay_k0 (0) (0) (d) (0) (0) (0) (0) ([]) e
    try simp only [numMay_iff] at h2
    have h3 := (packetMay_kind (0) (0) (0) (d) (0) (0) (0) (0) ([]) e).2
    omega
theorem packetBad7 (d : Int) (h1 : 1 ≤ d) (h2 : d ≤ 1024) (dz : List UInt8) (hz : (dz.length : Int) = 64 + d) : packetS.may [0, 0, 0, 0, 0, 0, 0, d] [] = false := by
  cases e : packetS.may [0, 0, 0, 0, 0, 0, 0, d] []
  · rfl
  · exfalso
    have h1 := packetMay_all (0) (0) (0) (0) (0) (0) (0) (d) ([]) e
    have h2 := packetMay_k0 (0) (0) (0) (0) (0) (0) (d) ([]) e
    try simp only [numMay_iff] at h2
    have h3 := (packetMay_kind (0) (0) (0) (0) (0) (0) (0) (d) ([]) e).2
    omega
theorem packetBad8 (d : Int) (h1 : 1 ≤ d) (h2 : d ≤ 1024) (dz : List UInt8) (hz : (dz.length : Int) = 64 + d) : packetS.may [0, 0, 0, 0, 0, 0, 0, 0] [120] = false := by
  cases e : packetS.may [0, 0, 0, 0, 0, 0, 0, 0] [120]
  · rfl
  · exfalso
    have h2 := packetMay_k0 (0) (0) (0) (0) (0) (0) (0) ([120]) e
    simp at h2
theorem packetBad9 (d : Int) (h1 : 1 ≤ d) (h2 : d ≤ 1024) (dz : List UInt8) (hz : (dz.length : Int) = 64 + d) : packetS.may [1, d, 0, 0, 0, 0, 0, 0] [] = false := by
  cases e : packetS.may [1, d, 0, 0, 0, 0, 0, 0] []
  · rfl
  · exfalso
    have h1 := packetMay_all (1) (d) (0) (0) (0) (0) (0) (0) ([]) e
    have h2 := packetMay_k1 (d) (0) (0) (0) (0) (0) (0) ([]) e
    try simp only [numMay_iff] at h2
    have h3 := (packetMay_kind (1) (d) (0) (0) (0) (0) (0) (0) ([]) e).2
    omega
theorem packetBad10 (d : Int) (h1 : 1 ≤ d) (h2 : d ≤ 1024) (dz : List UInt8) (hz : (dz.length : Int) = 64 + d) : packetS.may [1, 0, 0, 0, 0, 1073741823 + d, 0, 0] [] = false := by
  cases e : packetS.may [1, 0, 0, 0, 0, 1073741823 + d, 0, 0] []
  · rfl
  · exfalso
    have h1 := packetMay_all (1) (0) (0) (0) (0) (1073741823 + d) (0) (0) ([]) e
    have h2 := packetMay_k1 (0) (0) (0) (0) (1073741823 + d) (0) (0) ([]) e
    try simp only [numMay_iff] at h2
    have h3 := (packetMay_kind (1) (0) (0) (0) (0) (1073741823 + d) (0) (0) ([]) e).2
    omega
theorem packetBad11 (d : Int) (h1 : 1 ≤ d) (h2 : d ≤ 1024) (dz : List UInt8) (hz : (dz.length : Int) = 64 + d) : packetS.may [2, 0, 0, 0, 0, 0, d, 0] [] = false := by
  cases e : packetS.may [2, 0, 0, 0, 0, 0, d, 0] []
  · rfl
  · exfalso
    have h1 := packetMay_all (2) (0) (0) (0) (0) (0) (d) (0) ([]) e
    have h2 := packetMay_k2 (0) (0) (0) (0) (0) (d) (0) ([]) e
    try simp only [numMay_iff] at h2
    have h3 := (packetMay_kind (2) (0) (0) (0) (0) (0) (d) (0) ([]) e).2
    omega
theorem packetBad12 (d : Int) (h1 : 1 ≤ d) (h2 : d ≤ 1024) (dz : List UInt8) (hz : (dz.length : Int) = 64 + d) : packetS.may [2, 0, 0, 0, -d, 0, 0, 0] [] = false := by
  cases e : packetS.may [2, 0, 0, 0, -d, 0, 0, 0] []
  · rfl
  · exfalso
    have h1 := packetMay_all (2) (0) (0) (0) (-d) (0) (0) (0) ([]) e
    have h2 := packetMay_k2 (0) (0) (0) (-d) (0) (0) (0) ([]) e
    try simp only [numMay_iff] at h2
    have h3 := (packetMay_kind (2) (0) (0) (0) (-d) (0) (0) (0) ([]) e).2
    omega
theorem packetBad13 (d : Int) (h1 : 1 ≤ d) (h2 : d ≤ 1024) (dz : List UInt8) (hz : (dz.length : Int) = 64 + d) : packetS.may [3, 0, 0, 0, 0, d, 0, 0] [] = false := by
  cases e : packetS.may [3, 0, 0, 0, 0, d, 0, 0] []
  · rfl
  · exfalso
    have h1 := packetMay_all (3) (0) (0) (0) (0) (d) (0) (0) ([]) e
    have h2 := packetMay_k3 (0) (0) (0) (0) (d) (0) (0) ([]) e
    try simp only [numMay_iff] at h2
    have h3 := (packetMay_kind (3) (0) (0) (0) (0) (d) (0) (0) ([]) e).2
    omega
theorem packetBad14 (d : Int) (h1 : 1 ≤ d) (h2 : d ≤ 1024) (dz : List UInt8) (hz : (dz.length : Int) = 64 + d) : packetS.may [3, 0, 0, 0, 0, 0, 0, 1048575 + d] [] = false := by
  cases e : packetS.may [3, 0, 0, 0, 0, 0, 0, 1048575 + d] []
  · rfl
  · exfalso
    have h1 := packetMay_all (3) (0) (0) (0) (0) (0) (0) (1048575 + d) ([]) e
    have h2 := packetMay_k3 (0) (0) (0) (0) (0) (0) (1048575 + d) ([]) e
    try simp only [numMay_iff] at h2
    have h3 := (packetMay_kind (3) (0) (0) (0) (0) (0) (0) (1048575 + d) ([]) e).2
    omega
theorem packetBad15 (d : Int) (h1 : 1 ≤ d) (h2 : d ≤ 1024) (dz : List UInt8) (hz : (dz.length : Int) = 64 + d) : packetS.may [3, 0, 0, 0, 0, 0, 0, -d] [] = false := by
  cases e : packetS.may [3, 0, 0, 0, 0, 0, 0, -d] []
  · rfl
  · exfalso
    have h1 := packetMay_all (3) (0) (0) (0) (0) (0) (0) (-d) ([]) e
    have h2 := packetMay_k3 (0) (0) (0) (0) (0) (0) (-d) ([]) e
    try simp only [numMay_iff] at h2
    have h3 := (packetMay_kind (3) (0) (0) (0) (0) (0) (0) (-d) ([]) e).2
    omega
theorem packetBad16 (d : Int) (h1 : 1 ≤ d) (h2 : d ≤ 1024) (dz : List UInt8) (hz : (dz.length : Int) = 64 + d) : packetS.may [3, 0, 0, 0, 0, 0, 0, 0] dz = false := by
  cases e : packetS.may [3, 0, 0, 0, 0, 0, 0, 0] dz
  · rfl
  · exfalso
    have h3 := (packetMay_kind (3) (0) (0) (0) (0) (0) (0) (0) (dz) e).2
    omega
theorem packetBad17 (d : Int) (h1 : 1 ≤ d) (h2 : d ≤ 1024) (dz : List UInt8) (hz : (dz.length : Int) = 64 + d) : packetS.may [4, 0, 0, 0, 0, 0, 0, 0] [120] = false := by
  cases e : packetS.may [4, 0, 0, 0, 0, 0, 0, 0] [120]
  · rfl
  · exfalso
    have h2 := packetMay_k4 (0) (0) (0) (0) (0) (0) (0) ([120]) e
    simp at h2
theorem packetBad18 (d : Int) (h1 : 1 ≤ d) (h2 : d ≤ 1024) (dz : List UInt8) (hz : (dz.length : Int) = 64 + d) : packetS.may [4, 0, 0, 0, 0, 0, -d, 0] [] = false := by
  cases e : packetS.may [4, 0, 0, 0, 0, 0, -d, 0] []
  · rfl
  · exfalso
    have h1 := packetMay_all (4) (0) (0) (0) (0) (0) (-d) (0) ([]) e
    have h2 := packetMay_k4 (0) (0) (0) (0) (0) (-d) (0) ([]) e
    try simp only [numMay_iff] at h2
    have h3 := (packetMay_kind (4) (0) (0) (0) (0) (0) (-d) (0) ([]) e).2
    omega
theorem packetGood0 : packetS.may [0, 1073741823, 1073741823, 0, 0, 0, 0, 0] [] = true := by decide
theorem packetGood1 : packetS.may [1, 0, 0, 1, 2, 3, 0, 0] [] = true := by decide
theorem packetGood2 : packetS.may [2, 0, 2, 0, 1, 3, 0, 0] [] = true := by decide
theorem packetGood3 : packetS.may [3, 0, 0, 0, 2, 0, 1, 1048575] packetZ64 = true := by decide
theorem packetGood4 : packetS.may [4, 0, 0, 0, 2, 0, 1, 0] [] = true := by decide

def packetBadL (d : Int) (dz : List UInt8) : List Value := ([([-d, 0, 0, 0, 0, 0, 0, 0], []), ([4 + d, 0, 0, 0, 0, 0, 0, 0], []), ([0, -d, 0, 0, 0, 0, 0, 0], []), ([0, 1073741823 + d, 0, 0, 0, 0, 0, 0], []), ([0, 0, -d, 0, 0, 0, 0, 0], []), ([0, 0, 0, 0, d, 0, 0, 0], []), ([0, 0, 0, d, 0, 0, 0, 0], []), ([0, 0, 0, 0, 0, 0, 0, d], []), ([0, 0, 0, 0, 0, 0, 0, 0], [120]), ([1, d, 0, 0, 0, 0, 0, 0], []), ([1, 0, 0, 0, 0, 1073741823 + d, 0, 0], []), ([2, 0, 0, 0, 0, 0, d, 0], []), ([2, 0, 0, 0, -d, 0, 0, 0], []), ([3, 0, 0, 0, 0, d, 0, 0], []), ([3, 0, 0, 0, 0, 0, 0, 1048575 + d], []), ([3, 0, 0, 0, 0, 0, 0, -d], []), ([3, 0, 0, 0, 0, 0, 0, 0], dz), ([4, 0, 0, 0, 0, 0, 0, 0], [120]), ([4, 0, 0, 0, 0, 0, -d, 0], [])] : List (List Int × List UInt8)).flatMap fun r => recL r.1 [.string ⟨r.2.toArray⟩]
theorem packetBads (w wB : World) (A : Array Value) (hW : w.alloc (.cells A 56) = wB) (d : Int) (h1 : 1 ≤ d) (h2 : d ≤ 1024) (dz : List UInt8) (hz : (dz.length : Int) = 64 + d) (hA : A.toList = packetBadL d dz) (q : Nat) (hq : q < 19) : ∃ (p0 p1 p2 p3 p4 p5 p6 p7 : Int) (ps_ : List UInt8), (wB.cell? ⟨w.heap.size, q * 9, none⟩ = some (.int .i64 p0) ∧ wB.cell? ⟨w.heap.size, q * 9 + 1, none⟩ = some (.int .i64 p1) ∧ wB.cell? ⟨w.heap.size, q * 9 + 2, none⟩ = some (.int .i64 p2) ∧ wB.cell? ⟨w.heap.size, q * 9 + 3, none⟩ = some (.int .i64 p3) ∧ wB.cell? ⟨w.heap.size, q * 9 + 4, none⟩ = some (.int .i64 p4) ∧ wB.cell? ⟨w.heap.size, q * 9 + 5, none⟩ = some (.int .i64 p5) ∧ wB.cell? ⟨w.heap.size, q * 9 + 6, none⟩ = some (.int .i64 p6) ∧ wB.cell? ⟨w.heap.size, q * 9 + 7, none⟩ = some (.int .i64 p7) ∧ wB.cell? ⟨w.heap.size, q * 9 + 8, none⟩ = some (.string ⟨ps_.toArray⟩)) ∧ packetS.may [p0, p1, p2, p3, p4, p5, p6, p7] ps_ = false ∧ Below w.heap.size w wB := by
  have hb : Below w.heap.size w wB := by rw [← hW]; exact (Below.refl _ _).alloc (Nat.le_refl _) _
  have hc : q = 0 ∨ q = 1 ∨ q = 2 ∨ q = 3 ∨ q = 4 ∨ q = 5 ∨ q = 6 ∨ q = 7 ∨ q = 8 ∨ q = 9 ∨ q = 10 ∨ q = 11 ∨ q = 12 ∨ q = 13 ∨ q = 14 ∨ q = 15 ∨ q = 16 ∨ q = 17 ∨ q = 18 := by omega
  have hg : ∀ i v, (packetBadL d dz)[i]? = some v → wB.cell? ⟨w.heap.size, i, none⟩ = some v := fun i v h => by
    rw [← hW]
    exact (World.cell?_alloc_mark _ _ _ _ _).trans (by rw [← Array.getElem?_toList, hA]; exact h)
  rcases hc with rfl | rfl | rfl | rfl | rfl | rfl | rfl | rfl | rfl | rfl | rfl | rfl | rfl | rfl | rfl | rfl | rfl | rfl | rfl
  · exact ⟨-d, 0, 0, 0, 0, 0, 0, 0, [], ⟨hg _ _ rfl, hg _ _ rfl, hg _ _ rfl, hg _ _ rfl, hg _ _ rfl, hg _ _ rfl, hg _ _ rfl, hg _ _ rfl, hg _ _ rfl⟩, packetBad0 d h1 h2 dz hz, hb⟩
  · exact ⟨4 + d, 0, 0, 0, 0, 0, 0, 0, [], ⟨hg _ _ rfl, hg _ _ rfl, hg _ _ rfl, hg _ _ rfl, hg _ _ rfl, hg _ _ rfl, hg _ _ rfl, hg _ _ rfl, hg _ _ rfl⟩, packetBad1 d h1 h2 dz hz, hb⟩
  · exact ⟨0, -d, 0, 0, 0, 0, 0, 0, [], ⟨hg _ _ rfl, hg _ _ rfl, hg _ _ rfl, hg _ _ rfl, hg _ _ rfl, hg _ _ rfl, hg _ _ rfl, hg _ _ rfl, hg _ _ rfl⟩, packetBad2 d h1 h2 dz hz, hb⟩
  · exact ⟨0, 1073741823 + d, 0, 0, 0, 0, 0, 0, [], ⟨hg _ _ rfl, hg _ _ rfl, hg _ _ rfl, hg _ _ rfl, hg _ _ rfl, hg _ _ rfl, hg _ _ rfl, hg _ _ rfl, hg _ _ rfl⟩, packetBad3 d h1 h2 dz hz, hb⟩
  · exact ⟨0, 0, -d, 0, 0, 0, 0, 0, [], ⟨hg _ _ rfl, hg _ _ rfl, hg _ _ rfl, hg _ _ rfl, hg _ _ rfl, hg _ _ rfl, hg _ _ rfl, hg _ _ rfl, hg _ _ rfl⟩, packetBad4 d h1 h2 dz hz, hb⟩
  · exact ⟨0, 0, 0, 0, d, 0, 0, 0, [], ⟨hg _ _ rfl, hg _ _ rfl, hg _ _ rfl, hg _ _ rfl, hg _ _ rfl, hg _ _ rfl, hg _ _ rfl, hg _ _ rfl, hg _ _ rfl⟩, packetBad5 d h1 h2 dz hz, hb⟩
  · exact ⟨0, 0, 0, d, 0, 0, 0, 0, [], ⟨hg _ _ rfl, hg _ _ rfl, hg _ _ rfl, hg _ _ rfl, hg _ _ rfl, hg _ _ rfl, hg _ _ rfl, hg _ _ rfl, hg _ _ rfl⟩, packetBad6 d h1 h2 dz hz, hb⟩
  · exact ⟨0, 0, 0, 0, 0, 0, 0, d, [], ⟨hg _ _ rfl, hg _ _ rfl, hg _ _ rfl, hg _ _ rfl, hg _ _ rfl, hg _ _ rfl, hg _ _ rfl, hg _ _ rfl, hg _ _ rfl⟩, packetBad7 d h1 h2 dz hz, hb⟩
  · exact ⟨0, 0, 0, 0, 0, 0, 0, 0, [120], ⟨hg _ _ rfl, hg _ _ rfl, hg _ _ rfl, hg _ _ rfl, hg _ _ rfl, hg _ _ rfl, hg _ _ rfl, hg _ _ rfl, hg _ _ rfl⟩, packetBad8 d h1 h2 dz hz, hb⟩
  · exact ⟨1, d, 0, 0, 0, 0, 0, 0, [], ⟨hg _ _ rfl, hg _ _ rfl, hg _ _ rfl, hg _ _ rfl, hg _ _ rfl, hg _ _ rfl, hg _ _ rfl, hg _ _ rfl, hg _ _ rfl⟩, packetBad9 d h1 h2 dz hz, hb⟩
  · exact ⟨1, 0, 0, 0, 0, 1073741823 + d, 0, 0, [], ⟨hg _ _ rfl, hg _ _ rfl, hg _ _ rfl, hg _ _ rfl, hg _ _ rfl, hg _ _ rfl, hg _ _ rfl, hg _ _ rfl, hg _ _ rfl⟩, packetBad10 d h1 h2 dz hz, hb⟩
  · exact ⟨2, 0, 0, 0, 0, 0, d, 0, [], ⟨hg _ _ rfl, hg _ _ rfl, hg _ _ rfl, hg _ _ rfl, hg _ _ rfl, hg _ _ rfl, hg _ _ rfl, hg _ _ rfl, hg _ _ rfl⟩, packetBad11 d h1 h2 dz hz, hb⟩
  · exact ⟨2, 0, 0, 0, -d, 0, 0, 0, [], ⟨hg _ _ rfl, hg _ _ rfl, hg _ _ rfl, hg _ _ rfl, hg _ _ rfl, hg _ _ rfl, hg _ _ rfl, hg _ _ rfl, hg _ _ rfl⟩, packetBad12 d h1 h2 dz hz, hb⟩
  · exact ⟨3, 0, 0, 0, 0, d, 0, 0, [], ⟨hg _ _ rfl, hg _ _ rfl, hg _ _ rfl, hg _ _ rfl, hg _ _ rfl, hg _ _ rfl, hg _ _ rfl, hg _ _ rfl, hg _ _ rfl⟩, packetBad13 d h1 h2 dz hz, hb⟩
  · exact ⟨3, 0, 0, 0, 0, 0, 0, 1048575 + d, [], ⟨hg _ _ rfl, hg _ _ rfl, hg _ _ rfl, hg _ _ rfl, hg _ _ rfl, hg _ _ rfl, hg _ _ rfl, hg _ _ rfl, hg _ _ rfl⟩, packetBad14 d h1 h2 dz hz, hb⟩
  · exact ⟨3, 0, 0, 0, 0, 0, 0, -d, [], ⟨hg _ _ rfl, hg _ _ rfl, hg _ _ rfl, hg _ _ rfl, hg _ _ rfl, hg _ _ rfl, hg _ _ rfl, hg _ _ rfl, hg _ _ rfl⟩, packetBad15 d h1 h2 dz hz, hb⟩
  · exact ⟨3, 0, 0, 0, 0, 0, 0, 0, dz, ⟨hg _ _ rfl, hg _ _ rfl, hg _ _ rfl, hg _ _ rfl, hg _ _ rfl, hg _ _ rfl, hg _ _ rfl, hg _ _ rfl, hg _ _ rfl⟩, packetBad16 d h1 h2 dz hz, hb⟩
  · exact ⟨4, 0, 0, 0, 0, 0, 0, 0, [120], ⟨hg _ _ rfl, hg _ _ rfl, hg _ _ rfl, hg _ _ rfl, hg _ _ rfl, hg _ _ rfl, hg _ _ rfl, hg _ _ rfl, hg _ _ rfl⟩, packetBad17 d h1 h2 dz hz, hb⟩
  · exact ⟨4, 0, 0, 0, 0, 0, -d, 0, [], ⟨hg _ _ rfl, hg _ _ rfl, hg _ _ rfl, hg _ _ rfl, hg _ _ rfl, hg _ _ rfl, hg _ _ rfl, hg _ _ rfl, hg _ _ rfl⟩, packetBad18 d h1 h2 dz hz, hb⟩

def packetGoodL  : List Value := ([([0, 1073741823, 1073741823, 0, 0, 0, 0, 0], []), ([1, 0, 0, 1, 2, 3, 0, 0], []), ([2, 0, 2, 0, 1, 3, 0, 0], []), ([3, 0, 0, 0, 2, 0, 1, 1048575], packetZ64), ([4, 0, 0, 0, 2, 0, 1, 0], [])] : List (List Int × List UInt8)).flatMap fun r => recL r.1 [.string ⟨r.2.toArray⟩]
theorem packetGoods (w wB : World) (A : Array Value) (hW : w.alloc (.cells A 56) = wB)  (hA : A.toList = packetGoodL) (q : Nat) (hq : q < 5) : ∃ (g0 g1 g2 g3 g4 g5 g6 g7 : Int) (gd_ : List UInt8), (wB.cell? ⟨w.heap.size, q * 9, none⟩ = some (.int .i64 g0) ∧ wB.cell? ⟨w.heap.size, q * 9 + 1, none⟩ = some (.int .i64 g1) ∧ wB.cell? ⟨w.heap.size, q * 9 + 2, none⟩ = some (.int .i64 g2) ∧ wB.cell? ⟨w.heap.size, q * 9 + 3, none⟩ = some (.int .i64 g3) ∧ wB.cell? ⟨w.heap.size, q * 9 + 4, none⟩ = some (.int .i64 g4) ∧ wB.cell? ⟨w.heap.size, q * 9 + 5, none⟩ = some (.int .i64 g5) ∧ wB.cell? ⟨w.heap.size, q * 9 + 6, none⟩ = some (.int .i64 g6) ∧ wB.cell? ⟨w.heap.size, q * 9 + 7, none⟩ = some (.int .i64 g7) ∧ wB.cell? ⟨w.heap.size, q * 9 + 8, none⟩ = some (.string ⟨gd_.toArray⟩)) ∧ packetS.may [g0, g1, g2, g3, g4, g5, g6, g7] gd_ = true ∧ Below w.heap.size w wB := by
  have hb : Below w.heap.size w wB := by rw [← hW]; exact (Below.refl _ _).alloc (Nat.le_refl _) _
  have hc : q = 0 ∨ q = 1 ∨ q = 2 ∨ q = 3 ∨ q = 4 := by omega
  have hg : ∀ i v, (packetGoodL)[i]? = some v → wB.cell? ⟨w.heap.size, i, none⟩ = some v := fun i v h => by
    rw [← hW]
    exact (World.cell?_alloc_mark _ _ _ _ _).trans (by rw [← Array.getElem?_toList, hA]; exact h)
  rcases hc with rfl | rfl | rfl | rfl | rfl
  · exact ⟨0, 1073741823, 1073741823, 0, 0, 0, 0, 0, [], ⟨hg _ _ rfl, hg _ _ rfl, hg _ _ rfl, hg _ _ rfl, hg _ _ rfl, hg _ _ rfl, hg _ _ rfl, hg _ _ rfl, hg _ _ rfl⟩, packetGood0, hb⟩
  · exact ⟨1, 0, 0, 1, 2, 3, 0, 0, [], ⟨hg _ _ rfl, hg _ _ rfl, hg _ _ rfl, hg _ _ rfl, hg _ _ rfl, hg _ _ rfl, hg _ _ rfl, hg _ _ rfl, hg _ _ rfl⟩, packetGood1, hb⟩
  · exact ⟨2, 0, 2, 0, 1, 3, 0, 0, [], ⟨hg _ _ rfl, hg _ _ rfl, hg _ _ rfl, hg _ _ rfl, hg _ _ rfl, hg _ _ rfl, hg _ _ rfl, hg _ _ rfl, hg _ _ rfl⟩, packetGood2, hb⟩
  · exact ⟨3, 0, 0, 0, 2, 0, 1, 1048575, packetZ64, ⟨hg _ _ rfl, hg _ _ rfl, hg _ _ rfl, hg _ _ rfl, hg _ _ rfl, hg _ _ rfl, hg _ _ rfl, hg _ _ rfl, hg _ _ rfl⟩, packetGood3, hb⟩
  · exact ⟨4, 0, 0, 0, 2, 0, 1, 0, [], ⟨hg _ _ rfl, hg _ _ rfl, hg _ _ rfl, hg _ _ rfl, hg _ _ rfl, hg _ _ rfl, hg _ _ rfl, hg _ _ rfl, hg _ _ rfl⟩, packetGood4, hb⟩

set_option maxRecDepth 100000 in
set_option maxHeartbeats 25600000 in
theorem packetForms_walk (which x : Int) (w : World) : Calls Try.prog 14 #[.int .i64 which, .int .i64 x] w fun e w' => e = .returned (.bool true) ∧ Below w.heap.size w w' := by
  obtain ⟨m, hm0, hm1⟩ := packet_and_mask x 10 (by omega)
  simp only [Nat.reducePow, Nat.reduceSub] at hm1
  have hm : bits .and .i64 x 1023 = (m : Int) := hm0
  clear hm0
  obtain ⟨q, hq0, hq1⟩ : ∃ q : Nat, (IntKind.u64.wrap which).tmod 19 = (q : Int) ∧ q < 19 := by
    have h0 : 0 ≤ IntKind.u64.wrap which := by rw [IntKind.wrap_u64]; omega
    refine ⟨((IntKind.u64.wrap which).tmod 19).toNat, ?_, ?_⟩
    · rw [Int.tmod_eq_emod_of_nonneg h0]; omega
    · rw [Int.tmod_eq_emod_of_nonneg h0]; omega
  have HQ := Lib.hid hq0
  clear hq0
  have AWK := Lib.hid packetAwake_any
  go_enter Try.func14, Try.ntmps14
  go_wp2_with fail
  refine (AWK.out _).mono ?_
  rintro e w1 ⟨rfl, b⟩
  have B1 := Lib.hid b
  clear b
  go_upto_region 4 with (fail)
  obtain ⟨dn, hdn⟩ : ∃ dn : Nat, dn = 1 + m := ⟨_, rfl⟩
  have hd0 : (1 + (m : Int)) = (dn : Int) := by omega
  have hd1 : (1 : Int) ≤ (dn : Int) := by omega
  have hd2 : (dn : Int) ≤ 1024 := by omega
  rw [hd0]
  obtain ⟨zc, hmk, hcv⟩ := packet_zero (64 + dn) (by omega)
  rw [show ((64 + dn : Nat) : Int) = 64 + (dn : Int) from by omega] at hmk
  obtain ⟨dz, hdz⟩ : ∃ dz, dz = List.replicate (64 + dn) (0 : UInt8) := ⟨_, rfl⟩
  have hzl : (dz.length : Int) = 64 + (dn : Int) := by rw [hdz, List.length_replicate]; omega
  rw [← hdz] at hcv
  have HZL := Lib.hid hzl
  have hie : Try.prog.info? 56 = some Try.t56 := by kernel_rfl
  have HIE := Lib.hid hie
  clear hie
  clear hdz hzl hd0 hdn hm hm1
  go_upto_region 5 with ((with_reducible (refine wpList_buildSlice rfl 68 56 19 _ rfl (packetBadL (dn : Int) dz).toArray Try.t56 _ Try.underlying68 HIE.out rfl (by decide) (by decide) ?_ ?_)); kernel_rfl)
  generalize hW : World.alloc (w1.alloc (.cells zc 5)) (.cells _ 56) = wB
  obtain ⟨p0, p1, p2, p3, p4, p5, p6, p7, ps_, ⟨c0, c1, c2, c3, c4, c5, c6, c7, c8⟩, hmp, hbb⟩ := packetBads (w1.alloc (.cells zc 5)) wB _ hW (dn : Int) hd1 hd2 dz HZL.out rfl q hq1
  replace hbb : Below w1.heap.size w1 wB := (show Below w1.heap.size w1 (w1.alloc (.cells zc 5)) from (Below.refl _ _).alloc (Nat.le_refl _) _).trans (hbb.mono (by simp))
  rw [World.size_alloc] at c0 c1 c2 c3 c4 c5 c6 c7 c8
  obtain ⟨ps, hps⟩ : ∃ ps : ByteArray, ps = ⟨ps_.toArray⟩ := ⟨_, rfl⟩
  rw [← hps] at c8
  have HPS := Lib.hid hps
  clear hps hmk hcv
  have BB := Lib.hid (B1.out.trans (hbb.mono B1.out.size))
  have HMP := Lib.hid hmp
  clear hW hbb B1 hmp
  have hq0 := HQ.out
  clear HQ
  go_wp2_with fail
  have hP := fun w => packetPut_any p0 p1 p2 p3 p4 p5 p6 p7 ps_ w
  have hMP := fun w => packetMay_any p0 p1 p2 p3 p4 p5 p6 p7 ps_ w
  rw [Sp.put, HMP.out, if_neg (by decide), show formE false 400 = 400 from rfl] at hP
  rw [HMP.out] at hMP
  replace hP : ∀ w, Calls Try.prog 34 #[.agg #[.int .i64 p0, .int .i64 p1, .int .i64 p2, .int .i64 p3, .int .i64 p4, .int .i64 p5, .int .i64 p6, .int .i64 p7, .string ps]] w fun e w' => e = .returned (.tuple #[.string ⟨#[]⟩, .int .i64 400]) ∧ Below w.heap.size w w' := by rw [HPS.out]; exact hP
  replace hMP : ∀ w, Calls Try.prog 38 #[.agg #[.int .i64 p0, .int .i64 p1, .int .i64 p2, .int .i64 p3, .int .i64 p4, .int .i64 p5, .int .i64 p6, .int .i64 p7, .string ps]] w fun e w' => e = .returned (.bool false) ∧ Below w.heap.size w w' := by rw [HPS.out]; exact hMP
  have PC := Lib.hid hP
  have MC := Lib.hid hMP
  have RP := Lib.hid (show Rec (wB.alloc (.cells #[.int .i64 p0, .int .i64 p1, .int .i64 p2, .int .i64 p3, .int .i64 p4, .int .i64 p5, .int .i64 p6, .int .i64 p7, .string ps] 56)) wB.heap.size [p0, p1, p2, p3, p4, p5, p6, p7] [.string ps] from rec_new wB [p0, p1, p2, p3, p4, p5, p6, p7] [.string ps] 56)
  have B2 := Lib.hid (show Below w.heap.size w (wB.alloc (.cells #[.int .i64 p0, .int .i64 p1, .int .i64 p2, .int .i64 p3, .int .i64 p4, .int .i64 p5, .int .i64 p6, .int .i64 p7, .string ps] 56)) from BB.out.alloc BB.out.size _)
  clear hP hMP HMP BB hq0 c0 c1 c2 c3 c4 c5 c6 c7 c8 hq1 hd1 hd2
  refine (PC.out _).mono ?_
  rintro e w3 ⟨rfl, b⟩
  have RP3 := Lib.hid (RP.out.below b)
  have B3 := Lib.hid (B2.out.trans (b.mono B2.out.size))
  clear b RP B2 PC
  obtain ⟨zg, hmkg, hcvg⟩ := packet_zero 64 (by omega)
  replace hmkg : ∀ w : World, (Instr.makeSlice 67 (.int .i64 64) (.int .i64 64)).run Try.prog w = .ok (.slice (some ⟨w.heap.size, 0, none⟩) 64 64) (w.alloc (.cells zg 5)) := hmkg
  replace hcvg : ∀ w : World, (convert 67 9 (.slice (some ⟨w.heap.size, 0, none⟩) 64 64)).run Try.prog (w.alloc (.cells zg 5)) = .ok (.string ⟨packetZ64.toArray⟩) (w.alloc (.cells zg 5)) := hcvg
  go_upto_region 8 with (fail)
  generalize hW : World.alloc (w3.alloc (.cells zg 5)) (.cells _ 56) = wG
  have HG := Lib.hid (packetGoods (w3.alloc (.cells zg 5)) wG _ hW rfl)
  have hbb : Below w3.heap.size w3 wG := by rw [← hW]; exact ((Below.refl _ _).alloc (Nat.le_refl _) _).alloc (by simp) _
  have RP4 := Lib.hid (RP3.out.below hbb)
  have B4 := Lib.hid (B3.out.trans (hbb.mono B3.out.size))
  clear hW hbb RP3 B3
  have HG2 := HG.out
  rw [World.size_alloc] at HG2
  replace HG := Lib.hid HG2
  clear HG2 hmkg hcvg
  generalize w3.heap.size + 1 = bg at HG ⊢
  go_wp2_with fail
  go_loopg [11] 6 (fun gg s11 wr => ∃ i : Nat, i ≤ 5 ∧ 5 - i < gg ∧ s11 = .int .i64 i ∧ Aside (Below wG.heap.size wG wr))
  case atStart => exact ⟨0, by omega, by omega, rfl, Below.refl _ _⟩
  case round =>
    obtain ⟨i, hi, hig, rfl, AB⟩ := hrel
    by_cases h : i < 5
    · have hii : (i : Int) < 5 := by omega
      obtain ⟨g0, g1, g2, g3, g4, g5, g6, g7, gd_, ⟨c0, c1, c2, c3, c4, c5, c6, c7, c8⟩, hmg, _⟩ := HG.out i h
      obtain ⟨gs, hgs⟩ : ∃ gs : ByteArray, gs = ⟨gd_.toArray⟩ := ⟨_, rfl⟩
      rw [← hgs] at c8
      have PG := fun w => packetPut_any g0 g1 g2 g3 g4 g5 g6 g7 gd_ w
      have MG := fun w => packetMay_any g0 g1 g2 g3 g4 g5 g6 g7 gd_ w
      have hub := packetEnc_le g0 g1 g2 g3 g4 g5 g6 g7 gd_ hmg
      have GG := fun w => packetGet_any (packetS.enc [g0, g1, g2, g3, g4, g5, g6, g7] gd_) (by omega) w
      obtain ⟨k1, k2, k3⟩ := packetS.ok_fwd [g0, g1, g2, g3, g4, g5, g6, g7] gd_ rfl hmg
      rw [show packetS.getC (packetS.enc [g0, g1, g2, g3, g4, g5, g6, g7] gd_) = [g0, g1, g2, g3, g4, g5, g6, g7] from by rw [Sp.getC, k1, if_pos rfl, k2], show packetS.getD (packetS.enc [g0, g1, g2, g3, g4, g5, g6, g7] gd_) = gd_ from by rw [Sp.getD, k1, if_pos rfl, k3], k1] at GG
      rw [Sp.put, hmg, if_pos rfl, show formE true 400 = 0 from rfl] at PG
      rw [hmg] at MG
      generalize packetS.enc [g0, g1, g2, g3, g4, g5, g6, g7] gd_ = E at PG GG
      have hneq : ∀ w, (binOp .neq 56 (.agg #[.int .i64 g0, .int .i64 g1, .int .i64 g2, .int .i64 g3, .int .i64 g4, .int .i64 g5, .int .i64 g6, .int .i64 g7, .string gs]) (.agg #[.int .i64 g0, .int .i64 g1, .int .i64 g2, .int .i64 g3, .int .i64 g4, .int .i64 g5, .int .i64 g6, .int .i64 g7, .string gs])).run Try.prog w = .ok (.bool false) w := fun w => packetNeqOf _ _ true w (by rw [run_eqlPacket, decide_eq_true (rfl : [g0, g1, g2, g3, g4, g5, g6, g7] = [g0, g1, g2, g3, g4, g5, g6, g7]), decide_eq_true (rfl : gs = gs)]; rfl) ⟨_, rfl⟩ ⟨_, rfl⟩
      have hg := guard56
      replace PG : ∀ w, Calls Try.prog 34 #[.agg #[.int .i64 g0, .int .i64 g1, .int .i64 g2, .int .i64 g3, .int .i64 g4, .int .i64 g5, .int .i64 g6, .int .i64 g7, .string gs]] w fun e w' => e = .returned (.tuple #[.string ⟨E.toArray⟩, .int .i64 0]) ∧ Below w.heap.size w w' := by rw [hgs]; exact PG
      replace MG : ∀ w, Calls Try.prog 38 #[.agg #[.int .i64 g0, .int .i64 g1, .int .i64 g2, .int .i64 g3, .int .i64 g4, .int .i64 g5, .int .i64 g6, .int .i64 g7, .string gs]] w fun e w' => e = .returned (.bool true) ∧ Below w.heap.size w w' := by rw [hgs]; exact MG
      replace GG : ∀ w, Calls Try.prog 36 #[.string ⟨E.toArray⟩] w fun e w' => e = .returned (.tuple #[.agg #[.int .i64 g0, .int .i64 g1, .int .i64 g2, .int .i64 g3, .int .i64 g4, .int .i64 g5, .int .i64 g6, .int .i64 g7, .string gs], .int .i64 0]) ∧ Below w.heap.size w w' := by rw [hgs]; exact GG
      generalize (⟨E.toArray⟩ : ByteArray) = es at PG GG
      have PGH := Lib.hid PG
      have MGH := Lib.hid MG
      have GGH := Lib.hid GG
      clear PG MG GG hub hmg k1 k2 k3 hgs
      replace c0 := keep_cell c0 AB.out
      replace c1 := keep_cell c1 AB.out
      replace c2 := keep_cell c2 AB.out
      replace c3 := keep_cell c3 AB.out
      replace c4 := keep_cell c4 AB.out
      replace c5 := keep_cell c5 AB.out
      replace c6 := keep_cell c6 AB.out
      replace c7 := keep_cell c7 AB.out
      replace c8 := keep_cell c8 AB.out
      have BR := Lib.hid AB.out
      have HI := Lib.hid (show i ≤ 5 ∧ 5 - i < gk from ⟨hi, hig⟩)
      clear AB hi hig
      go_wp2_with fail
      refine (PGH.out _).mono ?_
      rintro e w5 ⟨rfl, b⟩
      replace c0 := keep_cell c0 b
      replace c1 := keep_cell c1 b
      replace c2 := keep_cell c2 b
      replace c3 := keep_cell c3 b
      replace c4 := keep_cell c4 b
      replace c5 := keep_cell c5 b
      replace c6 := keep_cell c6 b
      replace c7 := keep_cell c7 b
      replace c8 := keep_cell c8 b
      have BR5 := Lib.hid (BR.out.trans (b.mono BR.out.size))
      clear b BR
      go_wp2_with fail
      refine (GGH.out _).mono ?_
      rintro e w6 ⟨rfl, b⟩
      replace c0 : (w6.alloc (.cells #[.int .i64 g0, .int .i64 g1, .int .i64 g2, .int .i64 g3, .int .i64 g4, .int .i64 g5, .int .i64 g6, .int .i64 g7, .string gs] 56)).cell? ⟨bg, i * 9, none⟩ = some (.int .i64 g0) := keep_cell (keep_cell c0 b) ((Below.refl _ _).alloc (Nat.le_refl _) _)
      replace c1 : (w6.alloc (.cells #[.int .i64 g0, .int .i64 g1, .int .i64 g2, .int .i64 g3, .int .i64 g4, .int .i64 g5, .int .i64 g6, .int .i64 g7, .string gs] 56)).cell? ⟨bg, i * 9 + 1, none⟩ = some (.int .i64 g1) := keep_cell (keep_cell c1 b) ((Below.refl _ _).alloc (Nat.le_refl _) _)
      replace c2 : (w6.alloc (.cells #[.int .i64 g0, .int .i64 g1, .int .i64 g2, .int .i64 g3, .int .i64 g4, .int .i64 g5, .int .i64 g6, .int .i64 g7, .string gs] 56)).cell? ⟨bg, i * 9 + 2, none⟩ = some (.int .i64 g2) := keep_cell (keep_cell c2 b) ((Below.refl _ _).alloc (Nat.le_refl _) _)
      replace c3 : (w6.alloc (.cells #[.int .i64 g0, .int .i64 g1, .int .i64 g2, .int .i64 g3, .int .i64 g4, .int .i64 g5, .int .i64 g6, .int .i64 g7, .string gs] 56)).cell? ⟨bg, i * 9 + 3, none⟩ = some (.int .i64 g3) := keep_cell (keep_cell c3 b) ((Below.refl _ _).alloc (Nat.le_refl _) _)
      replace c4 : (w6.alloc (.cells #[.int .i64 g0, .int .i64 g1, .int .i64 g2, .int .i64 g3, .int .i64 g4, .int .i64 g5, .int .i64 g6, .int .i64 g7, .string gs] 56)).cell? ⟨bg, i * 9 + 4, none⟩ = some (.int .i64 g4) := keep_cell (keep_cell c4 b) ((Below.refl _ _).alloc (Nat.le_refl _) _)
      replace c5 : (w6.alloc (.cells #[.int .i64 g0, .int .i64 g1, .int .i64 g2, .int .i64 g3, .int .i64 g4, .int .i64 g5, .int .i64 g6, .int .i64 g7, .string gs] 56)).cell? ⟨bg, i * 9 + 5, none⟩ = some (.int .i64 g5) := keep_cell (keep_cell c5 b) ((Below.refl _ _).alloc (Nat.le_refl _) _)
      replace c6 : (w6.alloc (.cells #[.int .i64 g0, .int .i64 g1, .int .i64 g2, .int .i64 g3, .int .i64 g4, .int .i64 g5, .int .i64 g6, .int .i64 g7, .string gs] 56)).cell? ⟨bg, i * 9 + 6, none⟩ = some (.int .i64 g6) := keep_cell (keep_cell c6 b) ((Below.refl _ _).alloc (Nat.le_refl _) _)
      replace c7 : (w6.alloc (.cells #[.int .i64 g0, .int .i64 g1, .int .i64 g2, .int .i64 g3, .int .i64 g4, .int .i64 g5, .int .i64 g6, .int .i64 g7, .string gs] 56)).cell? ⟨bg, i * 9 + 7, none⟩ = some (.int .i64 g7) := keep_cell (keep_cell c7 b) ((Below.refl _ _).alloc (Nat.le_refl _) _)
      replace c8 : (w6.alloc (.cells #[.int .i64 g0, .int .i64 g1, .int .i64 g2, .int .i64 g3, .int .i64 g4, .int .i64 g5, .int .i64 g6, .int .i64 g7, .string gs] 56)).cell? ⟨bg, i * 9 + 8, none⟩ = some (.string gs) := keep_cell (keep_cell c8 b) ((Below.refl _ _).alloc (Nat.le_refl _) _)
      have RY := Lib.hid (show Rec (w6.alloc (.cells #[.int .i64 g0, .int .i64 g1, .int .i64 g2, .int .i64 g3, .int .i64 g4, .int .i64 g5, .int .i64 g6, .int .i64 g7, .string gs] 56)) w6.heap.size [g0, g1, g2, g3, g4, g5, g6, g7] [.string gs] from rec_new w6 [g0, g1, g2, g3, g4, g5, g6, g7] [.string gs] 56)
      have BR6 := Lib.hid (show Below wG.heap.size wG (w6.alloc (.cells #[.int .i64 g0, .int .i64 g1, .int .i64 g2, .int .i64 g3, .int .i64 g4, .int .i64 g5, .int .i64 g6, .int .i64 g7, .string gs] 56)) from (BR5.out.trans (b.mono BR5.out.size)).alloc (BR5.out.trans (b.mono BR5.out.size)).size _)
      clear b BR5
      go_upto_region 13 with (fail)
      generalize w6.alloc (.cells #[.int .i64 g0, .int .i64 g1, .int .i64 g2, .int .i64 g3, .int .i64 g4, .int .i64 g5, .int .i64 g6, .int .i64 g7, .string gs] 56) = w7 at BR6 RY c0 c1 c2 c3 c4 c5 c6 c7 c8 ⊢
      generalize w6.heap.size = by_ at RY ⊢
      have y0 : w7.cell? ⟨by_, 0, none⟩ = some (.int .i64 g0) := RY.out.1 0 (by simp)
      have y1 : w7.cell? ⟨by_, 1, none⟩ = some (.int .i64 g1) := RY.out.1 1 (by simp)
      have y2 : w7.cell? ⟨by_, 2, none⟩ = some (.int .i64 g2) := RY.out.1 2 (by simp)
      have y3 : w7.cell? ⟨by_, 3, none⟩ = some (.int .i64 g3) := RY.out.1 3 (by simp)
      have y4 : w7.cell? ⟨by_, 4, none⟩ = some (.int .i64 g4) := RY.out.1 4 (by simp)
      have y5 : w7.cell? ⟨by_, 5, none⟩ = some (.int .i64 g5) := RY.out.1 5 (by simp)
      have y6 : w7.cell? ⟨by_, 6, none⟩ = some (.int .i64 g6) := RY.out.1 6 (by simp)
      have y7 : w7.cell? ⟨by_, 7, none⟩ = some (.int .i64 g7) := RY.out.1 7 (by simp)
      have y8 : w7.cell? ⟨by_, 8, none⟩ = some (.string gs) := RY.out.2 0 (by simp)
      clear RY
      first
      | go_region_with (first
          | (go_at_call 23; refine (num_any _ _).mono ?_; rintro e w' ⟨rfl, rfl⟩)
          | (go_at_call 38; refine (MGH.out _).mono ?_; rintro e w' ⟨rfl, b⟩; (have c0 := keep_b b c0); (have c1 := keep_b b c1); (have c2 := keep_b b c2); (have c3 := keep_b b c3); (have c4 := keep_b b c4); (have c5 := keep_b b c5); (have c6 := keep_b b c6); (have c7 := keep_b b c7); (have c8 := keep_b b c8); (have y0 := keep_b b y0); (have y1 := keep_b b y1); (have y2 := keep_b b y2); (have y3 := keep_b b y3); (have y4 := keep_b b y4); (have y5 := keep_b b y5); (have y6 := keep_b b y6); (have y7 := keep_b b y7); (have y8 := keep_b b y8)))
      | fail "the region"
      all_goals
        go_wp2
        go_roundg (5 - i)
        case measure => exact HI.out.2
        case rel => exact ⟨i + 1, by have := HI.out; omega, by have := HI.out; omega, by go_num, bel_next BR6.out.drew (by assumption)⟩
    · have hii : ¬ (i : Int) < 5 := by omega
      have RP5 := Lib.hid (RP4.out.below AB.out)
      have B5 := Lib.hid (B4.out.trans (AB.out.mono B4.out.size))
      have x0 : wr.cell? ⟨wB.heap.size, 0, none⟩ = some (.int .i64 p0) := RP5.out.1 0 (by simp)
      have x1 : wr.cell? ⟨wB.heap.size, 1, none⟩ = some (.int .i64 p1) := RP5.out.1 1 (by simp)
      have x2 : wr.cell? ⟨wB.heap.size, 2, none⟩ = some (.int .i64 p2) := RP5.out.1 2 (by simp)
      have x3 : wr.cell? ⟨wB.heap.size, 3, none⟩ = some (.int .i64 p3) := RP5.out.1 3 (by simp)
      have x4 : wr.cell? ⟨wB.heap.size, 4, none⟩ = some (.int .i64 p4) := RP5.out.1 4 (by simp)
      have x5 : wr.cell? ⟨wB.heap.size, 5, none⟩ = some (.int .i64 p5) := RP5.out.1 5 (by simp)
      have x6 : wr.cell? ⟨wB.heap.size, 6, none⟩ = some (.int .i64 p6) := RP5.out.1 6 (by simp)
      have x7 : wr.cell? ⟨wB.heap.size, 7, none⟩ = some (.int .i64 p7) := RP5.out.1 7 (by simp)
      have x8 : wr.cell? ⟨wB.heap.size, 8, none⟩ = some (.string ps) := RP5.out.2 0 (by simp)
      clear AB RP4 B4 hi hig
      go_wp2_with fail
      refine (MC.out _).mono ?_
      rintro e w8 ⟨rfl, b⟩
      have B8 := Lib.hid (B5.out.trans (b.mono B5.out.size))
      clear b
      go_wp2_with (first | (go_at_call 23; refine (num_any _ _).mono ?_; rintro e w' ⟨rfl, rfl⟩))
      go_ret
      exact ⟨rfl, B8.out⟩
end Go.Proofs.Ythkbeigimdgamaa
