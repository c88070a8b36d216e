/- Contracts of the field's small functions. -/
import Derived.Test.YthkbeigimdgamaaRows
import Derived.WalkKit
import Derived.WalkSpells
import Derived.WalkLawsBesides
import Derived.Lib.Hide
import Derived.BigQuiet
import Derived.Deep.QuietTactic
import Derived.Deep.LoopGhost
namespace Go.Proofs.Ythkbeigimdgamaa
open Go Go.RowKit

def numMayB (x : Int) : Bool := decide (0 ≤ x) && decide (x ≤ 1073741823)

/-- How many bytes of a number follow. -/
def widthN (x : Nat) : Nat := if x = 0 then 0 else widthN (x / 256) + 1
decreasing_by omega

theorem num_any (x : Int) (w : World) : Calls Try.prog 23 #[.int .i64 x] w fun e w' => e = .returned (.int .i64 x) ∧ w = w' := by
  go_enter Try.func23, Try.ntmps23
  go_wp2
  go_ret
  exact ⟨rfl, rfl⟩

theorem numMay_any (u : Int) (w : World) : Calls Try.prog 54 #[.int .i64 u] w fun e w' => e = .returned (.bool (numMayB u)) ∧ w = w' := by
  by_cases h : 0 ≤ u
  all_goals
    go_enter Try.func54, Try.ntmps54
    go_wp2
    go_ret
    exact ⟨by simp [numMayB, h]; try omega, rfl⟩

theorem refNumMay_any (u : Int) (w : World) : Calls Try.prog 56 #[.int .i64 u] w fun e w' => e = .returned (.bool (numMayB u)) ∧ w = w' := by
  by_cases h : 0 ≤ u
  all_goals
    go_enter Try.func56, Try.ntmps56
    go_wp2
    go_ret
    exact ⟨by simp [numMayB, h]; try omega, rfl⟩

theorem widthN_zero : widthN 0 = 0 := by rw [widthN]; rfl
theorem widthN_pos {x : Nat} (h : 0 < x) : widthN x = widthN (x / 256) + 1 := by rw [widthN, if_neg (by omega)]
theorem widthN_le : ∀ (k : Nat) (x : Nat), x < 256 ^ k → widthN x ≤ k := by
  intro k
  induction k with
  | zero => intro x h; have : x = 0 := by simpa using h
            subst this; rw [widthN_zero]; omega
  | succ k ih =>
    intro x h
    by_cases h0 : x = 0
    · subst h0; rw [widthN_zero]; omega
    · rw [widthN_pos (by omega)]
      have := ih (x / 256) (by rw [Nat.pow_succ] at h; omega)
      omega

set_option maxRecDepth 100000 in
theorem width_any (x : Nat) (hx : x < 4294967296) (w : World) : Calls Try.prog 68 #[.int .i64 x] w fun e w' => e = .returned (.int .i64 (widthN x)) ∧ w = w' := by
  have hw := widthN_le 4 x (by simpa using hx)
  have HW := Lib.hid hw
  clear hw
  go_enter Try.func68, Try.ntmps68
  go_wp2_with fail
  go_loopg [0, 3] (x + 1) (fun gg s0 s2 wr => ∃ (y n : Nat), y ≤ x ∧ y < gg ∧ n ≤ 4 ∧ s0 = .int .i64 y ∧ s2 = .int .i64 n ∧ Aside (widthN x = widthN y + n) ∧ Aside (w = wr))
  case atStart => exact ⟨x, 0, by omega, by omega, by omega, rfl, rfl, rfl, rfl⟩
  case round =>
    obtain ⟨y, n, hy, hyg, hn, rfl, rfl, AE, AW⟩ := hrel
    obtain rfl := AW.out
    by_cases h0 : 0 < (y : Int)
    · have E := AE.out
      rw [widthN_pos (x := y) (by omega)] at E
      have := HW.out
      have hn4 : n + 1 ≤ 4 := by omega
      have HE := Lib.hid E
      clear E AE this
      go_wp2
      go_roundg y
      case measure => omega
      case rel => exact ⟨y / 256, n + 1, by omega, by omega, hn4, by go_num, by go_num, by have := HE.out; show widthN x = _; omega, rfl⟩
    · have hy0 : y = 0 := by omega
      subst hy0
      have HE := AE
      clear AE
      go_wp2
      go_ret
      exact ⟨by rw [HE.out, widthN_zero]; simp, rfl⟩
end Go.Proofs.Ythkbeigimdgamaa
