/- Contracts of the pool's small functions. -/
import Derived.Test.YtapacdkcekbnaaaRows
import Derived.WalkKit
import Derived.WalkSpells
import Derived.WalkLawsBesides
import Derived.Lib.Hide
import Derived.BigQuiet
import Derived.Deep.QuietTactic
namespace Go.Proofs.Ytapacdkcekbnaaa
open Go Go.RowKit

/-- An address, as plain data. -/
structure Ad where
  busy : Bool
  last : Int
  til : Int
  deriving DecidableEq

def Ad.cells (a : Ad) : List Value := [.bool a.busy, .int .i64 a.last, .int .i64 a.til]
def Ad.val (a : Ad) : Value := .agg #[.bool a.busy, .int .i64 a.last, .int .i64 a.til]

def userMayB (u : Int) : Bool := decide (0 ≤ u) && decide (u < 8)
def tickMayB (t : Int) : Bool := decide (0 ≤ t) && decide (t ≤ 1048575)
def notB (l t : Int) : Bool := ((l != -1) && !(userMayB l)) || decide (t < 0)

theorem num_any (x : Int) (w : World) : Calls Try.prog 17 #[.int .i64 x] w fun e w' => e = .returned (.int .i64 x) ∧ w = w' := by
  go_enter Try.func17, Try.ntmps17
  go_wp2
  go_ret
  exact ⟨rfl, rfl⟩

theorem userMay_any (u : Int) (w : World) : Calls Try.prog 24 #[.int .i64 u] w fun e w' => e = .returned (.bool (userMayB u)) ∧ w = w' := by
  by_cases h : 0 ≤ u
  all_goals
    go_enter Try.func24, Try.ntmps24
    go_wp2
    go_ret
    exact ⟨by simp [userMayB, h]; try omega, rfl⟩

theorem tickMay_any (u : Int) (w : World) : Calls Try.prog 25 #[.int .i64 u] w fun e w' => e = .returned (.bool (tickMayB u)) ∧ w = w' := by
  by_cases h : 0 ≤ u
  all_goals
    go_enter Try.func25, Try.ntmps25
    go_wp2
    go_ret
    exact ⟨by simp [tickMayB, h]; try omega, rfl⟩

theorem refTickMay_any (u : Int) (w : World) : Calls Try.prog 31 #[.int .i64 u] w fun e w' => e = .returned (.bool (tickMayB u)) ∧ w = w' := by
  by_cases h : 0 ≤ u
  all_goals
    go_enter Try.func31, Try.ntmps31
    go_wp2
    go_ret
    exact ⟨by simp [tickMayB, h]; try omega, rfl⟩

set_option maxHeartbeats 400000 in
theorem not_any (a : Ad) (w : World) : Calls Try.prog 36 #[a.val] w fun e w' => e = .returned (.bool (notB a.last a.til)) ∧ Below w.heap.size w w' := by
  obtain ⟨b, l, t⟩ := a
  unfold Ad.val
  by_cases h : l = -1
  · subst h
    go_enter Try.func36, Try.ntmps36
    go_wp2_with fail
    go_ret
    exact ⟨by simp [notB], (Below.refl _ _).alloc (Nat.le_refl _) _⟩
  · have h1 : (l != -1) = true := by simpa using h
    have hu := userMay_any l
    cases hb : userMayB l
    all_goals
      rw [hb] at hu
      go_enter Try.func36, Try.ntmps36
      go_wp2_with (go_at_call 24; refine (hu _).mono ?_; rintro e w' ⟨rfl, rfl⟩)
      go_ret
      exact ⟨by simp [notB, h1, hb], (Below.refl _ _).alloc (Nat.le_refl _) _⟩
end Go.Proofs.Ytapacdkcekbnaaa
