/- Contracts of pool.may, there, poolMay of the reference, slices.Clone, with, Take, Free, Lease. -/
import Derived.Test.YtapacdkcekbnaaaB
namespace Go.Proofs.Ytapacdkcekbnaaa
open Go Go.RowKit

theorem Sl.form {w : World} {v : Value} {l : List Ad} (h : Sl w v l) : ∃ ao c, v = .slice ao l.length c := by
  obtain ⟨_, ⟨rfl, ao, c, rfl⟩ | ⟨b, off, c, rfl, _, _⟩⟩ := h
  · exact ⟨ao, c, rfl⟩
  · exact ⟨_, c, rfl⟩

def mayB (l : List Ad) : Bool := decide (1 ≤ l.length) && decide (l.length ≤ 16) && !(l.any fun a => notB a.last a.til)

theorem enters36 : ∀ args w, (callFunc 36 args).run Try.prog w = .ok (.enter 36 args) w := enters_of Try.func36 (by kernel_rfl) rfl

set_option maxHeartbeats 400000 in
theorem may_any (v : Value) (l : List Ad) (w : World) (hv : Sl w v l) :
    Calls Try.prog 23 #[v] w fun e w' => e = .returned (.bool (mayB l)) ∧ Below w.heap.size w w' := by
  have hc := containsFunc_any (fun a => notB a.last a.til) 36 #[] enters36 v l w (fun W x hb => (not_any x W).mono fun e w' ⟨he, hw⟩ => ⟨he, Below.next hb hw⟩) hv
  have hm : mayB l = (decide (1 ≤ l.length) && decide (l.length ≤ 16) && !(l.any fun a => notB a.last a.til)) := rfl
  obtain ⟨ao, c, rfl⟩ := hv.form
  have hbig := hv.1
  clear hv
  generalize (l.any fun a => notB a.last a.til) = q at hc hm
  by_cases h1 : 1 ≤ l.length
  · by_cases h2 : l.length ≤ 16
    · have hm' : mayB l = !q := by rw [hm]; simp [h1, h2]
      have HM := Lib.hid hm'
      clear hm hm'
      obtain ⟨n, hn⟩ : ∃ n, n = l.length := ⟨_, rfl⟩
      rw [← hn] at hc h1 h2 ⊢
      clear hn
      go_enter Try.func23, Try.ntmps23
      go_wp2_with (go_at_call 37; refine hc.mono ?_; rintro e w' ⟨rfl, hb'⟩)
      go_ret
      exact ⟨by rw [HM.out]; rfl, hb'⟩
    · have hm' : mayB l = false := by rw [hm]; simp [h2]
      rw [hm']
      clear hc hm hm'
      go_enter Try.func23, Try.ntmps23
      go_wp2_with fail
      go_ret
      exact ⟨rfl, Below.refl _ _⟩
  · have hm' : mayB l = false := by rw [hm]; simp [h1]
    rw [hm']
    clear hc hm hm'
    go_enter Try.func23, Try.ntmps23
    go_wp2_with fail
    go_ret
    exact ⟨rfl, Below.refl _ _⟩

def thereB (l : List Ad) (k : Int) : Bool := decide (0 ≤ k) && decide (k < l.length)

theorem there_any (ao : Option Addr) (c : Nat) (l : List Ad) (k : Int) (w : World) (_hbig : l.length ≤ 9223372036854775807) :
    Calls Try.prog 32 #[.slice ao l.length c, .int .i64 k] w fun e w' => e = .returned (.bool (thereB l k)) ∧ w = w' := by
  by_cases h : 0 ≤ k
  all_goals
    go_enter Try.func32, Try.ntmps32
    go_wp2
    go_ret
    exact ⟨by simp [thereB, h]; try omega, rfl⟩

def refMayB (l : List Ad) (u : Int) : Bool := mayB l && userMayB u
end Go.Proofs.Ytapacdkcekbnaaa
