/- Comparing, copying, lending, spoiling addresses; the reference's NewPool. -/
import Derived.Test.YtapacdkcekbnaaaL
import Derived.Laws.StructEq
import Derived.Laws.BitsAllLaws
namespace Go.Proofs.Ytapacdkcekbnaaa
open Go Go.RowKit

theorem beq_ad (x y : Ad) : (decide (x = y)) = (x.busy == y.busy && x.last == y.last && x.til == y.til) := by
  obtain ⟨a, b, c⟩ := x
  obtain ⟨d, e, f⟩ := y
  rw [Bool.eq_iff_iff]
  simp
  constructor
  · rintro ⟨rfl, rfl, rfl⟩; simp
  · rintro ⟨⟨rfl, rfl⟩, rfl⟩; simp

theorem run_equalAd (x y : Ad) (w : World) : (Op.equalIn 10000 46 x.val y.val).run Try.prog w = .ok (decide (x = y)) w := by
  have u3 := Try.underlying3
  have a3 := Try.isAgg3
  have z3 := Try.sizeOf3
  have u4 := Try.underlying4
  have a4 := Try.isAgg4
  have z4 := Try.sizeOf4
  have hS : Try.prog.underlying 46 = some (.struct (Try.prog.fieldsOf 46)) := by kernel_rfl
  have hp : Try.prog.stoodInHeld 46 = false := by kernel_rfl
  rw [beq_ad]
  obtain ⟨a, b, c⟩ := x
  obtain ⟨d, e, f⟩ := y
  simp only [Ad.val]
  rw [show (10000 : Nat) = 9999 + 1 from rfl, run_equalIn_agg w 9999 46 _ _ hS hp]
  simp only [Program.fieldsOf, Try.underlying46]
  go_simp
  by_cases h1 : a = d <;> by_cases h2 : b = e <;> by_cases h3 : c = f <;> simp [h1, h2, h3]

theorem run_neqAd (x y : Ad) (w : World) : (binOp .neq 46 x.val y.val).run Try.prog w = .ok (.bool (!decide (x = y))) w := by
  unfold Ad.val
  rw [run_neq_struct]
  have := run_equalAd x y w
  unfold Ad.val at this
  rw [this]
  rfl

theorem run_eqlAd (x y : Ad) (w : World) : (binOp .eql 46 x.val y.val).run Try.prog w = .ok (.bool (decide (x = y))) w := by
  unfold Ad.val
  rw [run_eql_struct]
  have := run_equalAd x y w
  unfold Ad.val at this
  rw [this]
  rfl

theorem guard46 : Try.prog.eqGuardType Try.prog.depth 46 = false := by kernel_rfl

/-- The cells of whatever element, of a slice that reads as addresses. -/
theorem Sl.cellsAt {w : World} {ao : Option Addr} {c n : Nat} {l : List Ad} (hv : Sl w (.slice ao n c) l) (k : Nat) (hk : k < l.length) :
    ∃ b off, ao = some ⟨b, off, none⟩ ∧ w.cell? ⟨b, off + k * 3, none⟩ = some (.bool l[k]!.busy) ∧ w.cell? ⟨b, off + k * 3 + 1, none⟩ = some (.int .i64 l[k]!.last) ∧ w.cell? ⟨b, off + k * 3 + 2, none⟩ = some (.int .i64 l[k]!.til) := by
  obtain ⟨b, off, c', hv', hbs, hh⟩ := hv.at_ hk
  injection hv' with h1
  exact ⟨b, off, h1, hh k hk⟩

theorem same_of {l m : List Ad} (hl : l.length = m.length) (h : ∀ j, j < l.length → l[j]! = m[j]!) : l = m := by
  apply List.ext_getElem hl
  intro j h1 h2
  have := h j h1
  simpa [h1, h2] using this

set_option maxHeartbeats 2000000 in
theorem same_any (v1 v2 : Value) (l m : List Ad) (w : World) (h1 : Sl w v1 l) (h2 : Sl w v2 m) :
    Calls Try.prog 18 #[v1, v2] w fun e w' => e = .returned (.bool (decide (l = m))) ∧ Below w.heap.size w w' := by
  have hbig := h1.1
  have hbig2 := h2.1
  obtain ⟨a1, c1, hf1⟩ := h1.form
  obtain ⟨a2, c2, hf2⟩ := h2.form
  subst hf1
  subst hf2
  by_cases hlen : l.length = m.length
  · have H1 := Lib.hid (fun k hk => h1.cellsAt k hk)
    have H2 := Lib.hid (fun k hk => h2.cellsAt k hk)
    clear h1 h2 hbig2
    rw [← hlen]
    obtain ⟨n, hn⟩ : ∃ n, n = l.length := ⟨_, rfl⟩
    have HN1 := Lib.hid hn
    have HN2 := Lib.hid (hn.trans hlen)
    rw [← hn] at hbig ⊢
    clear hn hlen
    have heq : (n != n) = false := by simp
    have hne := run_neqAd
    have hguard := guard46
    generalize hr : decide (l = m) = r
    have HR := Lib.hid hr
    clear hr
    go_enter Try.func18, Try.ntmps18
    go_wp2
    go_loopg [5] (n + 1) (fun gg s5 wr => ∃ k : Nat, k ≤ n ∧ n - k < gg ∧ s5 = .int .i64 k ∧ Aside (Below w.heap.size w wr) ∧ Aside (∀ j, j < k → l[j]! = m[j]!))
    case atStart => exact ⟨0, Nat.zero_le _, by omega, rfl, Below.refl _ _, fun j hj => absurd hj (Nat.not_lt_zero _)⟩
    case round =>
      obtain ⟨k, hk, hg, rfl, BW, A⟩ := hrel
      by_cases hlt : k < n
      · have hki : (k : Int) < (n : Int) := by omega
        obtain ⟨b1, o1, rfl, p0, p1, p2⟩ := H1.out k (by rw [← HN1.out]; exact hlt)
        obtain ⟨b2, o2, rfl, q0, q1, q2⟩ := H2.out k (by rw [← HN2.out]; exact hlt)
        replace p0 := keep_cell p0 BW.out
        replace p1 := keep_cell p1 BW.out
        replace p2 := keep_cell p2 BW.out
        replace q0 := keep_cell q0 BW.out
        replace q1 := keep_cell q1 BW.out
        replace q2 := keep_cell q2 BW.out
        have hxy := hne l[k]! m[k]!
        generalize hx : l[k]! = x at p0 p1 p2 hxy
        generalize hy : m[k]! = y at q0 q1 q2 hxy
        have HX := Lib.hid hx
        have HY := Lib.hid hy
        clear hx hy hne
        by_cases he : x = y
        · have HE := Lib.hid he
          simp only [he, decide_true, Bool.not_true] at hxy
          rw [he] at p0 p1 p2
          clear he
          simp only [Ad.val] at hxy
          go_wp2
          go_quiet (fail)
          go_wp2
          go_roundg (n - k)
          case measure => omega
          case rel =>
            refine ⟨k + 1, by omega, by omega, by go_num, ⟨BW.out.os, BW.out.tape, BW.out.output, BW.out.size, BW.out.block⟩, (show Aside _ from fun j hj => ?_)⟩
            by_cases e : j = k
            · subst e
              rw [HX.out, HY.out, HE.out]
            · exact A.out j (by omega)
        · have hf : r = false := by
            rw [← HR.out]
            simp only [decide_eq_false_iff_not]
            intro e
            apply he
            rw [← HX.out, ← HY.out, e]
          subst hf
          simp only [he, decide_false, Bool.not_false] at hxy
          simp only [Ad.val] at hxy
          have HE := Lib.hid he
          clear he
          go_wp2
          go_quiet (fail)
          go_wp2
          go_ret
          exact ⟨rfl, ⟨BW.out.os, BW.out.tape, BW.out.output, BW.out.size, BW.out.block⟩⟩
      · have hki : ¬ (k : Int) < (n : Int) := by omega
        have : k = n := by omega
        subst this
        have hr : r = true := by
          rw [← HR.out]
          simp only [decide_eq_true_eq]
          exact same_of (HN1.out.symm.trans HN2.out) (by rw [← HN1.out]; exact A.out)
        subst hr
        go_wp2
        go_ret
        exact ⟨rfl, BW.out⟩
  · have hne : decide (l = m) = false := by
      simp only [decide_eq_false_iff_not]
      intro e; exact hlen (by rw [e])
    rw [hne]
    have hb : ((l.length : Int) != (m.length : Int)) = true := by simp; omega
    clear hne hlen h1 h2
    go_enter Try.func18, Try.ntmps18
    go_wp2
    go_ret
    exact ⟨rfl, Below.refl _ _⟩
end Go.Proofs.Ytapacdkcekbnaaa
