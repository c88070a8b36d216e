/- Proved: the law EventUnlike, for every two events: of unlike ones the bytes are unlike. No condition. -/
import Derived.Test.YthkbeigimdgamaaEventU
import Derived.ProofKit
import Derived.OpenShut
import Derived.SizedLaws
import Derived.ShutString
import Derived.ChangeMaps5
import Derived.ChangeOld
import Derived.Deep.Slices
import Derived.Deep.Strs
import Derived.Lib.SmallJoins
namespace Go.Proofs.Ythkbeigimdgamaa.eventUnlike
open Go Go.Joins Go.ChangeShapes Go.WideShapes Go.ChangeAt Go.RowKit Go.Deep

section
variable {H : Type} {enc : TypeId × Value → H} {P : Program} {w : World} {base : Nat} {spare : Nat → Bool} {held : Bool}
theorem open_agg8 {r : Reach} {b0 : Nat} {t : TypeId} {f0 f1 f2 f3 f4 f5 f6 f7 : Field} {v : Value} {d : DataW H} {p : List MemPlace} (hs : P.underlying t = some (.struct #[f0, f1, f2, f3, f4, f5, f6, f7])) (hone : oneCellFields P #[f0, f1, f2, f3, f4, f5, f6, f7] = true) (hC : P.cellsOf t = 8)
    (hv : Value.okWide P w r b0 t v) (h : DataW.Trod enc P w base spare held t v d p) :
    ∃ (v0 v1 v2 v3 v4 v5 v6 v7 : Value) (y0 y1 y2 y3 y4 y5 y6 y7 : DataW H × List MemPlace) (n : Nat), v = .agg #[v0, v1, v2, v3, v4, v5, v6, v7] ∧
      DataW.trod enc P w base spare held n f0.type [v0] = some y0 ∧ DataW.trod enc P w base spare held n f1.type [v1] = some y1 ∧ DataW.trod enc P w base spare held n f2.type [v2] = some y2 ∧ DataW.trod enc P w base spare held n f3.type [v3] = some y3 ∧ DataW.trod enc P w base spare held n f4.type [v4] = some y4 ∧ DataW.trod enc P w base spare held n f5.type [v5] = some y5 ∧ DataW.trod enc P w base spare held n f6.type [v6] = some y6 ∧ DataW.trod enc P w base spare held n f7.type [v7] = some y7 := by
  obtain ⟨cs, rfl, hsz⟩ := okWide_struct hs hv
  obtain ⟨l⟩ := cs
  match l, hsz.trans hC with
  | [c0, c1, c2, c3, c4, c5, c6, c7], _ =>
    obtain ⟨fuel, hf⟩ := h
    obtain ⟨xs, n, _, hx, _, hlen, hg⟩ := DataW.trod_struct hs hf
    obtain ⟨o0, k0⟩ := hone_of hone 0 f0 rfl
    obtain ⟨o1, k1⟩ := hone_of hone 1 f1 rfl
    obtain ⟨o2, k2⟩ := hone_of hone 2 f2 rfl
    obtain ⟨o3, k3⟩ := hone_of hone 3 f3 rfl
    obtain ⟨o4, k4⟩ := hone_of hone 4 f4 rfl
    obtain ⟨o5, k5⟩ := hone_of hone 5 f5 rfl
    obtain ⟨o6, k6⟩ := hone_of hone 6 f6 rfl
    obtain ⟨o7, k7⟩ := hone_of hone 7 f7 rfl
    match xs, hlen with
    | [y0, y1, y2, y3, y4, y5, y6, y7], _ =>
      exact ⟨c0, c1, c2, c3, c4, c5, c6, c7, y0, y1, y2, y3, y4, y5, y6, y7, n, rfl, by simpa [Value.cells, o0, k0] using hg 0 f0 rfl, by simpa [Value.cells, o1, k1] using hg 1 f1 rfl, by simpa [Value.cells, o2, k2] using hg 2 f2 rfl, by simpa [Value.cells, o3, k3] using hg 3 f3 rfl, by simpa [Value.cells, o4, k4] using hg 4 f4 rfl, by simpa [Value.cells, o5, k5] using hg 5 f5 rfl, by simpa [Value.cells, o6, k6] using hg 6 f6 rfl, by simpa [Value.cells, o7, k7] using hg 7 f7 rfl⟩
end

theorem own : ownKnob Try.prog.godebug = none := by kernel_rfl
theorem laidOut : laidOutB Try.prog = true := by kernel_rfl

theorem cellsT : Try.prog.cellsOf 43 = 8 := by kernel_rfl

set_option linter.unusedVariables false
set_option maxRecDepth 100000 in
set_option maxHeartbeats 1600000 in
theorem lifted (os : Os) (started : os.Started) (H : Type) (enc : TypeId × Value → H) :
    ReturnsInHanded {} Try.checked os 9 .any (Rows.eventUnlikeSpec.pre6 enc Try.prog Try.f9 Rows.eventUnlikeRow.domain false) (Rows.eventUnlikeSpec.post enc Try.prog Try.f9 false true false false) := by
  refine returnsInHanded_of_change (C := Try.checked) own started (by kernel_rfl) Try.func9
    (ChangeSpec.witness6 (enc := enc) (C := Try.checked) false ⟨#[], #[.agg #[.int .i64 0, .int .i64 0, .int .i64 0, .int .i64 0, .int .i64 0, .int .i64 0, .int .i64 0, .int .i64 0], .agg #[.int .i64 0, .int .i64 0, .int .i64 0, .int .i64 0, .int .i64 0, .int .i64 0, .int .i64 0, .int .i64 0]], []⟩ 8 (by kernel_rfl) (by kernel_rfl) (by kernel_rfl) (by kernel_rfl)) ?_
  intro W base args ds gs before hval0 hW hcnd _
  have hval : ∀ (j : Nat) t v, Try.f9.params[j]? = some t → args[j]? = some v → Value.okWide Try.prog W .any base t v := hval0
  have hW' := hW
  obtain ⟨p, q, hA0, hV, rfl, hfz, hnd⟩ := hW
  have hA : DataW.TrodAll enc Try.prog W 0 (fun _ => true) true Try.f9.params.toList args.toList ds p := hA0
  rw [Try.params9] at hA hval
  obtain ⟨v0, vs0, d0, ds0, p0, q0, hargs, rfl, rfl, h0, r0⟩ := trodAll_cons hA
  obtain ⟨v1, vs1, d1, ds1, p1, q1, rfl, rfl, rfl, h1, r1⟩ := trodAll_cons r0
  obtain ⟨rfl, rfl, rfl⟩ := trodAll_nil r1
  obtain rfl : args = #[v0, v1] := by cases args; simp_all
  obtain ⟨rfl, rfl⟩ := trodVars_none hV
  have k0 := h0
  have lt0 : ∀ x ∈ p0, x.block < W.heap.size := by obtain ⟨m, hm⟩ := k0; exact DataW.trod_lt m _ _ _ hm
  obtain ⟨u0_0, u0_1, u0_2, u0_3, u0_4, u0_5, u0_6, u0_7, y0_0, y0_1, y0_2, y0_3, y0_4, y0_5, y0_6, y0_7, n0, rfl, g0_0, g0_1, g0_2, g0_3, g0_4, g0_5, g0_6, g0_7⟩ := open_agg8 Try.underlying43 (by kernel_rfl) cellsT (hval 0 43 v0 rfl rfl) h0
  obtain ⟨c0_0, e, _, _⟩ := DataW.trod_int Try.underlying3 g0_0
  obtain rfl : u0_0 = .int .i64 c0_0 := by simpa using e
  clear e
  obtain ⟨c0_1, e, _, _⟩ := DataW.trod_int Try.underlying3 g0_1
  obtain rfl : u0_1 = .int .i64 c0_1 := by simpa using e
  clear e
  obtain ⟨c0_2, e, _, _⟩ := DataW.trod_int Try.underlying3 g0_2
  obtain rfl : u0_2 = .int .i64 c0_2 := by simpa using e
  clear e
  obtain ⟨c0_3, e, _, _⟩ := DataW.trod_int Try.underlying3 g0_3
  obtain rfl : u0_3 = .int .i64 c0_3 := by simpa using e
  clear e
  obtain ⟨c0_4, e, _, _⟩ := DataW.trod_int Try.underlying3 g0_4
  obtain rfl : u0_4 = .int .i64 c0_4 := by simpa using e
  clear e
  obtain ⟨c0_5, e, _, _⟩ := DataW.trod_int Try.underlying3 g0_5
  obtain rfl : u0_5 = .int .i64 c0_5 := by simpa using e
  clear e
  obtain ⟨c0_6, e, _, _⟩ := DataW.trod_int Try.underlying3 g0_6
  obtain rfl : u0_6 = .int .i64 c0_6 := by simpa using e
  clear e
  obtain ⟨c0_7, e, _, _⟩ := DataW.trod_int Try.underlying3 g0_7
  obtain rfl : u0_7 = .int .i64 c0_7 := by simpa using e
  clear e
  have k1 := h1
  have lt1 : ∀ x ∈ p1, x.block < W.heap.size := by obtain ⟨m, hm⟩ := k1; exact DataW.trod_lt m _ _ _ hm
  obtain ⟨u1_0, u1_1, u1_2, u1_3, u1_4, u1_5, u1_6, u1_7, y1_0, y1_1, y1_2, y1_3, y1_4, y1_5, y1_6, y1_7, n1, rfl, g1_0, g1_1, g1_2, g1_3, g1_4, g1_5, g1_6, g1_7⟩ := open_agg8 Try.underlying43 (by kernel_rfl) cellsT (hval 1 43 v1 rfl rfl) h1
  obtain ⟨c1_0, e, _, _⟩ := DataW.trod_int Try.underlying3 g1_0
  obtain rfl : u1_0 = .int .i64 c1_0 := by simpa using e
  clear e
  obtain ⟨c1_1, e, _, _⟩ := DataW.trod_int Try.underlying3 g1_1
  obtain rfl : u1_1 = .int .i64 c1_1 := by simpa using e
  clear e
  obtain ⟨c1_2, e, _, _⟩ := DataW.trod_int Try.underlying3 g1_2
  obtain rfl : u1_2 = .int .i64 c1_2 := by simpa using e
  clear e
  obtain ⟨c1_3, e, _, _⟩ := DataW.trod_int Try.underlying3 g1_3
  obtain rfl : u1_3 = .int .i64 c1_3 := by simpa using e
  clear e
  obtain ⟨c1_4, e, _, _⟩ := DataW.trod_int Try.underlying3 g1_4
  obtain rfl : u1_4 = .int .i64 c1_4 := by simpa using e
  clear e
  obtain ⟨c1_5, e, _, _⟩ := DataW.trod_int Try.underlying3 g1_5
  obtain rfl : u1_5 = .int .i64 c1_5 := by simpa using e
  clear e
  obtain ⟨c1_6, e, _, _⟩ := DataW.trod_int Try.underlying3 g1_6
  obtain rfl : u1_6 = .int .i64 c1_6 := by simpa using e
  clear e
  obtain ⟨c1_7, e, _, _⟩ := DataW.trod_int Try.underlying3 g1_7
  obtain rfl : u1_7 = .int .i64 c1_7 := by simpa using e
  clear e
  clear hA0 hval0
  refine (eventUnlike_walk c0_0 c0_1 c0_2 c0_3 c0_4 c0_5 c0_6 c0_7 c1_0 c1_1 c1_2 c1_3 c1_4 c1_5 c1_6 c1_7 W).mono fun e W' ⟨he, bel⟩ => ?_
  subst he
  exact ⟨_, rfl, _, _, _, [], _, [], hW', trodAll_mk1 (shut_bool Try.underlying4 _), (trodAll_cons_mk (Below.trod laidOut (by kernel_rfl) (of_decide_eq_true (by kernel_rfl)) k0 bel lt0) (trodAll_cons_mk (Below.trod laidOut (by kernel_rfl) (of_decide_eq_true (by kernel_rfl)) k1 bel lt1) trodAll_mk0)), rfl, bel.frame _, fun h => by cases h⟩

theorem over : Rows.eventUnlikeRow.holds Try.pinned (OpenSpec.ofChange Rows.eventUnlikeSpec) :=
  OpenClaim.holds_of_wide 9 Try.f9 rfl rfl rfl rfl rfl rfl rfl ⟨rfl, rfl, rfl, rfl, rfl⟩ rfl rfl rfl rfl rfl (by kernel_rfl) Try.func9 (by kernel_rfl)
    (of_decide_eq_true (by kernel_rfl)) (by unfold Func.isWrapper; first | (rw [if_pos (by decide +kernel)]; kernel_rfl) | (rw [if_neg (by decide +kernel)]; exact ⟨rfl, rfl⟩))
    (fun os started H enc _ => lifted os started H enc)

/-- The statement. -/
theorem proved : Rows.EventUnlikeSaid := over
#print axioms proved
end Go.Proofs.Ythkbeigimdgamaa.eventUnlike
