/- The contract of pool.Lease. -/
import Derived.Test.YtapacdkcekbnaaaE
import Derived.Laws.EntriesVeiled
namespace Go.Proofs.Ytapacdkcekbnaaa
open Go Go.RowKit

def ownP (t u : Int) (x : Ad) : Bool := freeB t x && (x.last == u)

/-- What Lease answers. -/
def leaseF (l : List Ad) (u t : Int) : Int × Int :=
  if !(mayB l) || !(userMayB u) || !(tickMayB t) then (0, 1600)
  else if 0 ≤ idx (ownP t u) l then (idx (ownP t u) l, 0)
  else if 0 ≤ idx (ownP t (-1)) l then (idx (ownP t (-1)) l, 0)
  else if 0 ≤ idx (freeB t) l then (idx (freeB t) l, 0)
  else (0, 1601)

set_option maxHeartbeats 1000000 in
theorem lease_bad (v : Value) (l : List Ad) (u t : Int) (w : World) (hv : Sl w v l) (h : (!(mayB l) || !(userMayB u) || !(tickMayB t)) = true) :
    Calls Try.prog 9 #[v, .int .i64 u, .int .i64 t] w fun e w' => e = .returned (.tuple #[.int .i64 0, .int .i64 1600]) ∧ Below w.heap.size w w' := by
  have hb0 : Below w.heap.size w ((w.alloc (.cells #[.int .i64 u] 3)).alloc (.cells #[.int .i64 t] 3)) := ((Below.refl _ _).alloc (Nat.le_refl _) _).alloc (by simp) _
  have hm := may_any v l _ (hv.below hb0)
  have hu := userMay_any u
  have ht := tickMay_any t
  have HB0 := Lib.hid hb0
  have u1 : ((w.alloc (.cells #[.int .i64 u] 3)).alloc (.cells #[.int .i64 t] 3)).cell? ⟨w.heap.size, 0, none⟩ = some (.int .i64 u) := by simp
  have t1 : ((w.alloc (.cells #[.int .i64 u] 3)).alloc (.cells #[.int .i64 t] 3)).cell? ⟨w.heap.size + 1, 0, none⟩ = some (.int .i64 t) := by simp
  have U1 := Lib.hid u1
  have T1 := Lib.hid t1
  clear hv hb0 u1 t1
  generalize mayB l = a at h hm
  generalize userMayB u = b at h hu
  generalize tickMayB t = c at h ht
  cases a
  · clear h hu ht
    go_enter Try.func9, Try.ntmps9
    go_wp2_with (go_at_call 23; refine hm.mono ?_; rintro e w1 ⟨rfl, hb⟩)
    go_ret2
    exact ⟨rfl, HB0.out.trans (hb.mono (by simp <;> omega))⟩
  · cases b
    · clear h ht
      go_enter Try.func9, Try.ntmps9
      go_wp2_with (first | (go_at_call 23; refine hm.mono ?_; rintro e w1 ⟨rfl, hb⟩; have u2 := keep_cell U1.out hb) | (go_at_call 24; refine (hu _).mono ?_; rintro e w' ⟨rfl, rfl⟩))
      go_ret2
      exact ⟨rfl, HB0.out.trans (hb.mono (by simp <;> omega))⟩
    · have hc : c = false := by simpa using h
      subst hc
      clear h
      go_enter Try.func9, Try.ntmps9
      go_wp2_with (first | (go_at_call 23; refine hm.mono ?_; rintro e w1 ⟨rfl, hb⟩; have u2 := keep_cell U1.out hb; have t2 := keep_cell T1.out hb) | (go_at_call 24; refine (hu _).mono ?_; rintro e w' ⟨rfl, rfl⟩) | (go_at_call 25; refine (ht _).mono ?_; rintro e w' ⟨rfl, rfl⟩))
      go_ret2
      exact ⟨rfl, HB0.out.trans (hb.mono (by simp <;> omega))⟩

set_option maxHeartbeats 4000000 in
theorem lease_good (v : Value) (l : List Ad) (u t : Int) (w : World) (hv : Sl w v l) (h1 : mayB l = true) (h2 : userMayB u = true) (h3 : tickMayB t = true) :
    Calls Try.prog 9 #[v, .int .i64 u, .int .i64 t] w fun e w' => e = .returned (.tuple #[.int .i64 (leaseF l u t).1, .int .i64 (leaseF l u t).2]) ∧ Below w.heap.size w w' := by
  have hb0 : Below w.heap.size w ((w.alloc (.cells #[.int .i64 u] 3)).alloc (.cells #[.int .i64 t] 3)) := ((Below.refl _ _).alloc (Nat.le_refl _) _).alloc (by simp) _
  have hm := may_any v l _ (hv.below hb0)
  have hu := userMay_any u
  have ht := tickMay_any t
  have HB0 := Lib.hid hb0
  have HV := Lib.hid hv
  have u1 : ((w.alloc (.cells #[.int .i64 u] 3)).alloc (.cells #[.int .i64 t] 3)).cell? ⟨w.heap.size, 0, none⟩ = some (.int .i64 u) := by simp
  have t1 : ((w.alloc (.cells #[.int .i64 u] 3)).alloc (.cells #[.int .i64 t] 3)).cell? ⟨w.heap.size + 1, 0, none⟩ = some (.int .i64 t) := by simp
  have U1 := Lib.hid u1
  have T1 := Lib.hid t1
  rw [h1] at hm
  rw [h2] at hu
  rw [h3] at ht
  have hL : leaseF l u t = if 0 ≤ idx (ownP t u) l then (idx (ownP t u) l, 0) else if 0 ≤ idx (ownP t (-1)) l then (idx (ownP t (-1)) l, 0) else if 0 ≤ idx (freeB t) l then (idx (freeB t) l, 0) else (0, 1601) := by
    unfold leaseF; simp [h1, h2, h3]
  have HL := Lib.hid hL
  clear hv hb0 u1 t1 h1 h2 h3 hL
  go_enter Try.func9, Try.ntmps9
  go_wp2_with (first | (go_at_call 23; refine hm.mono ?_; rintro e w1 ⟨rfl, hb⟩; have u2 := keep_cell U1.out hb; have t2 := keep_cell T1.out hb) | (go_at_call 24; refine (hu _).mono ?_; rintro e w' ⟨rfl, rfl⟩) | (go_at_call 25; refine (ht _).mono ?_; rintro e w' ⟨rfl, rfl⟩))
  have hb2 : Below w.heap.size w w1 := HB0.out.trans (hb.mono (by simp <;> omega))
  have HB2 := Lib.hid hb2
  have hsz : w.heap.size + 2 ≤ w1.heap.size := by have := hb.size; simp at this; omega
  have e27 := enters27
  have e28 := enters28
  have e26 := enters26
  have hbA : Below w1.heap.size w1 ((w1.alloc (.cells #[.func (.func 26) #[] #[.pointer (some ⟨w.heap.size + 1, 0, none⟩)]] 51)).alloc (.cells #[.func (.func 27) #[] #[.pointer (some ⟨w1.heap.size, 0, none⟩), .pointer (some ⟨w.heap.size, 0, none⟩)], .func (.func 28) #[] #[.pointer (some ⟨w1.heap.size, 0, none⟩)], .func (.func 26) #[] #[.pointer (some ⟨w.heap.size + 1, 0, none⟩)]] 51)) := ((Below.refl _ _).alloc (Nat.le_refl _) _).alloc (by simp) _
  have U2 := keep_cell u2 hbA
  have T2 := keep_cell t2 hbA
  have F2 : ((w1.alloc (.cells #[.func (.func 26) #[] #[.pointer (some ⟨w.heap.size + 1, 0, none⟩)]] 51)).alloc (.cells #[.func (.func 27) #[] #[.pointer (some ⟨w1.heap.size, 0, none⟩), .pointer (some ⟨w.heap.size, 0, none⟩)], .func (.func 28) #[] #[.pointer (some ⟨w1.heap.size, 0, none⟩)], .func (.func 26) #[] #[.pointer (some ⟨w.heap.size + 1, 0, none⟩)]] 51)).cell? ⟨w1.heap.size, 0, none⟩ = some (.func (.func 26) #[] #[.pointer (some ⟨w.heap.size + 1, 0, none⟩)]) := by simp
  have S0 : ((w1.alloc (.cells #[.func (.func 26) #[] #[.pointer (some ⟨w.heap.size + 1, 0, none⟩)]] 51)).alloc (.cells #[.func (.func 27) #[] #[.pointer (some ⟨w1.heap.size, 0, none⟩), .pointer (some ⟨w.heap.size, 0, none⟩)], .func (.func 28) #[] #[.pointer (some ⟨w1.heap.size, 0, none⟩)], .func (.func 26) #[] #[.pointer (some ⟨w.heap.size + 1, 0, none⟩)]] 51)).cell? ⟨w1.heap.size + 1, 0, none⟩ = some (.func (.func 27) #[] #[.pointer (some ⟨w1.heap.size, 0, none⟩), .pointer (some ⟨w.heap.size, 0, none⟩)]) := by simp
  have S1 : ((w1.alloc (.cells #[.func (.func 26) #[] #[.pointer (some ⟨w.heap.size + 1, 0, none⟩)]] 51)).alloc (.cells #[.func (.func 27) #[] #[.pointer (some ⟨w1.heap.size, 0, none⟩), .pointer (some ⟨w.heap.size, 0, none⟩)], .func (.func 28) #[] #[.pointer (some ⟨w1.heap.size, 0, none⟩)], .func (.func 26) #[] #[.pointer (some ⟨w.heap.size + 1, 0, none⟩)]] 51)).cell? ⟨w1.heap.size + 1, 1, none⟩ = some (.func (.func 28) #[] #[.pointer (some ⟨w1.heap.size, 0, none⟩)]) := by simp
  have S2 : ((w1.alloc (.cells #[.func (.func 26) #[] #[.pointer (some ⟨w.heap.size + 1, 0, none⟩)]] 51)).alloc (.cells #[.func (.func 27) #[] #[.pointer (some ⟨w1.heap.size, 0, none⟩), .pointer (some ⟨w.heap.size, 0, none⟩)], .func (.func 28) #[] #[.pointer (some ⟨w1.heap.size, 0, none⟩)], .func (.func 26) #[] #[.pointer (some ⟨w.heap.size + 1, 0, none⟩)]] 51)).cell? ⟨w1.heap.size + 1, 2, none⟩ = some (.func (.func 26) #[] #[.pointer (some ⟨w.heap.size + 1, 0, none⟩)]) := by simp
  clear hm hu ht hb hb2 u2 t2 HB0 U1 T1
  have HB3 := hbA
  generalize ((w1.alloc (.cells #[.func (.func 26) #[] #[.pointer (some ⟨w.heap.size + 1, 0, none⟩)]] 51)).alloc (.cells #[.func (.func 27) #[] #[.pointer (some ⟨w1.heap.size, 0, none⟩), .pointer (some ⟨w.heap.size, 0, none⟩)], .func (.func 28) #[] #[.pointer (some ⟨w1.heap.size, 0, none⟩)], .func (.func 26) #[] #[.pointer (some ⟨w.heap.size + 1, 0, none⟩)]] 51)) = W2 at *
  have HB4 := HB2.out.trans (HB3.mono (by omega))
  have hV2 := HV.out.below HB4
  have hle0 := HB4.size
  generalize w1.heap.size = n1 at *
  generalize hn0 : w.heap.size = n0 at *
  have HN0 := Lib.hid hn0
  clear hn0
  clear HB2 HB3 hbA
  have CU := Lib.hid U2
  have CT := Lib.hid T2
  have CF := Lib.hid F2
  have C0 := Lib.hid S0
  have C1 := Lib.hid S1
  have C2 := Lib.hid S2
  have HV2 := Lib.hid hV2
  have HBz := Lib.hid HB4
  clear U2 T2 F2 S0 S1 S2 hV2 HB4 HV
  go_loopg [11, 31] 4 (fun gg _ s31 wr => ∃ kk : Nat, kk ≤ 3 ∧ 3 - kk < gg ∧ s31 = .int .i64 kk ∧ Aside (Below W2.heap.size W2 wr) ∧ Aside ((1 ≤ kk → ¬ 0 ≤ idx (ownP t u) l) ∧ (2 ≤ kk → ¬ 0 ≤ idx (ownP t (-1)) l) ∧ (3 ≤ kk → ¬ 0 ≤ idx (freeB t) l)))
  case atStart => exact ⟨0, by omega, by omega, rfl, Below.refl _ _, by omega, by omega, by omega⟩
  case round =>
    obtain ⟨kk, hkk, hg, rfl, BW, A⟩ := hrel
    have hcases : kk = 0 ∨ kk = 1 ∨ kk = 2 ∨ kk = 3 := by omega
    rcases hcases with rfl | rfl | rfl | rfl
    · -- the 0th wish
      have hP : PredOk 27 #[.pointer (some ⟨n1, 0, none⟩), .pointer (some ⟨n0, 0, none⟩)] (ownP t u) wr := fun W x hb => (freeOwn_any x t u _ _ _ W (keep_cell CF.out (Below.next BW.out hb)) (keep_cell CT.out (Below.next BW.out hb)) (keep_cell CU.out (Below.next BW.out hb))).mono fun e w' ⟨he, hw⟩ => ⟨he, Below.next hb hw⟩
      have hcall := indexFunc_any (ownP t u) 27 #[.pointer (some ⟨n1, 0, none⟩), .pointer (some ⟨n0, 0, none⟩)] enters27 v l wr hP (HV2.out.below BW.out)
      have hc := keep_cell C0.out BW.out
      clear hP
      by_cases hi : 0 ≤ idx (ownP t u) l
      · have hfin : leaseF l u t = (idx (ownP t u) l, 0) := by rw [HL.out]; rw [if_pos hi]
        have HF := Lib.hid hfin
        clear hfin
        generalize idx (ownP t u) l = ix at hcall hi HF
        go_wp2_with (go_at_call 29; refine hcall.mono ?_; rintro e w' ⟨rfl, hb'⟩)
        go_ret2
        exact ⟨by rw [HF.out]; rfl, (by rw [HN0.out]; exact HBz.out.trans ((Below.next BW.out hb').mono hle0))⟩
      · have HI := Lib.hid hi
        clear hi
        have hneg : idx (ownP t u) l < 0 := Int.not_le.1 HI.out
        generalize idx (ownP t u) l = ix at hcall hneg
        go_wp2_with (go_at_call 29; refine hcall.mono ?_; rintro e w' ⟨rfl, hb'⟩)
        go_roundg (3 - 0)
        case measure => omega
        case rel => exact ⟨1, by omega, by omega, by go_num, Below.next BW.out hb', fun _ => HI.out, by omega, by omega⟩
    · -- the 1th wish
      have hP : PredOk 28 #[.pointer (some ⟨n1, 0, none⟩)] (ownP t (-1)) wr := fun W x hb => (freeNew_any x t _ _ W (keep_cell CF.out (Below.next BW.out hb)) (keep_cell CT.out (Below.next BW.out hb))).mono fun e w' ⟨he, hw⟩ => ⟨he, Below.next hb hw⟩
      have hcall := indexFunc_any (ownP t (-1)) 28 #[.pointer (some ⟨n1, 0, none⟩)] enters28 v l wr hP (HV2.out.below BW.out)
      have hc := keep_cell C1.out BW.out
      clear hP
      by_cases hi : 0 ≤ idx (ownP t (-1)) l
      · have hfin : leaseF l u t = (idx (ownP t (-1)) l, 0) := by rw [HL.out]; rw [if_neg (A.out.1 (by omega)), if_pos hi]
        have HF := Lib.hid hfin
        clear hfin
        generalize idx (ownP t (-1)) l = ix at hcall hi HF
        go_wp2_with (go_at_call 29; refine hcall.mono ?_; rintro e w' ⟨rfl, hb'⟩)
        go_ret2
        exact ⟨by rw [HF.out]; rfl, (by rw [HN0.out]; exact HBz.out.trans ((Below.next BW.out hb').mono hle0))⟩
      · have HI := Lib.hid hi
        clear hi
        have hneg : idx (ownP t (-1)) l < 0 := Int.not_le.1 HI.out
        generalize idx (ownP t (-1)) l = ix at hcall hneg
        go_wp2_with (go_at_call 29; refine hcall.mono ?_; rintro e w' ⟨rfl, hb'⟩)
        go_roundg (3 - 1)
        case measure => omega
        case rel => exact ⟨2, by omega, by omega, by go_num, Below.next BW.out hb', fun _ => A.out.1 (by omega), fun _ => HI.out, by omega⟩
    · -- the 2th wish
      have hP : PredOk 26 #[.pointer (some ⟨n0 + 1, 0, none⟩)] (freeB t) wr := fun W x hb => (free_any x t _ W (keep_cell CT.out (Below.next BW.out hb)) (World.block_lt_of_cell? _ _ (keep_cell CT.out (Below.next BW.out hb)))).mono fun e w' ⟨he, hw⟩ => ⟨he, Below.next hb hw⟩
      have hcall := indexFunc_any (freeB t) 26 #[.pointer (some ⟨n0 + 1, 0, none⟩)] enters26 v l wr hP (HV2.out.below BW.out)
      have hc := keep_cell C2.out BW.out
      clear hP
      by_cases hi : 0 ≤ idx (freeB t) l
      · have hfin : leaseF l u t = (idx (freeB t) l, 0) := by rw [HL.out]; rw [if_neg (A.out.1 (by omega)), if_neg (A.out.2.1 (by omega)), if_pos hi]
        have HF := Lib.hid hfin
        clear hfin
        generalize idx (freeB t) l = ix at hcall hi HF
        go_wp2_with (go_at_call 29; refine hcall.mono ?_; rintro e w' ⟨rfl, hb'⟩)
        go_ret2
        exact ⟨by rw [HF.out]; rfl, (by rw [HN0.out]; exact HBz.out.trans ((Below.next BW.out hb').mono hle0))⟩
      · have HI := Lib.hid hi
        clear hi
        have hneg : idx (freeB t) l < 0 := Int.not_le.1 HI.out
        generalize idx (freeB t) l = ix at hcall hneg
        go_wp2_with (go_at_call 29; refine hcall.mono ?_; rintro e w' ⟨rfl, hb'⟩)
        go_roundg (3 - 2)
        case measure => omega
        case rel => exact ⟨3, by omega, by omega, by go_num, Below.next BW.out hb', fun _ => A.out.1 (by omega), fun _ => A.out.2.1 (by omega), fun _ => HI.out⟩
    · have hfin : leaseF l u t = (0, 1601) := by rw [HL.out, if_neg (A.out.1 (by omega)), if_neg (A.out.2.1 (by omega)), if_neg (A.out.2.2 (by omega))]
      have HF := Lib.hid hfin
      clear hfin
      go_wp2
      go_ret2
      exact ⟨by rw [HF.out]; rfl, (by rw [HN0.out]; exact HBz.out.trans (BW.out.mono hle0))⟩

theorem lease_any (v : Value) (l : List Ad) (u t : Int) (w : World) (hv : Sl w v l) :
    Calls Try.prog 9 #[v, .int .i64 u, .int .i64 t] w fun e w' => e = .returned (.tuple #[.int .i64 (leaseF l u t).1, .int .i64 (leaseF l u t).2]) ∧ Below w.heap.size w w' := by
  by_cases h : (!(mayB l) || !(userMayB u) || !(tickMayB t)) = true
  · have : leaseF l u t = (0, 1600) := by unfold leaseF; rw [if_pos h]
    rw [this]
    exact lease_bad v l u t w hv h
  · have h' : mayB l = true ∧ userMayB u = true ∧ tickMayB t = true := by simpa [and_assoc] using h
    exact lease_good v l u t w hv h'.1 h'.2.1 h'.2.2
end Go.Proofs.Ytapacdkcekbnaaa
