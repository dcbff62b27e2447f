/- What the statement TraceParts' functions come to when they are called; its waking. -/
import Derived.Test.YtkgchkajpolgeaaTPure
import Derived.Test.YtkgchkajpolgeaaRd
namespace Go.Proofs.Ytkgchkajpolgeaa.PTraceParts
open Go.RowKit Go.Proofs.YtkgchkajpolgeaaW.PrintWords Go.Proofs.YtkgchkajpolgeaaW.PrintLast Go.Proofs.YtkgchkajpolgeaaW.PrintMore
set_option linter.unusedVariables false
set_option linter.unusedSimpArgs false
theorem drawn_below {w w' : World} (h : Drawn0 w w') : Below w.heap.size w w' := by
  obtain ⟨n, rfl⟩ := h
  exact pw_below_drewN (Below.refl _ _) n
theorem great_calls (A0 : Option Addr) (c0 : Nat) (l : List S48) (w : World) (hr : Kd.C k48 w A0 l.length l) (hc : l.length ≤ c0) :
    Calls Try.prog 15 #[.slice A0 l.length c0] w fun e w' => e = .returned (.bool (gB l)) ∧ Below w.heap.size w w' := by
  obtain ⟨k, hk⟩ := great_f l
  exact (inkhornlaw26_great.calls k A0 c0 l (gB l) w hr hc hk).mono fun _ _ h => ⟨h.1, drawn_below h.2⟩
theorem of_calls (A0 : Option Addr) (c0 : Nat) (l : List S48) (w : World) (hr : Kd.C k48 w A0 l.length l) (hc : l.length ≤ c0) (h : small l) :
    Calls Try.prog 17 #[.slice A0 l.length c0] w fun e w' => e = .returned (.agg #[.int .i64 (sSent l), .int .i64 (sGot l), .int .i64 (sLost l), .int .i64 (cnt 3 l), .int .i64 (cnt 2 l), .int .i64 (cnt 1 l)]) ∧ Below w.heap.size w w' :=
  trace_Of.calls 201 A0 c0 l _ _ _ _ _ _ w hr hc (of_f l h)
theorem asked_calls (A0 : Option Addr) (c0 : Nat) (l : List S48) (w : World) (hr : Kd.C k48 w A0 l.length l) (hc : l.length ≤ c0) (h : l.length ≤ 100) :
    Calls Try.prog 20 #[.slice A0 l.length c0] w fun e w' => ∃ v0_ : Value, e = .returned (v0_) ∧ Kd.R (Kd.int .i64) 3 w' w.heap.size (fun _ => True) v0_ (asked l) ∧ Below w.heap.size w w' :=
  trace_Asked.calls 101 A0 c0 l _ w hr hc (asked_f l h)
theorem same_calls (A0 : Option Addr) (c0 : Nat) (l0 : List Int) (A1 : Option Addr) (c1 : Nat) (l1 : List Int) (w : World) (hr0 : Kd.C (Kd.int .i64) w A0 l0.length l0) (hc0 : l0.length ≤ c0) (hr1 : Kd.C (Kd.int .i64) w A1 l1.length l1) (hc1 : l1.length ≤ c1) (h : l0.length ≤ 1000) :
    Calls Try.prog 19 #[.slice A0 l0.length c0, .slice A1 l1.length c1] w fun e w' => e = .returned (.bool (decide (l0 = l1))) ∧ Below w.heap.size w w' :=
  (inkhornlaw0_SameInts.calls 1001 A0 c0 l0 A1 c1 l1 _ w hr0 hc0 hr1 hc1 (same_f l0 l1 h)).mono fun _ _ h => ⟨h.1, drawn_below h.2⟩

def wake1 : S48 := ⟨z45, 0, 0, [⟨0, 0, 1⟩, ⟨1, 0, 1⟩], -1, []⟩
def wake2 : S48 := ⟨z45, 3, 1, [], 0, []⟩
def wakes : List S48 := [wake1, wake2]
theorem wakes_good : ∀ r ∈ wakes, good48 r := by
  intro r hr
  simp [wakes] at hr
  rcases hr with rfl | rfl
  all_goals (unfold good48 wf64; decide +kernel)
theorem wakes_small : small wakes := ⟨by decide, fun r hr => (wakes_good r hr).1⟩
theorem wakes_pend {ss : List Int} (h : ss.Pairwise (· < ·)) (hm : ∀ x, x ∈ ss ↔ pendIn wakes x) : ss = [1] := by
  have hx : ∀ x, x ∈ ss ↔ x = 1 := by
    intro x
    rw [hm x]
    simp [pendIn, sentIn, goneIn, wakes, wake1, wake2]
    omega
  match ss, h, hx with
  | [], _, hx => have := (hx 1).2 rfl; simp at this
  | [a], _, hx => have := (hx a).1 (by simp); rw [this]
  | a :: b :: l, h, hx =>
    have h1 := (hx a).1 (by simp)
    have h2 := (hx b).1 (by simp)
    have h3 := (List.pairwise_cons.1 h).1 b (by simp)
    omega

theorem of_wakes (A0 : Option Addr) (w : World) (hr : Kd.C k48 w A0 2 wakes) :
    Calls Try.prog 17 #[.slice A0 2 2] w fun e w' => e = .returned (.agg #[.int .i64 2, .int .i64 1, .int .i64 0, .int .i64 1, .int .i64 0, .int .i64 0]) ∧ Below w.heap.size w w' :=
  of_calls A0 2 wakes w hr (by decide) wakes_small
theorem asked_wakes (A0 : Option Addr) (w : World) (hr : Kd.C k48 w A0 2 wakes) :
    Calls Try.prog 20 #[.slice A0 2 2] w fun e w' => ∃ v0_ : Value, e = .returned (v0_) ∧ Kd.R (Kd.int .i64) 3 w' w.heap.size (fun _ => True) v0_ [1] ∧ Below w.heap.size w w' :=
  asked_calls A0 2 wakes w hr (by decide) (by decide)
set_option maxHeartbeats 2000000 in
set_option maxRecDepth 100000 in
theorem awake_calls (w : World) : Calls Try.prog 16 #[] w fun e w' => e = .returned (.bool true) ∧ Below w.heap.size w w' := by
  have hu48 := Try.underlying48
  have hu35 := Try.underlying35
  have hu50 := Try.underlying50
  go_enter Try.func16, Try.ntmps16
  go_wp2_with fail
  refine Rd.gen_call (R := fun W => Kd.C k48 W (some ⟨w.heap.size + 1, 0, none⟩) 2 wakes ∧ Below w.heap.size w W) ⟨?_, ?_⟩ ?_
  · refine Rd.C_of_blk (d := k48) (xs := wakes) (Rd.blk_at (by simp)) (by decide) ?_
    refine Rd.reps_cons (c := [_, _, _, _, _, _, _, _, _, _, _, _]) (k48_mk _ wake1 (A9 := some ⟨w.heap.size, 0, none⟩) (c9 := 2) (A11 := none) (c11 := 0) (by decide) ?_ (by decide) (Kd.C_nil _ _)) rfl (Rd.reps_cons (c := [_, _, _, _, _, _, _, _, _, _, _, _]) (k48_mk _ wake2 (A9 := none) (c9 := 0) (A11 := none) (c11 := 0) (by decide) (Kd.C_nil _ _) (by decide) (Kd.C_nil _ _)) rfl (Rd.reps_nil _ _))
    refine Rd.C_of_blk (d := k50) (xs := wake1.f3) (blk_alloc (blk_new _ _) _) (by decide) ?_
    exact Rd.reps_cons (c := [_, _, _]) (k50_mk _ ⟨0, 0, 1⟩) rfl (Rd.reps_cons (c := [_, _, _]) (k50_mk _ ⟨1, 0, 1⟩) rfl (Rd.reps_nil _ _))
  · exact ((Below.refl _ _).alloc (Nat.le_refl _) _).alloc (by simp) _
  rintro W0 ⟨hC, hb0⟩
  refine (pending_calls _ 2 wakes _ hC (by decide) wakes_good).mono ?_
  rintro e w1 ⟨v, ss, rfl, hR, hb, hp, hm⟩
  obtain rfl := wakes_pend hp hm
  obtain ⟨A, c, rfl, hAc, hCA⟩ := Kd.R_reads hR
  have hb1 := hb0.trans (hb.mono hb0.size)
  have hC1 := Kd.C_below hC hb
  clear hC hb0 hR hm hp hb
  go_wp2_with fail
  refine Rd.gen_call (R := fun W => Kd.C k48 W (some ⟨w.heap.size + 1, 0, none⟩) 2 wakes ∧ Below w.heap.size w W ∧ Kd.C (Kd.int .i64) W A 1 [1] ∧ Kd.C (Kd.int .i64) W (some ⟨w1.heap.size, 0, none⟩) 1 [1]) ⟨?_, ?_, ?_, ?_⟩ ?_
  · exact Kd.C_below hC1 ((Below.refl _ _).alloc (Nat.le_refl _) _)
  · exact hb1.alloc hb1.size _
  · exact Kd.C_below hCA ((Below.refl _ _).alloc (Nat.le_refl _) _)
  · exact Rd.C_of_blk (d := Kd.int .i64) (xs := [1]) (blk_new _ _) (by decide) (Rd.reps_cons (c := [_]) rfl rfl (Rd.reps_nil _ _))
  rintro W2 ⟨hC2, hb2, hA, hB⟩
  refine (same_calls A c [1] (some ⟨w1.heap.size, 0, none⟩) 1 [1] W2 hA hAc hB (by decide) (by decide)).mono ?_
  rintro e w3 ⟨rfl, hb⟩
  have hb3 := hb2.trans (hb.mono hb2.size)
  have hC3 := Kd.C_below hC2 hb
  clear hC2 hb2 hA hB hC1 hCA hb1 hb
  go_wp2_with fail
  refine (of_wakes _ _ hC3).mono ?_
  rintro e w4 ⟨rfl, hb4⟩
  have hb := hb3.trans (hb4.mono hb3.size)
  have hC := Kd.C_below hC3 hb4
  clear hb3 hC3 hb4
  go_wp2_with fail
  refine (asked_wakes _ _ hC).mono ?_
  rintro e w5 ⟨v, rfl, hR, hb5⟩
  obtain ⟨A5, c5, rfl, hA5, hC5⟩ := Kd.R_reads hR
  have hb6 := hb.trans (hb5.mono hb.size)
  clear hb hb5 hC hR
  go_wp2_with fail
  refine Rd.gen_call (R := fun W => Below w.heap.size w W ∧ Kd.C (Kd.int .i64) W A5 1 [1] ∧ Kd.C (Kd.int .i64) W (some ⟨w5.heap.size, 0, none⟩) 1 [1]) ⟨?_, ?_, ?_⟩ ?_
  · exact hb6.alloc hb6.size _
  · exact Kd.C_below hC5 ((Below.refl _ _).alloc (Nat.le_refl _) _)
  · exact Rd.C_of_blk (d := Kd.int .i64) (xs := [1]) (blk_new _ _) (by decide) (Rd.reps_cons (c := [_]) rfl rfl (Rd.reps_nil _ _))
  rintro W6 ⟨hb7, hA, hB⟩
  refine (same_calls A5 c5 [1] (some ⟨w5.heap.size, 0, none⟩) 1 [1] W6 hA hA5 hB (by decide) (by decide)).mono ?_
  rintro e w8 ⟨rfl, hb⟩
  have hb9 := hb7.trans (hb.mono hb7.size)
  clear hA hB hb7 hb hb6 hC5
  go_wp2
  go_ret
  exact ⟨rfl, hb9⟩
end Go.Proofs.Ytkgchkajpolgeaa.PTraceParts
