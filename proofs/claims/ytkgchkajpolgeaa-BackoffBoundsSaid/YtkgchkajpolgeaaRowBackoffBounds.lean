/- Whatever the configuration, the try and the draw: no wait is below 0 or above the most, and of numbers that may be none is below First, and a greater try waits no less; no condition. -/
import Derived.Test.YtkgchkajpolgeaaRows
import Derived.Test.YtkgchkajpolgeaaPureBackoffBounds
import Derived.Test.YtkgchkajpolgeaaOpen
import Derived.WalkKit
import Derived.ProofKit
import Derived.OpenShut
import Derived.ChangeOld
import Derived.Below
import Derived.Carry
namespace Go.Proofs.Ytkgchkajpolgeaa.backoffBounds
open Go.ChangeShapes Go.WideShapes Go.ChangeAt Go.RowKit Go.Proofs.Ytkgchkajpolgeaa.Open Go.Proofs.YtkgchkajpolgeaaW.PrintWords Go.Proofs.Ytkgchkajpolgeaa.PBackoffBounds
theorem own : ownKnob Try.prog.godebug = none := by kernel_rfl
theorem laidOut : laidOutB Try.prog = true := by kernel_rfl

abbrev kc : Kd (List ByteArray × List S99 × Int × Int × Int × Int × Int × Int × Int × Int × Int × Int) :=
  Kd.pair (Kd.slice 9 Kd.string) (Kd.pair (Kd.slice 99 k99) (Kd.pair (Kd.int .i64) (Kd.pair (Kd.int .i64) (Kd.pair (Kd.int .i64) (Kd.pair (Kd.int .i64) (Kd.pair (Kd.int .i64) (Kd.pair (Kd.int .i64) (Kd.pair (Kd.int .i64) (Kd.pair (Kd.int .i64) (Kd.pair (Kd.int .i64) (Kd.int .i64)))))))))))
theorem opens99 : Opens Try.prog 99 k99 (fun _ => True) :=
  (Opens.struct (f := fun x : S99 => (x.f0, x.f1)) (g := fun a => ⟨a.1, a.2⟩) (Try.underlying99) (by kernel_rfl) (fun _ => rfl)
    (OpensF.cons (by kernel_rfl) (Opens.int Try.underlying3) (OpensF.one (by kernel_rfl) (Opens.string Try.underlying9)))).imp (fun _ _ => trivial)
theorem opens25 : Opens Try.prog 25 kc (fun _ => True) := by
  have i := Opens.int Try.underlying3
  have ei : Try.prog.cellsOf 3 = (Kd.int .i64).sz := by kernel_rfl
  refine (Opens.tuple Try.underlying25 (by kernel_rfl) (OpensF.cons (by kernel_rfl) (Opens.slice Try.underlying22 (by kernel_rfl) (Opens.string Try.underlying9))
    (OpensF.cons (by kernel_rfl) (Opens.slice Try.underlying23 (by kernel_rfl) opens99) (OpensF.cons ei i (OpensF.cons ei i (OpensF.cons ei i (OpensF.cons ei i (OpensF.cons ei i (OpensF.cons ei i (OpensF.cons ei i (OpensF.cons ei i (OpensF.cons ei i (OpensF.one ei i))))))))))))).imp (fun _ _ => trivial)

theorem openConfig {W : World} {v : Value} {c : List ByteArray × List S99 × Int × Int × Int × Int × Int × Int × Int × Int × Int × Int} (hv : Value.okWide Try.prog W .any 0 25 v) (h : kc.K W c v.cells.toList) :
    ∃ A0 c0 A1 c1, v = .agg #[.slice A0 c.1.length c0, .slice A1 c.2.1.length c1, .int .i64 c.2.2.1, .int .i64 c.2.2.2.1, .int .i64 c.2.2.2.2.1, .int .i64 c.2.2.2.2.2.1, .int .i64 c.2.2.2.2.2.2.1, .int .i64 c.2.2.2.2.2.2.2.1, .int .i64 c.2.2.2.2.2.2.2.2.1, .int .i64 c.2.2.2.2.2.2.2.2.2.1, .int .i64 c.2.2.2.2.2.2.2.2.2.2.1, .int .i64 c.2.2.2.2.2.2.2.2.2.2.2] ∧
      Kd.C Kd.string W A0 c.1.length c.1 ∧ c.1.length ≤ c0 ∧ Kd.C k99 W A1 c.2.1.length c.2.1 ∧ c.2.1.length ≤ c1 := by
  unfold Value.okWide at hv
  rw [Try.underlying25] at hv
  obtain ⟨cs, rfl, _, _⟩ := hv
  obtain ⟨_, _, he, ⟨A0, c0, rfl, hl0, hc0⟩, _, _, rfl, ⟨A1, c1, rfl, hl1, hc1⟩, _, _, rfl, rfl, _, _, rfl, rfl, _, _, rfl, rfl, _, _, rfl, rfl, _, _, rfl, rfl, _, _, rfl, rfl, _, _, rfl, rfl, _, _, rfl, rfl, _, _, rfl, rfl, rfl⟩ := h
  refine ⟨A0, c0, A1, c1, ?_, hc0, hl0, hc1, hl1⟩
  have : cs.toList = _ := he
  rw [← Array.toList_inj.1 (this.trans rfl : cs.toList = (#[_, _, _, _, _, _, _, _, _, _, _, _] : Array Value).toList)]

set_option maxRecDepth 100000 in
theorem lifted (os : Os) (started : os.Started) (H : Type) (enc : TypeId × Value → H) :
    ReturnsInHanded {} Try.checked os 4 .any (Rows.backoffBoundsSpec.pre6 enc Try.prog Try.f4 Rows.backoffBoundsRow.domain false) (Rows.backoffBoundsSpec.post enc Try.prog Try.f4 false true false false) := by
  refine returnsInHanded_of_change (C := Try.checked) own started (by kernel_rfl) Try.func4
    (ChangeSpec.witness6 (enc := enc) (C := Try.checked) false ⟨#[], #[.agg #[.slice none 0 0, .slice none 0 0, .int .i64 0, .int .i64 0, .int .i64 0, .int .i64 0, .int .i64 0, .int .i64 0, .int .i64 0, .int .i64 0, .int .i64 0, .int .i64 0], .int .i64 0, .int .i64 0], []⟩ 8 (by kernel_rfl) (by kernel_rfl) (by kernel_rfl) (by kernel_rfl)) ?_
  intro W base args ds gs before hval0 hW hcnd _
  have hval : ∀ (j : Nat) t v, Try.f4.params[j]? = some t → args[j]? = some v → Value.okWide Try.prog W .any base t v := hval0
  have hW' := hW
  obtain ⟨p, q, hA0, hV, rfl, hfz, hnd⟩ := hW
  have hA : DataW.TrodAll enc Try.prog W 0 (fun _ => true) true Try.f4.params.toList args.toList ds p := hA0
  rw [Try.params4] at hA hval
  obtain ⟨v0, v1, v2, d0, d1, d2, p0, p1, p2, rfl, rfl, rfl, h0, h1, h2⟩ := trodAll_three hA
  obtain ⟨rfl, rfl⟩ := trodVars_none hV
  have k0 := h0
  have lt0 : ∀ x ∈ p0, x.block < W.heap.size := by
    obtain ⟨m, hm⟩ := k0
    exact DataW.trod_lt m _ _ _ hm
  obtain ⟨c, hc, _⟩ := opens25.read h0
  have hv0 := hval 0 25 v0 rfl rfl
  obtain ⟨A0, c0, A1, c1, rfl, g0, g1, g2, g3⟩ := openConfig (v := v0) (by unfold Value.okWide at hv0 ⊢; exact hv0) hc
  obtain ⟨x, rfl, rfl, rfl, wx⟩ := open_int Try.underlying3 (hval 1 3 v1 rfl rfl) h1
  obtain ⟨y, rfl, rfl, rfl, wy⟩ := open_int Try.underlying3 (hval 2 3 v2 rfl rfl) h2
  clear hA0 hval0
  refine (inkhornlaw18_BackoffBounds.calls 8 A0 c0 c.1 A1 c1 c.2.1 _ _ _ _ _ _ _ _ _ _ x y W g0 g1 g2 g3 (law_f _ _ _ _ _ _ _ _ _ _ _ _ x y)).mono fun e W' ⟨he, bel⟩ => ?_
  subst he
  exact ⟨_, rfl, _, _, _, [], _, [], hW', trodAll_mk1 (shut_bool Try.underlying4 _), trodAll_mk3 (Below.trod laidOut (by kernel_rfl) (of_decide_eq_true (by kernel_rfl)) k0 bel lt0) (shut_int Try.underlying3 wx) (shut_int Try.underlying3 wy), rfl, bel.frame _, fun h => by cases h⟩

theorem over : Rows.backoffBoundsRow.holds Try.pinned (OpenSpec.ofChange Rows.backoffBoundsSpec) :=
  OpenClaim.holds_of_wide 4 Try.f4 rfl rfl rfl rfl rfl rfl rfl ⟨rfl, rfl, rfl, rfl, rfl⟩ rfl rfl rfl rfl rfl (by kernel_rfl) Try.func4 (by kernel_rfl)
    (of_decide_eq_true (by kernel_rfl)) (by unfold Func.isWrapper; first | (rw [if_pos (by decide +kernel)]; kernel_rfl) | (rw [if_neg (by decide +kernel)]; exact ⟨rfl, rfl⟩))
    (fun os started H enc _ => lifted os started H enc)
theorem proved : Rows.BackoffBoundsSaid := over
#print axioms proved
end Go.Proofs.Ytkgchkajpolgeaa.backoffBounds
namespace Go.Proofs.Ytkgchkajpolgeaa
theorem backoffBounds_holds : Rows.BackoffBoundsSaid := backoffBounds.proved
end Go.Proofs.Ytkgchkajpolgeaa
