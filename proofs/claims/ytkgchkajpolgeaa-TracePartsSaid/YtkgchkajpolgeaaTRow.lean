/- Of two lists of records, of at most 50 each: what is told of both is the sum of what is told of each, what is pending of both is pending of one, in order; in every other case the law answers by its waking alone; no condition on the arguments. -/
import Derived.Test.YtkgchkajpolgeaaRows
import Derived.Test.YtkgchkajpolgeaaTLaw
import Derived.Test.YtkgchkajpolgeaaOpen
import Derived.WalkKit
import Derived.ProofKit
import Derived.OpenShut
import Derived.ChangeOld
import Derived.Below
import Derived.Carry
namespace Go.Proofs.Ytkgchkajpolgeaa.traceParts
open Go.ChangeShapes Go.WideShapes Go.ChangeAt Go.RowKit Go.Proofs.Ytkgchkajpolgeaa.Open Go.Proofs.YtkgchkajpolgeaaW.PrintWords Go.Proofs.Ytkgchkajpolgeaa.PTraceParts
theorem own : ownKnob Try.prog.godebug = none := by kernel_rfl
theorem laidOut : laidOutB Try.prog = true := by kernel_rfl
theorem c3 : Try.prog.cellsOf 3 = (Kd.int .i64).sz := by kernel_rfl
theorem i3 : Opens Try.prog 3 (Kd.int .i64) (fun n => (Lit.int .i64 n).wf = true) := Opens.int Try.underlying3
theorem opens43 : Opens Try.prog 43 k43 (fun _ => True) :=
  (Opens.struct (f := fun x : S43 => (x.f0, x.f1, x.f2)) (g := fun a => ⟨a.1, a.2.1, a.2.2⟩) Try.underlying43 (by kernel_rfl) (fun _ => rfl)
    (OpensF.cons (by kernel_rfl) (Opens.string Try.underlying9) (OpensF.cons c3 i3 (OpensF.one c3 i3)))).imp (fun _ _ => trivial)
theorem opens45 : Opens Try.prog 45 k45 (fun _ => True) :=
  (Opens.struct (f := fun x : S45 => (x.f0, x.f1, x.f2, x.f3, x.f4)) (g := fun a => ⟨a.1, a.2.1, a.2.2.1, a.2.2.2.1, a.2.2.2.2⟩) Try.underlying45 (by kernel_rfl) (fun _ => rfl)
    (OpensF.cons c3 i3 (OpensF.cons c3 i3 (OpensF.cons c3 i3 (OpensF.cons c3 i3 (OpensF.one (by kernel_rfl) opens43)))))).imp (fun _ _ => trivial)
theorem opens50 : Opens Try.prog 50 k50 (fun s => wf64 s.f0) :=
  (Opens.struct (f := fun x : S50 => (x.f0, x.f1, x.f2)) (g := fun a => ⟨a.1, a.2.1, a.2.2⟩) Try.underlying50 (by kernel_rfl) (fun _ => rfl)
    (OpensF.cons c3 i3 (OpensF.cons c3 i3 (OpensF.one c3 i3)))).imp (fun _ h => h.1)
theorem opens48 : Opens Try.prog 48 k48 wfr :=
  (Opens.struct (f := fun x : S48 => (x.f0, x.f1, x.f2, x.f3, x.f4, x.f5)) (g := fun a => ⟨a.1, a.2.1, a.2.2.1, a.2.2.2.1, a.2.2.2.2.1, a.2.2.2.2.2⟩) Try.underlying48 (by kernel_rfl) (fun _ => rfl)
    (OpensF.cons (by kernel_rfl) opens45 (OpensF.cons c3 i3 (OpensF.cons c3 i3 (OpensF.cons (by kernel_rfl) (Opens.slice Try.underlying46 (by kernel_rfl) opens50)
      (OpensF.cons c3 i3 (OpensF.one (by kernel_rfl) (Opens.slice Try.underlying37 c3 i3)))))))).imp (fun _ h => ⟨h.2.2.2.1.2, h.2.2.2.2.1, h.2.2.2.2.2.2⟩)
theorem opens32 : Opens Try.prog 32 (Kd.slice 48 k48) (fun l => ∀ r ∈ l, wfr r) := (Opens.slice Try.underlying32 (by kernel_rfl) opens48).imp fun _ h => h.2

theorem openRecs {W : World} {v : Value} {l : List S48} (hv : Value.okWide Try.prog W .any 0 32 v) (h : (Kd.slice 48 k48).K W l v.cells.toList) : ∃ A c, v = .slice A l.length c ∧ l.length ≤ c ∧ Kd.C k48 W A l.length l := by
  obtain ⟨A, len, c, rfl⟩ := okWide_slice Try.underlying32 hv
  obtain ⟨A', c', he, h1, h2⟩ := h
  simp [Value.cells] at he
  obtain ⟨rfl, rfl, rfl⟩ := he
  exact ⟨A, c, rfl, h1, h2⟩

theorem law_any (A0 : Option Addr) (c0 : Nat) (a : List S48) (A1 : Option Addr) (c1 : Nat) (b : List S48) (w : World) (hrA : Kd.C k48 w A0 a.length a) (hcA : a.length ≤ c0) (hrB : Kd.C k48 w A1 b.length b) (hcB : b.length ≤ c1) (hwa : ∀ r ∈ a, wfr r) (hwb : ∀ r ∈ b, wfr r) :
    Calls Try.prog 6 #[.slice A0 a.length c0, .slice A1 b.length c1] w fun e w' => e = .returned (.bool true) ∧ Below w.heap.size w w' := by
  by_cases h : gB a = true ∨ gB b = true ∨ 50 < a.length ∨ 50 < b.length
  · exact law_great A0 c0 a A1 c1 b w hrA hcA hrB hcB h
  · simp only [not_or, Bool.not_eq_true] at h
    exact law_small A0 c0 a A1 c1 b w hrA hcA hrB hcB h.1 h.2.1 (by omega) (by omega) hwa hwb

set_option maxRecDepth 100000 in
theorem lifted (os : Os) (started : os.Started) (H : Type) (enc : TypeId × Value → H) :
    ReturnsInHanded {} Try.checked os 6 .any (Rows.tracePartsSpec.pre6 enc Try.prog Try.f6 Rows.tracePartsRow.domain false) (Rows.tracePartsSpec.post enc Try.prog Try.f6 false true false false) := by
  refine returnsInHanded_of_change (C := Try.checked) own started (by kernel_rfl) Try.func6
    (ChangeSpec.witness6 (enc := enc) (C := Try.checked) false ⟨#[], #[.slice none 0 0, .slice none 0 0], []⟩ 8 (by kernel_rfl) (by kernel_rfl) (by kernel_rfl) (by kernel_rfl)) ?_
  intro W base args ds gs before hval0 hW hcnd _
  have hval : ∀ (j : Nat) t v, Try.f6.params[j]? = some t → args[j]? = some v → Value.okWide Try.prog W .any base t v := hval0
  have hW' := hW
  obtain ⟨p, q, hA0, hV, rfl, hfz, hnd⟩ := hW
  have hA : DataW.TrodAll enc Try.prog W 0 (fun _ => true) true Try.f6.params.toList args.toList ds p := hA0
  rw [Try.params6] at hA hval
  obtain ⟨v0, v1, d0, d1, p0, p1, rfl, rfl, rfl, h0, h1⟩ := trodAll_two hA
  obtain ⟨rfl, rfl⟩ := trodVars_none hV
  have k0 := h0
  have k1 := h1
  have lt0 : ∀ x ∈ p0, x.block < W.heap.size := by
    obtain ⟨m, hm⟩ := k0
    exact DataW.trod_lt m _ _ _ hm
  have lt1 : ∀ x ∈ p1, x.block < W.heap.size := by
    obtain ⟨m, hm⟩ := k1
    exact DataW.trod_lt m _ _ _ hm
  obtain ⟨la, hla, ga⟩ := opens32.read h0
  obtain ⟨lb, hlb, gb⟩ := opens32.read h1
  have hv0 := hval 0 32 v0 rfl rfl
  have hv1 := hval 1 32 v1 rfl rfl
  obtain ⟨A0, c0, rfl, g0, g1⟩ := openRecs (v := v0) (by unfold Value.okWide at hv0 ⊢; exact hv0) hla
  obtain ⟨A1, c1, rfl, g2, g3⟩ := openRecs (v := v1) (by unfold Value.okWide at hv1 ⊢; exact hv1) hlb
  clear hA0 hval0
  refine (law_any A0 c0 la A1 c1 lb W g1 g0 g3 g2 ga gb).mono fun e W' ⟨he, bel⟩ => ?_
  subst he
  exact ⟨_, rfl, _, _, _, [], _, [], hW', trodAll_mk1 (shut_bool Try.underlying4 _), trodAll_mk2 (Below.trod laidOut (by kernel_rfl) (of_decide_eq_true (by kernel_rfl)) k0 bel lt0) (Below.trod laidOut (by kernel_rfl) (of_decide_eq_true (by kernel_rfl)) k1 bel lt1), rfl, bel.frame _, fun h => by cases h⟩

theorem over : Rows.tracePartsRow.holds Try.pinned (OpenSpec.ofChange Rows.tracePartsSpec) :=
  OpenClaim.holds_of_wide 6 Try.f6 rfl rfl rfl rfl rfl rfl rfl ⟨rfl, rfl, rfl, rfl, rfl⟩ rfl rfl rfl rfl rfl (by kernel_rfl) Try.func6 (by kernel_rfl)
    (of_decide_eq_true (by kernel_rfl)) (by unfold Func.isWrapper; first | (rw [if_pos (by decide +kernel)]; kernel_rfl) | (rw [if_neg (by decide +kernel)]; exact ⟨rfl, rfl⟩))
    (fun os started H enc _ => lifted os started H enc)
theorem proved : Rows.TracePartsSaid := over
#print axioms proved
end Go.Proofs.Ytkgchkajpolgeaa.traceParts
namespace Go.Proofs.Ytkgchkajpolgeaa
theorem traceParts_holds : Rows.TracePartsSaid := traceParts.proved
end Go.Proofs.Ytkgchkajpolgeaa
