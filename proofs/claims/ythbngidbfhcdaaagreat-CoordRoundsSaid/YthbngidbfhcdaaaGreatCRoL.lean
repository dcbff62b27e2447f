/- Whatever the configuration and the draws are: where nobody answers, each wanted shard's copies are asked in turn, round by round; in every case that the law does not go through it answers by its waking alone; no condition on the arguments. -/
import Derived.Test.YthbngidbfhcdaaaGreatCRo6
namespace Go.Proofs.YthbngidbfhcdaaaGreat.coordRounds
open Go.ChangeShapes Go.WideShapes Go.ChangeAt Go.RowKit Go.Proofs.YthbngidbfhcdaaaGreat.Open Go.Proofs.YthbngidbfhcdaaaGreatW.PrintWords Go.Proofs.YthbngidbfhcdaaaGreat.PCoordScript Go.Proofs.YthbngidbfhcdaaaGreat.C
set_option maxRecDepth 100000 in
theorem lifted (os : Os) (started : os.Started) (H : Type) (enc : TypeId × Value → H) :
    ReturnsInHanded {} Tryz.checked os 3 .any (Rows.coordRoundsSpec.pre6 enc Tryz.prog Tryz.f3 Rows.coordRoundsRow.domain false) (Rows.coordRoundsSpec.post enc Tryz.prog Tryz.f3 false true false false) := by
  refine returnsInHanded_of_change (C := Tryz.checked) ownK started (by kernel_rfl) Tryz.func3
    (ChangeSpec.witness6 (enc := enc) (C := Tryz.checked) false ⟨#[], #[.agg #[.slice none 0 0, .slice none 0 0, .int .i64 0, .int .i64 0, .int .i64 0, .int .i64 0, .int .i64 0, .int .i64 0, .int .i64 0, .int .i64 0, .int .i64 0, .int .i64 0], .slice none 0 0], []⟩ 8 (by kernel_rfl) (by kernel_rfl) (by kernel_rfl) (by kernel_rfl)) ?_
  intro W base args ds gs before hval0 hW hcnd _
  have hval : ∀ (j : Nat) t v, Tryz.f3.params[j]? = some t → args[j]? = some v → Value.okWide Tryz.prog W .any base t v := hval0
  have hW' := hW
  obtain ⟨p, q, hA0, hV, rfl, hfz, hnd⟩ := hW
  have hA : DataW.TrodAll enc Tryz.prog W 0 (fun _ => true) true Tryz.f3.params.toList args.toList ds p := hA0
  rw [Tryz.params3] at hA hval
  obtain ⟨v0, v2, d0, d2, p0, p2, rfl, rfl, rfl, h0, h2⟩ := trodAll_two hA
  obtain ⟨rfl, rfl⟩ := trodVars_none hV
  have k0 := h0
  have k2 := h2
  have lt0 : ∀ x ∈ p0, x.block < W.heap.size := by
    obtain ⟨m, hm⟩ := k0
    exact DataW.trod_lt m _ _ _ hm
  have lt2 : ∀ x ∈ p2, x.block < W.heap.size := by
    obtain ⟨m, hm⟩ := k2
    exact DataW.trod_lt m _ _ _ hm
  obtain ⟨c, hc, gc⟩ := opens25.read h0
  obtain ⟨l, hl, _⟩ := opens26.read h2
  have hv0 := hval 0 _ v0 rfl rfl
  have hv2 := hval 1 _ v2 rfl rfl
  obtain ⟨d, rfl, hd⟩ := openCfg (v := v0) (by unfold Value.okWide at hv0 ⊢; exact hv0) hc gc
  obtain ⟨A2, c2, rfl, g2, g3⟩ := openInts (v := v2) (by unfold Value.okWide at hv2 ⊢; exact hv2) hl
  clear hA0 hval0
  refine (rounds_any d A2 c2 l W hd g3).mono fun e W' ⟨he, bel⟩ => ?_
  subst he
  exact ⟨_, rfl, _, _, _, [], _, [], hW', trodAll_mk1 (shut_bool Tryz.underlying4 _), trodAll_mk2 (Below.trod laidOut (by kernel_rfl) (of_decide_eq_true (by kernel_rfl)) k0 bel lt0) (Below.trod laidOut (by kernel_rfl) (of_decide_eq_true (by kernel_rfl)) k2 bel lt2), rfl, bel.frame _, fun h => by cases h⟩
theorem over : Rows.coordRoundsRow.holds Tryz.pinned (OpenSpec.ofChange Rows.coordRoundsSpec) :=
  OpenClaim.holds_of_wide 3 Tryz.f3 rfl rfl rfl rfl rfl rfl rfl ⟨rfl, rfl, rfl, rfl, rfl⟩ rfl rfl rfl rfl rfl (by kernel_rfl) Tryz.func3 (by kernel_rfl)
    (of_decide_eq_true (by kernel_rfl)) (by unfold Func.isWrapper; first | (rw [if_pos (by decide +kernel)]; kernel_rfl) | (rw [if_neg (by decide +kernel)]; exact ⟨rfl, rfl⟩))
    (fun os started H enc _ => lifted os started H enc)
theorem proved : Rows.CoordRoundsSaid := over
#print axioms proved
end Go.Proofs.YthbngidbfhcdaaaGreat.coordRounds
namespace Go.Proofs.YthbngidbfhcdaaaGreat
theorem coordRounds_holds : Rows.CoordRoundsSaid := coordRounds.proved
end Go.Proofs.YthbngidbfhcdaaaGreat
