/- Texts of this proof, joined: part 6. -/
import Derived.Test.YthbngidbfhcdaaaGreatCRo5
set_option linter.unusedVariables false
set_option linter.unusedSimpArgs false
/- What is told of a query, sharing nothing. -/
namespace Go.Proofs.YthbngidbfhcdaaaGreat.C
open Go.RowKit Go.Maps Go.Proofs.YthbngidbfhcdaaaGreat.Mem Go.Proofs.YthbngidbfhcdaaaGreatW.PrintWords Go.Proofs.YthbngidbfhcdaaaGreat.PCoordScript
set_option linter.unusedVariables false
set_option linter.unusedSimpArgs false
abbrev toldA' (t : S58) (v : Value) : Array Value := #[.int .i64 t.f0, .string t.f1.f0, .int .i64 t.f1.f1, .int .i64 t.f1.f2, v, .bool t.f3, .bool t.f4]
abbrev ToldB (t : S58) (v : Value) : Obj := .cells (toldA' t v) 58 (0, 0)
/-- What is told, laid into a block. -/
def putT (W : World) (g : Nat) (t : S58) (v : Value) : World := ((((((W.setCell ⟨g, 0, none⟩ (.int .i64 t.f0)).setCell ⟨g, 1, none⟩ (.string t.f1.f0)).setCell ⟨g, 2, none⟩ (.int .i64 t.f1.f1)).setCell ⟨g, 3, none⟩ (.int .i64 t.f1.f2)).setCell ⟨g, 4, none⟩ v).setCell ⟨g, 5, none⟩ (.bool t.f3)).setCell ⟨g, 6, none⟩ (.bool t.f4)
theorem put7 {W : World} {g : Nat} {T : TypeId} {a0 a1 a2 a3 a4 a5 a6 b0 b1 b2 b3 b4 b5 b6 : Value} (h : W.heap[g]? = some (.cells #[a0, a1, a2, a3, a4, a5, a6] T (0, 0))) :
    (((((((W.setCell ⟨g, 0, none⟩ b0).setCell ⟨g, 1, none⟩ b1).setCell ⟨g, 2, none⟩ b2).setCell ⟨g, 3, none⟩ b3).setCell ⟨g, 4, none⟩ b4).setCell ⟨g, 5, none⟩ b5).setCell ⟨g, 6, none⟩ b6).heap[g]? = some (.cells #[b0, b1, b2, b3, b4, b5, b6] T (0, 0)) := by
  have h0 := blk_put h 0 b0 (cs' := #[b0, a1, a2, a3, a4, a5, a6]) rfl
  have h1 := blk_put h0 1 b1 (cs' := #[b0, b1, a2, a3, a4, a5, a6]) rfl
  have h2 := blk_put h1 2 b2 (cs' := #[b0, b1, b2, a3, a4, a5, a6]) rfl
  have h3 := blk_put h2 3 b3 (cs' := #[b0, b1, b2, b3, a4, a5, a6]) rfl
  have h4 := blk_put h3 4 b4 (cs' := #[b0, b1, b2, b3, b4, a5, a6]) rfl
  have h5 := blk_put h4 5 b5 (cs' := #[b0, b1, b2, b3, b4, b5, a6]) rfl
  exact blk_put h5 6 b6 (cs' := #[b0, b1, b2, b3, b4, b5, b6]) rfl
theorem putT_blk {W : World} {g : Nat} {t0 t : S58} {v0 v : Value} (h : W.heap[g]? = some (ToldB t0 v0)) : (putT W g t v).heap[g]? = some (ToldB t v) := put7 h
theorem putT_only (W : World) (g : Nat) (t : S58) (v : Value) : Only (fun k => k = g) W (putT W g t v) := by
  unfold putT
  exact (((((((Only.refl (fun k => k = g) W).set (p := ⟨g, 0, none⟩) (fun _ => rfl) _).set (p := ⟨g, 1, none⟩) (fun _ => rfl) _).set (p := ⟨g, 2, none⟩) (fun _ => rfl) _).set (p := ⟨g, 3, none⟩) (fun _ => rfl) _).set (p := ⟨g, 4, none⟩) (fun _ => rfl) _).set (p := ⟨g, 5, none⟩) (fun _ => rfl) _).set (p := ⟨g, 6, none⟩) (fun _ => rfl) _
set_option maxRecDepth 100000 in
set_option maxHeartbeats 1600000 in
theorem coord_own (t : S58) (A : Option Addr) (c : Nat) (w : World) (h : Kd.C k46 w A t.f2.length t.f2) (hc : t.f2.length ≤ c) (hl : t.f2.length ≤ 100000) :
    Calls Tryz.prog 72 #[.agg (toldA' t (.slice A t.f2.length c))] w fun e w' => (∃ v, e = .returned (.agg (toldA' t v)) ∧ Kd.R k46 46 w' w.heap.size (fun _ => True) v t.f2) ∧ Below w.heap.size w w' := by
  have H := Aside0.mk h
  have HC := Aside0.mk hc
  have HL := Aside0.mk hl
  clear h hc hl
  have HB : Aside0 (Below w.heap.size w ((w.alloc (ToldB t (.slice A t.f2.length c))).alloc (ToldB ⟨0, ⟨⟨#[]⟩, 0, 0⟩, [], false, false⟩ (.slice none 0 0)))) := ⟨below_alloc (below_alloc (Below.refl _ _) _) _⟩
  have HB2 : Aside0 (∀ W, Below ((w.alloc (ToldB t (.slice A t.f2.length c))).alloc (ToldB ⟨0, ⟨⟨#[]⟩, 0, 0⟩, [], false, false⟩ (.slice none 0 0))).heap.size ((w.alloc (ToldB t (.slice A t.f2.length c))).alloc (ToldB ⟨0, ⟨⟨#[]⟩, 0, 0⟩, [], false, false⟩ (.slice none 0 0))) W →
      W.heap[w.heap.size]? = some (ToldB t (.slice A t.f2.length c)) ∧ W.heap[w.heap.size + 1]? = some (ToldB ⟨0, ⟨⟨#[]⟩, 0, 0⟩, [], false, false⟩ (.slice none 0 0))) := ⟨fun W hW => ⟨blk_below (blk_alloc (blk_new _ _) _) hW, blk_below (by have := blk_new (w.alloc (ToldB t (.slice A t.f2.length c))) (ToldB ⟨0, ⟨⟨#[]⟩, 0, 0⟩, [], false, false⟩ (.slice none 0 0)); simpa using this) hW⟩⟩
  go_enter Tryz.func72, Tryz.ntmps72
  go_wp2_with (go_at_call 100; refine (clone_items A c t.f2 _ (Kd.C_below H.out HB.out) HC.out HL.out).mono ?_; rintro e w2 ⟨⟨v, rfl, hR⟩, hb⟩; obtain ⟨Av, cv, hv⟩ := Kd.R_slice hR; subst hv; have q := HB2.out w2 hb; have q0 : w2.cell? ⟨w.heap.size, 0, none⟩ = some (.int .i64 t.f0) := (blk_cell q.1 0).trans rfl; have q1 : w2.cell? ⟨w.heap.size, 1, none⟩ = some (.string t.f1.f0) := (blk_cell q.1 1).trans rfl; have q2 : w2.cell? ⟨w.heap.size, 2, none⟩ = some (.int .i64 t.f1.f1) := (blk_cell q.1 2).trans rfl; have q3 : w2.cell? ⟨w.heap.size, 3, none⟩ = some (.int .i64 t.f1.f2) := (blk_cell q.1 3).trans rfl; have q4 : w2.cell? ⟨w.heap.size, 4, none⟩ = some (.slice A t.f2.length c) := (blk_cell q.1 4).trans rfl; have q5 : w2.cell? ⟨w.heap.size, 5, none⟩ = some (.bool t.f3) := (blk_cell q.1 5).trans rfl; have q6 : w2.cell? ⟨w.heap.size, 6, none⟩ = some (.bool t.f4) := (blk_cell q.1 6).trans rfl; have r0 : w2.cell? ⟨w.heap.size + 1, 0, none⟩ = some (.int .i64 0) := (blk_cell q.2 0).trans rfl; have r1 : w2.cell? ⟨w.heap.size + 1, 1, none⟩ = some (.string ⟨#[]⟩) := (blk_cell q.2 1).trans rfl; have r2 : w2.cell? ⟨w.heap.size + 1, 2, none⟩ = some (.int .i64 0) := (blk_cell q.2 2).trans rfl; have r3 : w2.cell? ⟨w.heap.size + 1, 3, none⟩ = some (.int .i64 0) := (blk_cell q.2 3).trans rfl; have r4 : w2.cell? ⟨w.heap.size + 1, 4, none⟩ = some (.slice none 0 0) := (blk_cell q.2 4).trans rfl; have r5 : w2.cell? ⟨w.heap.size + 1, 5, none⟩ = some (.bool false) := (blk_cell q.2 5).trans rfl; have r6 : w2.cell? ⟨w.heap.size + 1, 6, none⟩ = some (.bool false) := (blk_cell q.2 6).trans rfl; have f1 := fun i => blk_frozen q.1 i; have f2 := fun i => blk_frozen q.2 i; have HR := Aside0.mk hR; have HBB := Aside0.mk (below_step HB.out hb); have Q := Aside0.mk q; clear hR hb q)
  have hb2 := (HB2.out w2)
  refine bodyPost_ret (v := .agg (toldA' t (.slice Av t.f2.length cv))) (results_cell_row rfl _ _ (w.heap.size + 1) 58 (toldA' t (.slice Av t.f2.length cv)) (0, 0) _ rfl ?_ Tryz.underlying58 rfl (by kernel_rfl)) rfl ?_
  · exact putT_blk (W := w2.setCell ⟨w.heap.size, 4, none⟩ (.slice Av t.f2.length cv)) ((Below.heap_setCell _ _ _ _ (by simp)).trans Q.out.2)
  · have hO : Only (fun k => k = w.heap.size ∨ k = w.heap.size + 1) w2 (putT (w2.setCell ⟨w.heap.size, 4, none⟩ (.slice Av t.f2.length cv)) (w.heap.size + 1) t (.slice Av t.f2.length cv)) :=
      ((Only.refl _ w2).set (p := ⟨w.heap.size, 4, none⟩) (fun _ => .inl rfl) _).next ((putT_only _ _ _ _).mono fun k _ hk => .inr hk)
    have hR := HR.out
    obtain ⟨inner, hown⟩ := Kd.R_own hR
    have hR2 := R46_ok (ok' := fun k => w.heap.size + 2 ≤ k) hR fun k hk => by have := own_base hown k hk; simpa using this
    refine ⟨⟨_, rfl, ?_⟩, HBB.out.trans (hO.below HBB.out.size fun k _ hk => by omega)⟩
    exact R46_ok (Kd.R_lower (Kd.R_step hR2 fun k hk hl => hO.block k hl (by omega)) (by simp; omega)) fun _ _ => trivial
set_option maxRecDepth 100000 in
set_option maxHeartbeats 1600000 in
theorem coord_Told (c : Cfg) (base : Nat) (ρ : Nat → Own) (I : CoIds) (blk : Int → Nat) (S : Co) (id : Int) (w : World) (h : CoAt c base ρ I blk S w) (h1 : 1 ≤ id) (h2 : id ≤ S.told.length) (hl : (toldAt S (id - 1).toNat).f2.length ≤ 100000) (hS : S.told.length ≤ 1000000) :
    Calls Tryz.prog 26 #[.pointer (some ⟨I.x, 0, none⟩), .int .i64 id] w fun e w' => (∃ v, e = .returned (.tuple #[.agg (toldA' (toldAt S (id - 1).toNat) v), .bool true]) ∧ Kd.R k46 46 w' w.heap.size (fun _ => True) v (toldAt S (id - 1).toNat).f2) ∧ Below w.heap.size w w' := by
  have H := Aside0.mk h
  clear h
  have ht : toldAt S (id - 1).toNat = S.told.getD (id - 1).toNat z58 := rfl
  have hj : (id - 1).toNat = id.toNat - 1 := by omega
  obtain ⟨t, htt⟩ : ∃ t, t = toldAt S (id - 1).toNat := ⟨_, rfl⟩
  rw [← htt] at hl ⊢
  have HT := Aside0.mk (htt.trans ht)
  have HJ := Aside0.mk hj
  clear ht htt hj
  have HL := Aside0.mk hl
  have hi0 : 0 ≤ id - 1 := by omega
  have hi2 : id - 1 < S.told.length := by omega
  have hlt : decide (id < 1) = false := by simp; omega
  have hgt2 : decide ((S.told.length : Int) < id) = false := by simp; omega
  clear hl
  go_enter Tryz.func26, Tryz.ntmps26
  go_upto_region 1 with fail
  refine Rd.gen_wp (R := fun V => Below w.heap.size w V ∧ V.heap[w.heap.size]? = some (ToldB z58 (.slice none 0 0))) ⟨below_alloc (Below.refl _ _) _, blk_new _ _⟩ ?_
  rintro V ⟨hb, hq⟩
  have HB := Aside0.mk hb
  have HQ := Aside0.mk hq
  obtain ⟨dv, hco, htold⟩ := (H.out.fresh hb).co
  obtain ⟨gt, capt, u, hdv, hgt, _, hcell, hu⟩ := htold.get (id - 1).toNat (by omega)
  rw [← HT.out] at hcell hu
  obtain ⟨Au, cu, hu'⟩ := Kd.R_slice hu
  subst hu'
  rw [HJ.out] at hcell
  have hz : ∀ i x, (toldV t (.slice Au t.f2.length cu))[i]? = some x → V.cell? ⟨gt, (id.toNat - 1) * 7 + i, none⟩ = some x := hcell
  have x18 : V.cell? ⟨I.x, 18, none⟩ = some (.slice (some ⟨gt, 0, none⟩) S.told.length capt) := by rw [← hdv]; exact (blk_cell hco 18).trans rfl
  have z0 : V.cell? ⟨gt, (id.toNat - 1) * 7, none⟩ = some (.int .i64 t.f0) := hz 0 _ rfl
  have z1 : V.cell? ⟨gt, (id.toNat - 1) * 7 + 1, none⟩ = some (.string t.f1.f0) := hz 1 _ rfl
  have z2 : V.cell? ⟨gt, (id.toNat - 1) * 7 + 2, none⟩ = some (.int .i64 t.f1.f1) := hz 2 _ rfl
  have z3 : V.cell? ⟨gt, (id.toNat - 1) * 7 + 3, none⟩ = some (.int .i64 t.f1.f2) := hz 3 _ rfl
  have z4 : V.cell? ⟨gt, (id.toNat - 1) * 7 + 4, none⟩ = some (.slice Au t.f2.length cu) := hz 4 _ rfl
  have z5 : V.cell? ⟨gt, (id.toNat - 1) * 7 + 5, none⟩ = some (.bool t.f3) := hz 5 _ rfl
  have z6 : V.cell? ⟨gt, (id.toNat - 1) * 7 + 6, none⟩ = some (.bool t.f4) := hz 6 _ rfl
  have HU := Aside0.mk (Kd.R_reads' hu)
  clear hz hcell hu hco htold hdv hb hq
  go_wp2_with (go_at_call 72; refine (coord_own t Au cu _ HU.out.2.2 HU.out.2.1 HL.out).mono ?_; rintro e w2 ⟨⟨v, rfl, hR⟩, hb⟩; obtain ⟨Av, cv, hv⟩ := Kd.R_slice hR; subst hv; have q := blk_below HQ.out hb; have r0 : w2.cell? ⟨w.heap.size, 0, none⟩ = some (.int .i64 0) := (blk_cell q 0).trans rfl; have r1 : w2.cell? ⟨w.heap.size, 1, none⟩ = some (.string ⟨#[]⟩) := (blk_cell q 1).trans rfl; have r2 : w2.cell? ⟨w.heap.size, 2, none⟩ = some (.int .i64 0) := (blk_cell q 2).trans rfl; have r3 : w2.cell? ⟨w.heap.size, 3, none⟩ = some (.int .i64 0) := (blk_cell q 3).trans rfl; have r4 : w2.cell? ⟨w.heap.size, 4, none⟩ = some (.slice none 0 0) := (blk_cell q 4).trans rfl; have r5 : w2.cell? ⟨w.heap.size, 5, none⟩ = some (.bool false) := (blk_cell q 5).trans rfl; have r6 : w2.cell? ⟨w.heap.size, 6, none⟩ = some (.bool false) := (blk_cell q 6).trans rfl; have f2 := fun i => blk_frozen q i; have HR := Aside0.mk (Kd.R_lower hR HB.out.size); have HBB := Aside0.mk (below_step HB.out hb); have HGE := Aside0.mk hR; have Q := Aside0.mk q; clear hR hb q)
  have hq := Q.out
  have hV := blk_lt HQ.out
  refine bodyPost_ret (v := .tuple #[.agg (toldA' t (.slice Av t.f2.length cv)), .bool true]) ((results_ct (u := 5) rfl _ _ w.heap.size 58 (toldA' t (.slice Av t.f2.length cv)) (0, 0) _ rfl ?_ Tryz.underlying58 rfl (by kernel_rfl)).trans ?_) rfl ?_
  · exact putT_blk hq
  · rfl
  · have hO : Only (fun k => k = w.heap.size) w2 (putT w2 w.heap.size t (.slice Av t.f2.length cv)) := putT_only _ _ _ _
    obtain ⟨inner, hown⟩ := Kd.R_own HGE.out
    have hR2 := R46_ok (ok' := fun k => V.heap.size ≤ k) HR.out fun k hk => own_base hown k hk
    refine ⟨⟨_, rfl, ?_⟩, HBB.out.trans (hO.below HBB.out.size fun k _ hk => by omega)⟩
    exact R46_ok (Kd.R_step hR2 fun k hk hl => hO.block k hl (by omega)) fun _ _ => trivial
theorem coord_Told_no (c : Cfg) (base : Nat) (ρ : Nat → Own) (I : CoIds) (blk : Int → Nat) (S : Co) (id : Int) (w : World) (h : CoAt c base ρ I blk S w) (h1 : id < 1 ∨ S.told.length < id) (hS : S.told.length ≤ 1000000) :
    Calls Tryz.prog 26 #[.pointer (some ⟨I.x, 0, none⟩), .int .i64 id] w fun e w' => e = .returned (.tuple #[.agg #[.int .i64 0, .string ⟨#[]⟩, .int .i64 0, .int .i64 0, .slice none 0 0, .bool false, .bool false], .bool false]) ∧ Below w.heap.size w w' := by
  obtain ⟨dv, hco, htold⟩ := (h.fresh (below_alloc (Below.refl _ _) (ToldB ⟨0, ⟨⟨#[]⟩, 0, 0⟩, [], false, false⟩ (.slice none 0 0)))).co
  have hdv : ∃ A k, dv = .slice A S.told.length k := by
    obtain ⟨inner, ho, hr⟩ := htold.row
    obtain ⟨A, k, e⟩ := own_slice ho
    rw [List.length_zipIdx] at e
    exact ⟨A, k, e⟩
  obtain ⟨A, k, rfl⟩ := hdv
  have x18 : (w.alloc (ToldB ⟨0, ⟨⟨#[]⟩, 0, 0⟩, [], false, false⟩ (.slice none 0 0))).cell? ⟨I.x, 18, none⟩ = some (.slice A S.told.length k) := (blk_cell hco 18).trans rfl
  clear hco htold h
  rcases Mem.dec_or (id < 1) with hlt | hlt
  · go_enter Tryz.func26, Tryz.ntmps26
    go_wp2
    exact bodyPost_ret (v := .tuple #[.agg #[.int .i64 0, .string ⟨#[]⟩, .int .i64 0, .int .i64 0, .slice none 0 0, .bool false, .bool false], .bool false]) (by simp [results, Tryz.results26, go_sem]) rfl ⟨rfl, below_alloc (Below.refl _ _) _⟩
  · have hgt2 : decide ((S.told.length : Int) < id) = true := by simp at hlt ⊢; omega
    go_enter Tryz.func26, Tryz.ntmps26
    go_wp2
    exact bodyPost_ret (v := .tuple #[.agg #[.int .i64 0, .string ⟨#[]⟩, .int .i64 0, .int .i64 0, .slice none 0 0, .bool false, .bool false], .bool false]) (by simp [results, Tryz.results26, go_sem]) rfl ⟨rfl, below_alloc (Below.refl _ _) _⟩
end Go.Proofs.YthbngidbfhcdaaaGreat.C
/- How things stand while the statement CoordFirst (or CoordRounds) goes on. -/
namespace Go.Proofs.YthbngidbfhcdaaaGreat.C
open Go.RowKit Go.Maps Go.Proofs.YthbngidbfhcdaaaGreat.Mem Go.Proofs.YthbngidbfhcdaaaGreatW.PrintWords Go.Proofs.YthbngidbfhcdaaaGreat.PCoordScript
set_option linter.unusedVariables false
set_option linter.unusedSimpArgs false
abbrev CfgB (c : Cfg) : Obj := .cells c.cells 25 (0, 0)
abbrev lastV (lv : Nat → Int) : Array Value := #[.int .i64 (lv 0), .int .i64 (lv 1), .int .i64 (lv 2), .int .i64 (lv 3), .int .i64 (lv 4), .int .i64 (lv 5)]
abbrev LastB (lv : Nat → Int) : Obj := .cells (lastV lv) 41 (0, 0)
def updI (lv : Nat → Int) (k : Nat) (v : Int) : Nat → Int := fun i => if i = k then v else lv i
theorem last_put {W : World} {b k : Nat} {lv : Nat → Int} (h : W.heap[b]? = some (LastB lv)) (hk : k < 6) (v : Int) : (W.setCell ⟨b, k, none⟩ (.int .i64 v)).heap[b]? = some (LastB (updI lv k v)) := by
  refine blk_put h k _ ?_
  have h6 : k = 0 ∨ k = 1 ∨ k = 2 ∨ k = 3 ∨ k = 4 ∨ k = 5 := by omega
  rcases h6 with rfl | rfl | rfl | rfl | rfl | rfl <;> rfl
theorem last_cell {W : World} {b k : Nat} {lv : Nat → Int} (h : W.heap[b]? = some (LastB lv)) (hk : k < 6) : W.cell? ⟨b, k, none⟩ = some (.int .i64 (lv k)) := by
  refine (blk_cell h k).trans ?_
  have h6 : k = 0 ∨ k = 1 ∨ k = 2 ∨ k = 3 ∨ k = 4 ∨ k = 5 := by omega
  rcases h6 with rfl | rfl | rfl | rfl | rfl | rfl <;> rfl
/-- How a coordinator and the statement's own boxes stand. -/
structure FS (c : Cfg) (q : S40) (b4 b5 bl base : Nat) (w0 : World) (ρ : Nat → Own) (I : CoIds) (blk : Int → Nat) (S : Co) (lv : Nat → Int) (W : World) : Prop where
  co : CoAt c base ρ I blk S W
  bel : Below w0.heap.size w0 W
  h4 : W.heap[b4]? = some (CfgB c)
  h5 : W.heap[b5]? = some (queryB q)
  hl : W.heap[bl]? = some (LastB lv)
  z4 : ρ b4 = .z
  z5 : ρ b5 = .z
  zl : ρ bl = .z
  ge : w0.heap.size ≤ base
section
variable {c : Cfg} {q : S40} {b4 b5 bl base : Nat} {w0 : World} {ρ ρ' : Nat → Own} {I : CoIds} {blk blk' : Int → Nat} {S S' : Co} {lv : Nat → Int} {W W' : World}
theorem ext_z (hE : Ext ρ ρ' W) {k : Nat} (hk : k < W.heap.size) (hz : ρ k = .z) : ρ' k = .z := by
  cases e : ρ' k with
  | z => rfl
  | _ =>
    rcases hE.new k (by rw [e]; simp) with h1 | h1
    · exact absurd hz h1
    · exact absurd hk (Nat.not_lt.2 h1)
theorem FS.api (h : FS c q b4 b5 bl base w0 ρ I blk S lv W) (hC : CoAt c base ρ' I blk' S' W') (hE : Ext ρ ρ' W) (hO : Only (fun k => ρ k ≠ .z) W W') : FS c q b4 b5 bl base w0 ρ' I blk' S' lv W' :=
  ⟨hC, h.bel.trans (hO.below h.bel.size fun k _ hk => Nat.le_trans h.ge (h.co.own k hk).1), (hO.block _ (blk_lt h.h4) (by rw [h.z4]; simp)).trans h.h4, (hO.block _ (blk_lt h.h5) (by rw [h.z5]; simp)).trans h.h5, (hO.block _ (blk_lt h.hl) (by rw [h.zl]; simp)).trans h.hl,
    ext_z hE (blk_lt h.h4) h.z4, ext_z hE (blk_lt h.h5) h.z5, ext_z hE (blk_lt h.hl) h.zl, h.ge⟩
theorem FS.fresh (h : FS c q b4 b5 bl base w0 ρ I blk S lv W) (hb : Below W.heap.size W W') : FS c q b4 b5 bl base w0 ρ I blk S lv W' :=
  h.api (h.co.fresh hb) (Ext.refl _ _) (Only.fresh hb _)
theorem FS.put (h : FS c q b4 b5 bl base w0 ρ I blk S lv W) (h4l : b4 ≠ bl) (h5l : b5 ≠ bl) (hg : w0.heap.size ≤ bl) {k : Nat} (hk : k < 6) (v : Int) : FS c q b4 b5 bl base w0 ρ I blk S (updI lv k v) (W.setCell ⟨bl, k, none⟩ (.int .i64 v)) := by
  have hO : Only (fun i => i = bl) W (W.setCell ⟨bl, k, none⟩ (.int .i64 v)) := Only.setB _ _ _ _
  refine ⟨h.co.frame hO.size fun i hi hne => hO.block i hi fun e => hne (e ▸ h.zl), h.bel.trans (hO.below h.bel.size fun i _ e => e ▸ hg), (hO.block _ (blk_lt h.h4) h4l).trans h.h4, (hO.block _ (blk_lt h.h5) h5l).trans h.h5, last_put h.hl hk v, h.z4, h.z5, h.zl, h.ge⟩
end
/-- Workers heard as numbers say, up to the moment n: nothing else has befallen. -/
structure HInv (c : Cfg) (n : Int) (S : Co) (lv : Nat → Int) : Prop where
  now : S.now = n
  Q : ∀ s, S.Q s = none
  T : ∀ id, S.T id = none
  last : S.last = 0
  told : S.told = []
  L : ∀ i : Nat, 1 ≤ i → (i : Int) ≤ c.wk → (lv i = -1 ∧ S.L i = ⟨0, 0, 0⟩) ∨ (0 ≤ lv i ∧ lv i ≤ n ∧ S.L i = ⟨1, 1, lv i + c.le⟩)
  ep : ∀ k, 0 ≤ (S.L k).epoch ∧ (S.L k).epoch ≤ 1
theorem HInv.new (c : Cfg) {lv : Nat → Int} (h : ∀ i : Nat, 1 ≤ i → (i : Int) ≤ c.wk → lv i = -1) : HInv c 0 Co.new lv :=
  ⟨rfl, fun _ => rfl, fun _ => rfl, rfl, rfl, fun i h1 h2 => .inl ⟨h i h1 h2, rfl⟩, fun _ => ⟨Int.le_refl 0, (by decide : (0 : Int) ≤ 1)⟩⟩
theorem HInv.tick {c : Cfg} {n : Int} {S : Co} {lv : Nat → Int} (h : HInv c n S lv) (hn : 0 ≤ n ∧ n ≤ 1000000) : HInv c (n + 1) { S with now := tickN S.now } lv :=
  ⟨by show tickN S.now = _; rw [h.now]; unfold tickN; omega, h.Q, h.T, h.last, h.told, fun i h1 h2 => (h.L i h1 h2).imp (fun h => h) fun ⟨a, b, d⟩ => ⟨a, by omega, d⟩, h.ep⟩
theorem HInv.hello {c : Cfg} {n : Int} {S : Co} {lv : Nat → Int} (h : HInv c n S lv) (hn : 0 ≤ n) (hle : 1 ≤ c.le) {k : Int} (hk : 1 ≤ k ∧ k ≤ c.wk) : helloOk c S.L k 1 ∧ HInv c n (S.hello c k 1) (updI lv k.toNat n) := by
  have hL := h.L k.toNat (by omega) (by omega)
  have hlife : (S.L k.toNat).life ≤ 1 := by
    rcases hL with ⟨_, e⟩ | ⟨_, _, e⟩
    · rw [e]; decide
    · rw [e]; exact Int.le_refl 1
  refine ⟨⟨hk.1, hk.2, by decide, by decide, hlife⟩, ⟨h.now, h.Q, h.T, h.last, h.told, fun i h1 h2 => ?_, fun i => ?_⟩⟩
  · show (updI lv k.toNat n i = -1 ∧ upL S.L k.toNat _ i = _) ∨ _
    by_cases e : i = k.toNat
    · right
      unfold updI
      refine ⟨by rw [if_pos e]; exact hn, by rw [if_pos e]; exact Int.le_refl _, ?_⟩
      show upL S.L k.toNat (heardL (S.L k.toNat) 1 S.now c.le) i = _
      unfold upL
      rw [if_pos e, if_pos e, h.now]
      unfold heardL
      rcases hL with ⟨_, e1⟩ | ⟨a1, a2, e1⟩
      · rw [e1]
        show (⟨1, if (0 : Int) < 1 then (0 : Int) + 1 else 0, max 0 (n + c.le)⟩ : Ls) = _
        rw [if_pos (by decide), Int.max_eq_right (by omega)]
        rfl
      · rw [e1]
        show (⟨1, if (1 : Int) < 1 then (1 : Int) + 1 else 1, max (lv k.toNat + c.le) (n + c.le)⟩ : Ls) = _
        rw [if_neg (by decide), Int.max_eq_right (by omega)]
    · have := h.L i h1 h2
      unfold updI
      rw [if_neg e]
      show (_ ∧ upL S.L k.toNat _ i = _) ∨ (_ ∧ _ ∧ upL S.L k.toNat _ i = _)
      unfold upL
      rw [if_neg e]
      exact this
  · show 0 ≤ (upL S.L k.toNat _ i).epoch ∧ (upL S.L k.toNat _ i).epoch ≤ 1
    unfold upL
    split
    · unfold heardL
      have h01 : (0 : Int) ≤ 1 := by decide
      rcases hL with ⟨_, e1⟩ | ⟨a1, a2, e1⟩ <;> (rw [e1]; exact ⟨h01, Int.le_refl 1⟩)
    · exact h.ep i
theorem wantAll_told (c : Cfg) (s : Nat) (draw : Int) : ∀ (l : List Int) (st : Co × List LetD), (wantAll c s draw l st).1.told = st.1.told
  | [], st => rfl
  | k :: l, st => (wantAll_told c s draw l (wantStep c s draw st k)).trans (by
    unfold wantStep
    cases hy : st.1.Q s with
    | none => rfl
    | some y => exact (wants_Q c st.1 s y k.toNat draw).2.2.2.1)
theorem wakeN_told (c : Cfg) (draw : Int) (S : Co) : ∀ n : Nat, (wakeN c draw n S).1.told = S.told
  | 0 => rfl
  | n + 1 => by
    rw [wakeN_succ]
    unfold wakeStep
    cases hy : (wakeN c draw n S).1.Q n with
    | none => exact wakeN_told c draw S n
    | some y => exact (wantAll_told c n draw y.m.wants _).trans (wakeN_told c draw S n)
theorem first_told (c : Cfg) (S : Co) (q : S40) (hn : 1 ≤ q.f2) (hl : S.last = 0) (ht : S.told = []) : (Co.first c S q).told.length = 1 ∧ (toldAt (Co.first c S q) 0).f2 = [] ∧ ((toldAt (Co.first c S q) 0).f3 = decide (wlN c q = [])) := by
  have hid : (newQy c S q).id = 1 := by
    show S.last + 1 = 1
    rw [hl]; rfl
  have e1 : ((newQy c S q).id - 1).toNat = 0 := by rw [hid]; rfl
  have e2 : (S.add c 0 q).told = [⟨1, q, [], false, false⟩] := by
    show S.told ++ [⟨S.last + 1, q, [], false, false⟩] = _
    rw [ht, hl]
    rfl
  have e3 : (newQy c S q).m.tell = ([], newMg c q) := newMg_tell c q
  have e4 : ((S.add c 0 q).tells 0 (newQy c S q)).told = [⟨1, q, [], false, false⟩] := by
    unfold Co.tells
    show (S.add c 0 q).told.set _ _ = _
    rw [e1, e3]
    unfold toldAt
    rw [e2]
    rfl
  unfold Co.first Co.goes
  rw [e3]
  by_cases hd : (newMg c q).done = true
  · rw [if_pos hd]
    have hw := (newMg_done c q hn).1 hd
    have e5 : ∀ x : List S58, ((Co.over c { (S.add c 0 q).tells 0 (newQy c S q) with told := x } 0)).told = x := fun x => rfl
    unfold toldAt
    rw [e5, e1, e4]
    exact ⟨rfl, rfl, by rw [hw]; rfl⟩
  · rw [if_neg hd]
    have hw : wlN c q ≠ [] := fun h => hd ((newMg_done c q hn).2 h)
    unfold toldAt
    rw [e4]
    exact ⟨rfl, rfl, by rw [decide_eq_false hw]; rfl⟩
section
variable {c : Cfg} {q : S40} {b4 b5 bl base : Nat} {w0 : World} {ρ : Nat → Own} {I : CoIds} {blk : Int → Nat} {S : Co} {lv : Nat → Int} {W : World} {n : Int}
theorem FS_Take (h : FS c q b4 b5 bl base w0 ρ I blk S lv W) (hm : c.May) (hi : HInv c n S lv) (hn : 0 ≤ n ∧ n ≤ 1000000) {k : Int} (hk : 1 ≤ k ∧ k ≤ c.wk) :
    Calls Tryz.prog 16 #[.pointer (some ⟨I.x, 0, none⟩), .iface 36 (.agg #[.int .i64 k, .int .i64 1])] W fun e w' => (∃ v, e = .returned v) ∧ FS c q b4 b5 bl base w0 ρ I blk (S.hello c k 1) lv w' := by
  obtain ⟨ok, _⟩ := hi.hello hn.1 hm.nums.2.2.2.2.1.1 hk
  refine (coord_Take_hello c base ρ I blk S k 1 W h.co hm (by rw [hi.now]; exact hn.1) (by rw [hi.now]; omega) fun k => ⟨(hi.ep k).1, by have := (hi.ep k).2; omega⟩).mono ?_
  rw [if_pos ok, if_pos ok]
  rintro e w' ⟨⟨v, rfl, hR⟩, hC, hO⟩
  exact ⟨⟨v, rfl⟩, h.api hC (Ext.refl _ _) (hO.mono fun k _ hk => by rw [hk, h.co.roles.2.1]; simp)⟩
theorem FS_Now (h : FS c q b4 b5 bl base w0 ρ I blk S lv W) (hi : S.now = n) :
    Calls Tryz.prog 18 #[.pointer (some ⟨I.x, 0, none⟩)] W fun e w' => e = .returned (.int .i64 n) ∧ w' = W := by
  rw [← hi]
  exact coord_Now c base ρ I blk S W h.co
theorem FS_Tick (h : FS c q b4 b5 bl base w0 ρ I blk S lv W) (hn : 0 ≤ S.now ∧ S.now ≤ 1000000) :
    Calls Tryz.prog 23 #[.pointer (some ⟨I.x, 0, none⟩)] W fun e w' => e = .returned (.tuple #[]) ∧ FS c q b4 b5 bl base w0 ρ I blk { S with now := tickN S.now } lv w' := by
  refine (coord_Tick c base ρ I blk S W h.co hn.1 (by omega)).mono ?_
  rintro e w' ⟨rfl, hC, hO⟩
  exact ⟨rfl, h.api hC (Ext.refl _ _) (hO.mono fun k _ hk => by rw [hk, h.co.roles.1]; simp)⟩
def lets (c : Cfg) (S : Co) (q : S40) : List LetD := (List.range (c.cuts.length + 1)).flatMap (seg c S q)
theorem mayQ_n {q : S40} (h : mayQ q = true) : 1 ≤ q.f2 := by
  unfold mayQ at h
  simp at h
  omega
theorem first_last (c : Cfg) (S : Co) (q : S40) (hl : S.last = 0) : (Co.first c S q).last = 1 := by
  unfold Co.first
  rw [(goes_now c _ _ _).2.1]
  show S.last + 1 = 1
  rw [hl]
  rfl
theorem first_now (c : Cfg) (S : Co) (q : S40) : (Co.first c S q).now = S.now := (goes_now c _ _ _).1
theorem FS_Submit (h : FS c q b4 b5 bl base w0 ρ I blk S lv W) (hm : c.May) (hi : HInv c n S lv) (hs : q.f0.size ≤ 9223372036854775807) (hq : mayQ q = true) :
    Calls Tryz.prog 17 #[.pointer (some ⟨I.x, 0, none⟩), qval q] W fun e w' => ∃ A k m ρ' blk', e = .returned (.tuple #[.int .i64 3, .int .i64 1, .slice A k m]) ∧ FS c q b4 b5 bl base w0 ρ' I blk' (Co.first c S q) lv w' := by
  have hlive : S.live = 0 := by
    show liveN S.Q 4 = 0
    simp [liveN, hi.Q]
  refine (coord_Submit c base ρ I blk S q 0 W h.co hm hs hq (by have := hm.nums.2.2.1; omega) (fun i hi => absurd hi (Nat.not_lt_zero i)) (hi.Q 0) (by rw [hlive]; have := hm.nums.2.2.1; omega) (by rw [hi.last]; decide)).mono ?_
  rintro e w' ⟨v, rfl, ⟨⟨ρ', blk', hE, hC, hR⟩, hO⟩⟩
  obtain ⟨A, m, rfl⟩ := Kd.R_slice hR
  rw [hi.last]
  exact ⟨_, _, _, ρ', blk', rfl, h.api hC hE hO⟩
theorem FS_Wake (h : FS c q b4 b5 bl base w0 ρ I blk (Co.first c S q) lv W) (hm : c.May) (hi : HInv c n S lv) (hn : 0 ≤ n ∧ n ≤ 1000000) (hq : mayQ q = true) (draw : Int) :
    Calls Tryz.prog 20 #[.pointer (some ⟨I.x, 0, none⟩), .int .i64 draw] W fun e w' => ∃ A k ρ' blk' S3, e = .returned (.slice A (lets c S q).length k) ∧ FS c q b4 b5 bl base w0 ρ' I blk' S3 lv w' ∧ S3.told = (Co.first c S q).told ∧ S3.now = n ∧ Kd.C kLet w' A (lets c S q).length (lets c S q) := by
  have hok : CoOk c 3 (Co.first c S q) := CoOk.goes (CoOk.add (fun s y hy => by rw [hi.Q s] at hy; cases hy) (by decide) 0 q) rfl
  refine (coord_Wake c base ρ I blk (Co.first c S q) draw W h.co hm ⟨by rw [first_now, hi.now]; exact hn.1, by rw [first_now, hi.now]; omega⟩ hok (by decide) (by decide) (by rw [first_last c S q hi.last]; decide)).mono ?_
  rintro e w' ⟨v, rfl, ⟨⟨ρ', blk', hE, hC, hR⟩, hO⟩⟩
  have e2 := first_lets c S q draw (mayQ_n hq) hi.Q hi.T (by have := hm.nums.2.2.1; omega)
  rw [e2] at hR
  obtain ⟨A, k, rfl⟩ := Kd.R_slice hR
  refine ⟨A, k, ρ', blk', _, rfl, h.api hC hE hO, wakeN_told c draw _ _, ?_, (Kd.R_reads' hR).2.2⟩
  exact ((wakeN_ok hm draw hok ⟨by rw [first_now, hi.now]; exact hn.1, by rw [first_now, hi.now]; omega⟩ (by decide) _).2.1).trans (by rw [first_now, hi.now])
theorem FS_Told {S3 : Co} (h : FS c q b4 b5 bl base w0 ρ I blk S3 lv W) (hi : HInv c n S lv) (hq : mayQ q = true) (ht : S3.told = (Co.first c S q).told) :
    Calls Tryz.prog 26 #[.pointer (some ⟨I.x, 0, none⟩), .int .i64 1] W fun e w' => (∃ t A k b, e = .returned (.tuple #[.agg #[.int .i64 (t : S58).f0, .string t.f1.f0, .int .i64 t.f1.f1, .int .i64 t.f1.f2, .slice A 0 k, .bool b, .bool t.f4], .bool true]) ∧ (b = true ↔ wlN c q = [])) ∧ Below W.heap.size W w' := by
  obtain ⟨t1, t2, t3⟩ := first_told c S q (mayQ_n hq) hi.last hi.told
  have e0 : toldAt S3 ((1 : Int) - 1).toNat = toldAt (Co.first c S q) 0 := by unfold toldAt; rw [ht]; rfl
  have hl : S3.told.length = 1 := by rw [ht]; exact t1
  refine (coord_Told c base ρ I blk S3 1 W h.co (Int.le_refl 1) (by rw [hl]; exact Int.le_refl 1) (by rw [e0, t2]; exact Nat.zero_le _) (by rw [hl]; decide)).mono ?_
  rw [e0]
  rintro e w' ⟨⟨v, rfl, hR⟩, hb⟩
  obtain ⟨A, k, rfl⟩ := Kd.R_slice hR
  refine ⟨⟨toldAt (Co.first c S q) 0, A, k, (toldAt (Co.first c S q) 0).f3, ?_, by rw [t3]; exact decide_eq_true_iff⟩, hb⟩
  rw [t2]
  rfl
end
end Go.Proofs.YthbngidbfhcdaaaGreat.C
/- Whom a wake asks first, told as the statement CoordFirst looks for it (plain). -/
namespace Go.Proofs.YthbngidbfhcdaaaGreat.C
open Go.RowKit Go.Maps Go.Proofs.YthbngidbfhcdaaaGreat.Mem Go.Proofs.YthbngidbfhcdaaaGreatW.PrintWords Go.Proofs.YthbngidbfhcdaaaGreat.PCoordScript
set_option linter.unusedVariables false
theorem add0 (a : Addr) : a.add 0 = a := by
  cases a
  unfold Addr.add
  split <;> simp_all
abbrev rdI (l : List Int) (j : Int) : Int := Go.Proofs.YthbngidbfhcdaaaGreatW.PrintWords.rd l j
/-- The first from place j on that lives; where none does, the first one. -/
def gto (L : Nat → Ls) (now : Int) (l : List Int) (j : Int) : Int := rdI l (max (liveFrom L now l ((l.length : Int) - j).toNat j) 0)
theorem gto_end (L : Nat → Ls) (now : Int) (l : List Int) : gto L now l l.length = rdI l 0 := by
  unfold gto
  rw [show ((l.length : Int) - l.length).toNat = 0 by omega]
  rfl
theorem gto_step (L : Nat → Ls) (now : Int) (l : List Int) {j : Int} (h0 : 0 ≤ j) (h1 : j < l.length) : gto L now l j = if liveB L now (rdI l j) = true then rdI l j else gto L now l (j + 1) := by
  unfold gto
  rw [show ((l.length : Int) - j).toNat = ((l.length : Int) - (j + 1)).toNat + 1 by omega]
  show rdI l (max (if j < (l.length : Int) then (if liveB L now (Go.Proofs.YthbngidbfhcdaaaGreatW.PrintWords.rd l j) = true then j else liveFrom L now l ((l.length : Int) - (j + 1)).toNat (j + 1)) else -1) 0) = _
  rw [if_pos h1]
  split
  · rw [Int.max_eq_left h0]
  · rfl
theorem gto_zero (L : Nat → Ls) (now : Int) (l : List Int) : gto L now l 0 = rdI l (max (liveIx L now l) 0) := by
  unfold gto liveIx
  rw [show ((l.length : Int) - 0).toNat = l.length by omega]
theorem rd_in {l : List Int} {j : Int} (h0 : 0 ≤ j) (h1 : j < l.length) : rdI l j ∈ l := by
  have h : j.toNat < l.length := by omega
  have : rdI l j = l[j.toNat] := by simp [rdI, Go.Proofs.YthbngidbfhcdaaaGreatW.PrintWords.rd, List.getD_eq_getElem?_getD, List.getElem?_eq_getElem h]
  rw [this]
  exact List.getElem_mem h
theorem gto_in (L : Nat → Ls) (now : Int) (l : List Int) (h : 1 ≤ l.length) : gto L now l 0 ∈ l := by
  rw [gto_zero]
  unfold liveIx
  rcases liveFrom_range L now l l.length 0 (by omega) with h1 | h1
  · rw [h1]
    exact rd_in (by omega) (by omega)
  · exact rd_in (by omega) (by omega)
theorem turn0_range (c : Cfg) (S : Co) (i : Nat) (h : 1 ≤ (c.copies i).length) : 0 ≤ turn0 c S i ∧ turn0 c S i < (c.copies i).length := by
  unfold turn0 liveIx
  rcases liveFrom_range S.L S.now (c.copies i) (c.copies i).length 0 (by omega) with h1 | h1
  · rw [h1]
    omega
  · omega
theorem toOf_turn0 (c : Cfg) (S : Co) (i : Nat) (h : 1 ≤ (c.copies i).length) : toOf c i (turn0 c S i) = gto S.L S.now (c.copies i) 0 := by
  obtain ⟨h1, h2⟩ := turn0_range c S i h
  rw [gto_zero]
  unfold toOf
  rw [Int.emod_eq_of_lt h1 h2]
  rfl
theorem seg_no {c : Cfg} {S : Co} {q : S40} {i : Nat} (h : wantB c q i = false) : seg c S q i = [] := by
  unfold seg
  rw [if_neg (by rw [h]; simp)]
theorem seg_mute {c : Cfg} {S : Co} {q : S40} {i : Nat} (h : wantB c q i = true) (hl : 1 ≤ (c.copies i).length) (he : (S.L (gto S.L S.now (c.copies i) 0).toNat).epoch = 0) : seg c S q i = [] := by
  unfold seg askOf
  rw [if_pos h, toOf_turn0 c S i hl, if_pos he]
theorem seg_one {c : Cfg} {S : Co} {q : S40} {i : Nat} (h : wantB c q i = true) (hl : 1 ≤ (c.copies i).length) (he : (S.L (gto S.L S.now (c.copies i) 0).toNat).epoch ≠ 0) : ∃ m, seg c S q i = [⟨gto S.L S.now (c.copies i) 0, m⟩] := by
  unfold seg askOf
  rw [if_pos h, toOf_turn0 c S i hl, if_neg he]
  exact ⟨_, rfl⟩
theorem split_at {α : Type} (f : Nat → List α) : ∀ {N s : Nat}, s < N → ∃ B, (List.range N).flatMap f = (List.range s).flatMap f ++ (f s ++ B)
  | 0, s, h => by omega
  | N + 1, s, h => by
    rw [List.range_succ, List.flatMap_append]
    by_cases e : s = N
    · subst e
      exact ⟨[], by simp⟩
    · obtain ⟨B, hB⟩ := split_at f (N := N) (s := s) (by omega)
      rw [hB]
      exact ⟨B ++ [N].flatMap f, by simp [List.append_assoc]⟩
/-- How many letters are for shards below s. -/
def flL (c : Cfg) (S : Co) (q : S40) (s : Nat) : Nat := ((List.range s).flatMap (seg c S q)).length
theorem flL_succ (c : Cfg) (S : Co) (q : S40) (s : Nat) : flL c S q (s + 1) = flL c S q s + (seg c S q s).length := by
  unfold flL
  rw [List.range_succ, List.flatMap_append, List.length_append]
  simp
theorem flL_end (c : Cfg) (S : Co) (q : S40) : flL c S q (c.cuts.length + 1) = (lets c S q).length := rfl
theorem flL_at {c : Cfg} {S : Co} {q : S40} {s : Nat} {x : LetD} (hs : s < c.cuts.length + 1) (h : seg c S q s = [x]) : flL c S q s < (lets c S q).length ∧ lt_ (lets c S q) (flL c S q s) = x := by
  obtain ⟨B, hB⟩ := split_at (seg c S q) hs
  have hl : lets c S q = (List.range s).flatMap (seg c S q) ++ (x :: B) := by
    unfold lets
    rw [hB, h]
    rfl
  rw [hl]
  unfold flL
  constructor
  · rw [List.length_append, List.length_cons]
    omega
  · unfold lt_
    rw [Int.toNat_natCast, List.getD_eq_getElem?_getD, List.getElem?_append_right (Nat.le_refl _), Nat.sub_self]
    rfl
theorem flL_le {c : Cfg} {S : Co} {q : S40} : ∀ s : Nat, flL c S q s ≤ s
  | 0 => Nat.le_refl _
  | s + 1 => by
    rw [flL_succ]
    have := flL_le (c := c) (S := S) (q := q) s
    have h1 : (seg c S q s).length ≤ 1 := by
      unfold seg askOf
      split
      · split <;> simp
      · simp
    omega
theorem lets_nil {c : Cfg} {S : Co} {q : S40} (h : wlN c q = []) : lets c S q = [] := by
  unfold lets
  rw [List.flatMap_eq_nil_iff]
  intro i hi
  refine seg_no ?_
  rcases Mem.bool_or (wantB c q i) with h1 | h1
  · have : i ∈ wlN c q := List.mem_filter.2 ⟨hi, h1⟩
    rw [h] at this
    cases this
  · exact h1
/-- A worker that is a copy: heard or not, living or not. -/
theorem HInv.live {c : Cfg} {n : Int} {S : Co} {lv : Nat → Int} (h : HInv c n S lv) {x : Int} (hx : 1 ≤ x ∧ x ≤ c.wk) :
    (lv x.toNat = -1 ∧ liveB S.L n x = false ∧ (S.L x.toNat).epoch = 0) ∨ (0 ≤ lv x.toNat ∧ lv x.toNat ≤ n ∧ liveB S.L n x = decide (n ≤ lv x.toNat + c.le) ∧ (S.L x.toNat).epoch ≠ 0) := by
  have hL := h.L x.toNat (by omega) (by omega)
  unfold liveB
  rcases hL with ⟨a, e⟩ | ⟨a, b, e⟩
  · left
    rw [e]
    exact ⟨a, rfl, rfl⟩
  · right
    rw [e]
    exact ⟨a, b, by simp, by simp⟩
theorem wantB_no {c : Cfg} {q : S40} {i : Nat} (h : leastD c.cuts i (tlen q.f0) < 0 ∨ q.f1 < leastD c.cuts i (tlen q.f0)) : wantB c q i = false := by
  unfold wantB wantD
  refine decide_eq_false ?_
  split <;> omega
theorem wantB_yes {c : Cfg} {q : S40} {i : Nat} (h : 0 ≤ leastD c.cuts i (tlen q.f0)) (h2 : leastD c.cuts i (tlen q.f0) ≤ q.f1) : wantB c q i = true := by
  unfold wantB wantD
  refine decide_eq_true ?_
  rw [if_neg (by omega)]
  exact h
def FirstSays (w : World) (e : Ending) (w' : World) : Prop := e = .returned (.bool true) ∧ Below w.heap.size w w'
theorem own_low {c : Cfg} {base : Nat} {ρ : Nat → Own} {I : CoIds} {blk : Int → Nat} {S : Co} {W : World} (h : CoAt c base ρ I blk S W) {k : Nat} (hk : k < base) : ρ k = .z := by
  cases e : ρ k with
  | z => rfl
  | _ => exact absurd (h.own k (by rw [e]; simp)).1 (Nat.not_le.2 hk)
end Go.Proofs.YthbngidbfhcdaaaGreat.C
/- Rounds in which nobody answers (plain). -/
namespace Go.Proofs.YthbngidbfhcdaaaGreat.C
open Go.RowKit Go.Maps Go.Proofs.YthbngidbfhcdaaaGreat.Mem Go.Proofs.YthbngidbfhcdaaaGreatW.PrintWords Go.Proofs.YthbngidbfhcdaaaGreat.PCoordScript
set_option linter.unusedVariables false
theorem copies_rd (c : Cfg) (s : Int) {j : Int} (h0 : 0 ≤ j) (h1 : j < (c.copies s).length) : rdI (c.copies s) j = c.copy s j := by
  have hl := copies_len c s
  have h : j.toNat < c.cp.toNat := by omega
  unfold rdI Go.Proofs.YthbngidbfhcdaaaGreatW.PrintWords.rd Cfg.copies
  rw [List.getD_eq_getElem?_getD, List.getElem?_map, List.getElem?_range h]
  show c.copy s ((j.toNat : Nat) : Int) = _
  rw [show ((j.toNat : Nat) : Int) = j by omega]
/-- A shard's copies are workers of their own. -/
theorem copies_inj {c : Cfg} (hm : c.May) (s : Int) {a b : Int} (ha : 0 ≤ a) (hb : 0 ≤ b) (ha1 : a < (c.copies s).length) (hb1 : b < (c.copies s).length) (h : rdI (c.copies s) a = rdI (c.copies s) b) : a = b := by
  rw [copies_rd c s ha ha1, copies_rd c s hb hb1] at h
  have hl := copies_len c s
  obtain ⟨⟨h1, h2⟩, ⟨h3, h4, h5⟩, _⟩ := hm.nums
  unfold Cfg.copy at h
  have e : (s + a) % c.wk = (s + b) % c.wk := by omega
  have d := Int.emod_emod_of_dvd
  have h6 : (a - b) % c.wk = 0 := by
    have := Int.emod_eq_emod_iff_emod_sub_eq_zero.1 e
    rw [show s + a - (s + b) = a - b by omega] at this
    exact this
  obtain ⟨k, hk⟩ := Int.dvd_of_emod_eq_zero h6
  have hlt : a - b < c.wk ∧ -c.wk < a - b := by omega
  rcases Int.lt_or_le 0 k with hk0 | hk0
  · have := Int.mul_le_mul_of_nonneg_left (show (1 : Int) ≤ k by omega) (show 0 ≤ c.wk by omega)
    omega
  · rcases Int.lt_or_le k 0 with hk1 | hk1
    · have := Int.mul_le_mul_of_nonneg_left (show k ≤ (-1 : Int) by omega) (show 0 ≤ c.wk by omega)
      omega
    · have : k = 0 := by omega
      rw [this, Int.mul_zero] at hk
      omega
def qR : S40 := ⟨⟨#[97, 98, 99]⟩, 4, 3⟩
theorem qR_may : mayQ qR = true := by kernel_rfl
def qy0 (c : Cfg) : Qy := newQy c Co.new qR
def mostOf (c : Cfg) : Int := cl c.ca + cl c.ji
/-- How a coordinator stands after i rounds, at the moment n, its timers not behind b; pt: whose turn it was. -/
structure RSt (c : Cfg) (N : Int) (i : Nat) (n b : Int) (S : Co) (pt : Nat → Int) : Prop where
  now : S.now = n
  last : S.last ≤ 1
  ok : CoOk c N S
  L : ∀ k : Int, 1 ≤ k → k ≤ c.wk → (S.L k.toNat).epoch ≠ 0
  Q' : ∀ s, s ≠ 0 → S.Q s = none
  Q0 : (wlN c qR = [] ∧ S.Q 0 = none) ∨ ∃ t, S.Q 0 = some { qy0 c with t := t } ∧ ∀ k ∈ wlN c qR, (i = 0 ∧ S.T (tidOf 0 k) = none) ∨ (0 < i ∧ (∃ a, S.T (tidOf 0 k) = some a ∧ a ≤ b) ∧ 0 ≤ (t k).turn ∧ pt k = (t k).turn % (c.copies k).length)
theorem RSt.tick {c : Cfg} {N : Int} {i : Nat} {n b : Int} {S : Co} {pt : Nat → Int} (h : RSt c N i n b S pt) (hn : 0 ≤ n ∧ n ≤ 1000000) : RSt c N i (n + 1) b { S with now := tickN S.now } pt :=
  ⟨by show tickN S.now = _; rw [h.now]; unfold tickN; omega, h.last, h.ok, h.L, h.Q', h.Q0⟩
theorem RSt.cong {c : Cfg} {N : Int} {i : Nat} {n b : Int} {S : Co} {pt pt' : Nat → Int} (h : RSt c N i n b S pt) (he : ∀ k ∈ wlN c qR, pt' k = pt k) : RSt c N i n b S pt' :=
  ⟨h.now, h.last, h.ok, h.L, h.Q', h.Q0.imp (fun h => h) fun ⟨t, h1, h2⟩ => ⟨t, h1, fun k hk => (h2 k hk).imp (fun h => h) fun ⟨a1, a2, a3, a4⟩ => ⟨a1, a2, a3, (he k hk).trans a4⟩⟩⟩
theorem RSt.due {c : Cfg} {N : Int} {i : Nat} {n b b' : Int} {S : Co} {pt : Nat → Int} (h : RSt c N i n b S pt) (hb : b ≤ b') : RSt c N i n b' S pt :=
  ⟨h.now, h.last, h.ok, h.L, h.Q', h.Q0.imp (fun h => h) fun ⟨t, h1, h2⟩ => ⟨t, h1, fun k hk => (h2 k hk).imp (fun h => h) fun ⟨a1, ⟨a, a2, a3⟩, a4⟩ => ⟨a1, ⟨a, a2, by omega⟩, a4⟩⟩⟩
/-- What a letter of a round is: to shard k's copy at place p. -/
def IsAsk (c : Cfg) (k : Nat) (p : Int) (x : LetD) : Prop := x.dest = rdI (c.copies k) p ∧ ∃ a : AskD, x.msg = .ask a ∧ a.shard = k
theorem flatMap_one {α β : Type} {f : α → List β} {g : α → β} : ∀ {l : List α}, (∀ k ∈ l, f k = [g k]) → l.flatMap f = l.map g
  | [], _ => rfl
  | a :: l, h => by
    rw [List.flatMap_cons, h a (by simp), flatMap_one fun k hk => h k (List.mem_cons_of_mem _ hk)]
    rfl
theorem wlN_nodup (c : Cfg) (q : S40) : (wlN c q).Nodup := List.Pairwise.filter _ List.nodup_range
theorem not_taken {l : List Nat} (hn : l.Nodup) {j k : Nat} (hj : l[j]? = some k) : k ∉ l.take j := by
  intro h
  obtain ⟨i, hi⟩ := List.getElem?_of_mem h
  have hlt : i < j := by
    have := (List.getElem?_eq_some_iff.1 hi).1
    rw [List.length_take] at this
    omega
  rw [List.getElem?_take_of_lt hlt] at hi
  obtain ⟨h1, h2⟩ := List.getElem?_eq_some_iff.1 hi
  obtain ⟨h3, h4⟩ := List.getElem?_eq_some_iff.1 hj
  have := List.pairwise_iff_getElem.1 hn i j h1 h3 hlt
  exact this (h2.trans h4.symm)
theorem take_next {l : List Nat} {j k : Nat} (hj : l[j]? = some k) : l.take (j + 1) = l.take j ++ [k] := by
  obtain ⟨h3, h4⟩ := List.getElem?_eq_some_iff.1 hj
  rw [List.take_succ_eq_append_getElem h3, h4]
theorem wlN_lt {c : Cfg} {q : S40} {k : Nat} (h : k ∈ wlN c q) : k < c.cuts.length + 1 := List.mem_range.1 (List.mem_filter.1 h).1
/-- A round: what is sent, and what stands behind it. -/
theorem round_wake {c : Cfg} (hm : c.May) {N : Int} {i : Nat} {n : Int} {S : Co} {pt : Nat → Int} (h : RSt c N i n n S pt) (hn : 0 ≤ n ∧ n ≤ 1000000) (hN : 3 ≤ N) (d : Int) :
    ∃ pt', RSt c (N + 24) (i + 1) n (n + mostOf c) (wakeN c d c.sl.toNat S).1 pt' ∧ (wakeN c d c.sl.toNat S).2.length = (wlN c qR).length ∧
      ∀ j k : Nat, (wlN c qR)[j]? = some k → IsAsk c k (pt' k) (lt_ (wakeN c d c.sl.toNat S).2 j) ∧ 0 ≤ pt' k ∧ pt' k < (c.copies k).length ∧ (0 < i → 0 ≤ pt k ∧ pt k < (c.copies k).length ∧ pt' k = (pt k + 1) % (c.copies k).length) := by
  have hnw : 0 ≤ S.now ∧ S.now ≤ 1099511627776 := by rw [h.now]; omega
  obtain ⟨w1, w2, w3⟩ := wakeN_ok hm d h.ok hnw hN c.sl.toNat
  have hsl := hm.nums.2.2.1
  have hl0 : ∀ k : Nat, 1 ≤ (c.copies k).length := fun k => by
    rw [copies_len]
    have := hm.nums.2.1
    omega
  have w1' : CoOk c (N + 24) (wakeN c d c.sl.toNat S).1 := w1.mono (by omega)
  have wl_ : (wakeN c d c.sl.toNat S).1.last = S.last := wakeN_last c d S _
  rcases h.Q0 with ⟨hw, hq⟩ | ⟨t, hq, hk⟩
  · have hall : ∀ s, S.Q s = none := fun s => by
      by_cases e : s = 0
      · rw [e]; exact hq
      · exact h.Q' s e
    rw [wakeN_none c d S hall]
    refine ⟨pt, ⟨h.now, h.last, h.ok.mono (by omega), h.L, h.Q', .inl ⟨hw, hq⟩⟩, by rw [hw]; rfl, fun j k hj => by rw [hw] at hj; cases hj⟩
  · obtain ⟨m, hs⟩ : ∃ m, c.sl.toNat = m + 1 := ⟨c.sl.toNat - 1, by omega⟩
    have e1 : wakeN c d c.sl.toNat S = wantAll c 0 d (wl c qR) (S, []) := by
      rw [hs, wakeN_first c d S h.Q' m]
      unfold wakeStep
      show (match S.Q 0 with | none => ((S, []) : Co × List LetD) | some y => wantAll c 0 d y.m.wants (S, [])) = _
      rw [hq]
      show wantAll c 0 d (newMg c qR).wants (S, []) = _
      rw [newMg_wants c qR (by decide)]
    have hT : ∀ k ∈ wlN c qR, dueB S 0 k = true := fun k hkm => by
      unfold dueB
      rcases hk k hkm with ⟨_, e⟩ | ⟨_, ⟨a, e, hle⟩, _⟩
      · rw [e]
      · rw [e]
        exact decide_eq_true (by rw [h.now]; exact hle)
    have hmem : ∀ k : Nat, (k : Int) ∈ wl c qR ↔ k ∈ wlN c qR := fun k => by
      unfold wl
      constructor
      · intro hx
        obtain ⟨a, ha, e⟩ := List.mem_map.1 hx
        have : a = k := Int.ofNat.inj e
        exact this ▸ ha
      · exact fun hx => List.mem_map.2 ⟨k, hx, rfl⟩
    obtain ⟨h1, h2⟩ := wantAll_ask c 0 d (wl c qR) (S, []) { qy0 c with t := t } hq (wl_nodup c qR) fun k hk => ⟨(wl_mem hk).1, hT _ ((hmem _).1 (by rw [show ((k.toNat : Nat) : Int) = k by have := (wl_mem hk).1; omega]; exact hk))⟩
    rw [← e1] at h1 h2
    generalize wakeN c d c.sl.toNat S = W at *
    rw [List.nil_append] at h1
    let y : Qy := { qy0 c with t := t }
    let tt : Nat → Tn := fun k => wantT c S 0 y k
    have htt : ∀ k ∈ wlN c qR, 0 ≤ (tt k).turn ∧ (0 < i → (tt k).turn = (t k).turn + 1) := fun k hkm => by
      show 0 ≤ (wantT c S 0 y k).turn ∧ (0 < i → (wantT c S 0 y k).turn = _)
      unfold wantT
      rcases hk k hkm with ⟨e0, e⟩ | ⟨e0, ⟨a, e, hle⟩, ht0, _⟩
      · rw [e]
        exact ⟨Int.le_max_right _ _, fun h => by omega⟩
      · rw [e]
        show 0 ≤ (if a ≤ S.now then ({ t k with turn := (t k).turn + 1, tries := _ } : Tn) else _).turn ∧ (0 < i → (if a ≤ S.now then ({ t k with turn := (t k).turn + 1, tries := _ } : Tn) else _).turn = _)
        rw [if_pos (by rw [h.now]; exact hle)]
        exact ⟨by show 0 ≤ (t k).turn + 1; omega, fun _ => rfl⟩
    let pt' : Nat → Int := fun k => (tt k).turn % (c.copies k).length
    have hpt : ∀ k : Nat, k ∈ wlN c qR → 0 ≤ pt' k ∧ pt' k < (c.copies k).length := fun k hkm => by
      have := hl0 k
      exact ⟨Int.emod_nonneg _ (by omega), Int.emod_lt_of_pos _ (by omega)⟩
    let g : Int → LetD := fun k => (askK c S 0 y k).headD zLet
    have hg : ∀ k : Nat, k ∈ wlN c qR → askK c S 0 y (k : Int) = [g k] ∧ IsAsk c k (pt' k) (g k) := fun k hkm => by
      have hlen : 1 ≤ (c.copies k).length := hl0 k
      have hto : toOf c k (tt k).turn = rdI (c.copies k) (pt' k) := rfl
      have hin := copies_in hm (s := (k : Int)) (by omega) (rd_in (hpt k hkm).1 (hpt k hkm).2)
      have hep := h.L _ hin.1 hin.2
      have hask : askK c S 0 y (k : Int) = [⟨toOf c k (tt k).turn, .ask ⟨0, y.id, k, (rd_T172 y.m.sh k).f1, (S.L (toOf c k (tt k).turn).toNat).epoch, y.q.f0, y.q.f1, c.ba, !(rd_T172 y.m.sh k).f3, (rd_T172 y.m.sh k).f4⟩⟩] := by
        show askOf c S 0 y k (tt k).turn = _
        unfold askOf
        rw [if_neg (by rw [hto]; exact hep)]
        rfl
      have e2 : g k = ⟨toOf c k (tt k).turn, .ask ⟨0, y.id, k, (rd_T172 y.m.sh k).f1, (S.L (toOf c k (tt k).turn).toNat).epoch, y.q.f0, y.q.f1, c.ba, !(rd_T172 y.m.sh k).f3, (rd_T172 y.m.sh k).f4⟩⟩ := by
        show (askK c S 0 y (k : Int)).headD zLet = _
        rw [hask]
        rfl
      exact ⟨by rw [hask, e2], by rw [e2]; exact ⟨hto, _, rfl, rfl⟩⟩
    have hls : W.2 = (wlN c qR).map fun k : Nat => g k := by
      rw [h1]
      unfold wl
      rw [flatMap_one (f := askK c S 0 { qy0 c with t := t }) (g := g)]
      · rw [List.map_map]; rfl
      · intro k hk
        obtain ⟨a, ha, rfl⟩ := List.mem_map.1 hk
        exact (hg a ha).1
    refine ⟨pt', ⟨h2.now.trans h.now, by rw [h2.last]; exact h.last, w1', fun k a b => by rw [h2.L]; exact h.L k a b, fun s hs => (h2.Q s hs).trans (h.Q' s hs), .inr ?_⟩, by rw [hls, List.length_map], fun j k hj => ?_⟩
    · obtain ⟨t', q1, q2⟩ := h2.q
      refine ⟨t', q1, fun k hkm => .inr ⟨by omega, ⟨_, h2.T k ((hmem k).2 hkm), ?_⟩, ?_⟩⟩
      · have hnn : (S, ([] : List LetD)).1.now = n := h.now
        show min ((S, ([] : List LetD)).1.now + _) _ ≤ _
        rw [hnn]
        exact Int.le_trans (Int.min_le_left _ _) (Int.add_le_add_left (wt_range _ _ _ _ _).2 _)
      · have e3 : t' k = tt k := by rw [q2 k, if_pos ((hmem k).2 hkm)]
        rw [e3]
        exact ⟨(htt k hkm).1, rfl⟩
    · have hkm : k ∈ wlN c qR := List.mem_of_getElem? hj
      have hlt : lt_ W.2 (j : Int) = g k := by
        unfold lt_
        rw [hls, Int.toNat_natCast, List.getD_eq_getElem?_getD, List.getElem?_map, hj]
        rfl
      refine ⟨by rw [hlt]; exact (hg k hkm).2, (hpt k hkm).1, (hpt k hkm).2, fun hi => ?_⟩
      rcases hk k hkm with ⟨e0, _⟩ | ⟨_, _, ht0, hp⟩
      · omega
      · have hlk := hl0 k
        refine ⟨by rw [hp]; exact Int.emod_nonneg _ (by omega), by rw [hp]; exact Int.emod_lt_of_pos _ (by omega), ?_⟩
        show (tt k).turn % _ = _
        rw [(htt k hkm).2 hi, hp, Int.emod_add_emod]
end Go.Proofs.YthbngidbfhcdaaaGreat.C
/- How a coordinator stands beside blocks that the statement itself keeps; its calls. -/
namespace Go.Proofs.YthbngidbfhcdaaaGreat.C
open Go.RowKit Go.Maps Go.Proofs.YthbngidbfhcdaaaGreat.Mem Go.Proofs.YthbngidbfhcdaaaGreatW.PrintWords Go.Proofs.YthbngidbfhcdaaaGreat.PCoordScript
set_option linter.unusedVariables false
structure GS (c : Cfg) (K : List (Nat × Obj)) (base : Nat) (w0 : World) (ρ : Nat → Own) (I : CoIds) (blk : Int → Nat) (S : Co) (W : World) : Prop where
  co : CoAt c base ρ I blk S W
  bel : Below w0.heap.size w0 W
  kept : ∀ p ∈ K, W.heap[p.1]? = some p.2 ∧ ρ p.1 = .z
  ge : w0.heap.size ≤ base
section
variable {c : Cfg} {K : List (Nat × Obj)} {base : Nat} {w0 : World} {ρ ρ' : Nat → Own} {I : CoIds} {blk blk' : Int → Nat} {S S' : Co} {W W' : World} {n : Int} {lv : Nat → Int}
theorem GS.api (h : GS c K base w0 ρ I blk S W) (hC : CoAt c base ρ' I blk' S' W') (hE : Ext ρ ρ' W) (hO : Only (fun k => ρ k ≠ .z) W W') : GS c K base w0 ρ' I blk' S' W' :=
  ⟨hC, h.bel.trans (hO.below h.bel.size fun k _ hk => Nat.le_trans h.ge (h.co.own k hk).1), fun p hp => ⟨(hO.block _ (blk_lt (h.kept p hp).1) (by rw [(h.kept p hp).2]; simp)).trans (h.kept p hp).1, ext_z hE (blk_lt (h.kept p hp).1) (h.kept p hp).2⟩, h.ge⟩
theorem GS.fresh (h : GS c K base w0 ρ I blk S W) (hb : Below W.heap.size W W') : GS c K base w0 ρ I blk S W' := h.api (h.co.fresh hb) (Ext.refl _ _) (Only.fresh hb _)
theorem GS.alloc (h : GS c K base w0 ρ I blk S W) (o : Obj) : GS c ((W.heap.size, o) :: K) base w0 ρ I blk S (W.alloc o) := by
  have h' := h.fresh (below_alloc (Below.refl _ _) o)
  refine ⟨h'.co, h'.bel, fun p hp => ?_, h'.ge⟩
  rcases List.mem_cons.1 hp with rfl | hp
  · exact ⟨blk_new _ _, h.co.zero (Nat.le_refl _)⟩
  · exact h'.kept p hp
/-- A kept block turns. -/
theorem GS.turn {b : Nat} {o o' : Obj} (h : GS c ((b, o) :: K) base w0 ρ I blk S W) (hO : Only (fun k => k = b) W W') (hb : W'.heap[b]? = some o') (hn : ∀ p ∈ K, p.1 ≠ b) (hg : w0.heap.size ≤ b) : GS c ((b, o') :: K) base w0 ρ I blk S W' := by
  have hz := (h.kept (b, o) (by simp)).2
  refine ⟨h.co.frame hO.size fun i hi hne => hO.block i hi fun e => hne (e ▸ hz), h.bel.trans (hO.below h.bel.size fun i _ e => e ▸ hg), fun p hp => ?_, h.ge⟩
  rcases List.mem_cons.1 hp with rfl | hp
  · exact ⟨hb, hz⟩
  · obtain ⟨a, b'⟩ := h.kept p (List.mem_cons_of_mem _ hp)
    exact ⟨(hO.block _ (blk_lt a) (hn p hp)).trans a, b'⟩
theorem GS_Take (h : GS c K base w0 ρ I blk S W) (hm : c.May) (hi : HInv c n S lv) (hn : 0 ≤ n ∧ n ≤ 1000000) {k : Int} (hk : 1 ≤ k ∧ k ≤ c.wk) :
    Calls Tryz.prog 16 #[.pointer (some ⟨I.x, 0, none⟩), .iface 36 (.agg #[.int .i64 k, .int .i64 1])] W fun e w' => (∃ v, e = .returned v) ∧ GS c K base w0 ρ I blk (S.hello c k 1) w' := by
  obtain ⟨ok, _⟩ := hi.hello hn.1 hm.nums.2.2.2.2.1.1 hk
  refine (coord_Take_hello c base ρ I blk S k 1 W h.co hm (by rw [hi.now]; exact hn.1) (by rw [hi.now]; omega) fun k => ⟨(hi.ep k).1, by have := (hi.ep k).2; omega⟩).mono ?_
  rw [if_pos ok, if_pos ok]
  rintro e w' ⟨⟨v, rfl, hR⟩, hC, hO⟩
  exact ⟨⟨v, rfl⟩, h.api hC (Ext.refl _ _) (hO.mono fun k _ hk => by rw [hk, h.co.roles.2.1]; simp)⟩
theorem GS_Now (h : GS c K base w0 ρ I blk S W) (hi : S.now = n) :
    Calls Tryz.prog 18 #[.pointer (some ⟨I.x, 0, none⟩)] W fun e w' => e = .returned (.int .i64 n) ∧ w' = W := by
  rw [← hi]
  exact coord_Now c base ρ I blk S W h.co
theorem GS_Tick (h : GS c K base w0 ρ I blk S W) (hn : 0 ≤ S.now ∧ S.now ≤ 1000000) :
    Calls Tryz.prog 23 #[.pointer (some ⟨I.x, 0, none⟩)] W fun e w' => e = .returned (.tuple #[]) ∧ GS c K base w0 ρ I blk { S with now := tickN S.now } w' := by
  refine (coord_Tick c base ρ I blk S W h.co hn.1 (by omega)).mono ?_
  rintro e w' ⟨rfl, hC, hO⟩
  exact ⟨rfl, h.api hC (Ext.refl _ _) (hO.mono fun k _ hk => by rw [hk, h.co.roles.1]; simp)⟩
theorem GS_Submit {q : S40} (h : GS c K base w0 ρ I blk S W) (hm : c.May) (hi : HInv c n S lv) (hs : q.f0.size ≤ 9223372036854775807) (hq : mayQ q = true) :
    Calls Tryz.prog 17 #[.pointer (some ⟨I.x, 0, none⟩), qval q] W fun e w' => ∃ A k m ρ' blk', e = .returned (.tuple #[.int .i64 3, .int .i64 1, .slice A k m]) ∧ GS c K base w0 ρ' I blk' (Co.first c S q) w' := by
  have hlive : S.live = 0 := by
    show liveN S.Q 4 = 0
    simp [liveN, hi.Q]
  refine (coord_Submit c base ρ I blk S q 0 W h.co hm hs hq (by have := hm.nums.2.2.1; omega) (fun i hi => absurd hi (Nat.not_lt_zero i)) (hi.Q 0) (by rw [hlive]; have := hm.nums.2.2.1; omega) (by rw [hi.last]; decide)).mono ?_
  rintro e w' ⟨v, rfl, ⟨⟨ρ', blk', hE, hC, hR⟩, hO⟩⟩
  obtain ⟨A, m, rfl⟩ := Kd.R_slice hR
  rw [hi.last]
  exact ⟨_, _, _, ρ', blk', rfl, h.api hC hE hO⟩
theorem GS_Wake {N : Int} (h : GS c K base w0 ρ I blk S W) (hm : c.May) (hn : 0 ≤ S.now ∧ S.now ≤ 1000000) (hok : CoOk c N S) (hN : 3 ≤ N) (hN2 : N ≤ 1000000) (hl : S.last ≤ 1000000) (draw : Int) :
    Calls Tryz.prog 20 #[.pointer (some ⟨I.x, 0, none⟩), .int .i64 draw] W fun e w' => ∃ A k ρ' blk', e = .returned (.slice A (wakeN c draw c.sl.toNat S).2.length k) ∧ GS c K base w0 ρ' I blk' (wakeN c draw c.sl.toNat S).1 w' ∧ Kd.C kLet w' A (wakeN c draw c.sl.toNat S).2.length (wakeN c draw c.sl.toNat S).2 ∧ ∀ ad, A = some ad → W.heap.size ≤ ad.block := by
  refine (coord_Wake c base ρ I blk S draw W h.co hm ⟨hn.1, by omega⟩ hok hN (by omega) hl).mono ?_
  rintro e w' ⟨v, rfl, ⟨⟨ρ', blk', hE, hC, hR⟩, hO⟩⟩
  obtain ⟨A, k, rfl⟩ := Kd.R_slice hR
  refine ⟨A, k, ρ', blk', rfl, h.api hC hE hO, (Kd.R_reads' hR).2.2, fun ad e => ?_⟩
  subst e
  obtain ⟨inner, hown⟩ := Kd.R_own hR
  exact own_base hown _ rfl
end
/-- Everyone was heard, a query was taken: the first round may begin. -/
theorem RSt.first {c : Cfg} {S : Co} {lv : Nat → Int} (h : HInv c 0 S lv) (hall : ∀ k : Int, 1 ≤ k → k ≤ c.wk → 0 ≤ lv k.toNat) (pt : Nat → Int) : RSt c 3 0 0 0 (Co.first c S qR) pt := by
  have hnew : newQy c S qR = qy0 c := by
    unfold newQy qy0
    show (⟨S.last + 1, qR, newMg c qR, fun _ => Tn.none⟩ : Qy) = ⟨0 + 1, qR, newMg c qR, fun _ => Tn.none⟩
    rw [h.last]
  have hok : CoOk c 3 (Co.first c S qR) := CoOk.goes (CoOk.add (fun s y hy => by rw [h.Q s] at hy; cases hy) (by decide) 0 qR) rfl
  have hL : (Co.first c S qR).L = S.L := (goes_now c _ _ _).2.2
  have hLL : ∀ k : Int, 1 ≤ k → k ≤ c.wk → ((Co.first c S qR).L k.toNat).epoch ≠ 0 := fun k h1 h2 => by
    rw [hL]
    rcases h.live ⟨h1, h2⟩ with ⟨a, _, _⟩ | ⟨_, _, _, e⟩
    · have := hall k h1 h2
      omega
    · exact e
  by_cases hw : wlN c qR = []
  · have h1 := first_done c S qR (by decide) hw h.Q
    exact ⟨(first_now c S qR).trans h.now, by rw [first_last c S qR h.last]; decide, hok, hLL, fun s _ => h1 s, .inl ⟨hw, h1 0⟩⟩
  · obtain ⟨f1, f2, f3, f4, f5⟩ := first_goes c S qR (by decide) hw h.Q
    exact ⟨(first_now c S qR).trans h.now, by rw [first_last c S qR h.last]; decide, hok, hLL, f2, .inr ⟨fun _ => Tn.none, by rw [f1, hnew]; rfl, fun k _ => .inl ⟨rfl, by rw [f3]; exact h.T _⟩⟩⟩
end Go.Proofs.YthbngidbfhcdaaaGreat.C
/- CoordRounds, walked. -/
namespace Go.Proofs.YthbngidbfhcdaaaGreat.C
open Go.RowKit Go.Maps Go.Proofs.YthbngidbfhcdaaaGreat.Mem Go.Proofs.YthbngidbfhcdaaaGreatW.PrintWords Go.Proofs.YthbngidbfhcdaaaGreat.PCoordScript
set_option linter.unusedVariables false
set_option linter.unusedSimpArgs false
/-- The configuration of the rounds. -/
def Cfg.far (c : Cfg) : Cfg := { c with he := 1000 }
theorem far_May {c : Cfg} (h : c.May) : c.far.May := by
  refine ⟨h.1, h.2.1, ?_⟩
  have h3 := h.2.2
  unfold Cfg.numbers Cfg.times at h3 ⊢
  simp only [Bool.and_eq_true] at h3 ⊢
  obtain ⟨⟨a, b⟩, ⟨⟨⟨⟨d, e⟩, f⟩, g⟩, i⟩⟩ := h3
  exact ⟨⟨a, b⟩, ⟨⟨⟨⟨d, rfl⟩, f⟩, g⟩, i⟩⟩
theorem far_At {c : Cfg} {W : World} (h : c.At W) : c.far.At W := ⟨h.words, h.w_cap, h.cuts, h.c_cap, h.w_size, h.c_size⟩
theorem most_le {c : Cfg} (h : c.May) : 0 ≤ mostOf c ∧ mostOf c ≤ 60 := by
  obtain ⟨_, _, _, _, _, _, _, h1, h2⟩ := h.nums
  have h3 := h.nums.2.2.2.2.2.2.1
  unfold mostOf cl mn mx
  (repeat' split) <;> omega
structure FB1 (c : Cfg) (w W : World) : Prop where
  at_ : c.At W
  bel : Below w.heap.size w W
  h4 : W.heap[w.heap.size]? = some (CfgB c)
theorem FB1.step {c : Cfg} {w W W' : World} (h : FB1 c w W) (hb : Below W.heap.size W W') : FB1 c w W' :=
  ⟨h.at_.below hb, below_step h.bel hb, blk_below h.h4 hb⟩
theorem FB1.start {c : Cfg} {w : World} (h : c.At w) : FB1 c w (w.alloc (CfgB c)) := ⟨h.below (below_alloc (Below.refl _ _) _), below_alloc (Below.refl _ _) _, blk_new _ _⟩
theorem GS_SubmitR {c : Cfg} {K : List (Nat × Obj)} {base : Nat} {w0 : World} {ρ : Nat → Own} {I : CoIds} {blk : Int → Nat} {S : Co} {W : World} {n : Int} {lv : Nat → Int} (h : GS c K base w0 ρ I blk S W) (hm : c.May) (hi : HInv c n S lv) :
    Calls Tryz.prog 17 #[.pointer (some ⟨I.x, 0, none⟩), .agg #[.string ⟨#[97, 98, 99]⟩, .int .i64 4, .int .i64 3]] W fun e w' => ∃ A k m ρ' blk', e = .returned (.tuple #[.int .i64 3, .int .i64 1, .slice A k m]) ∧ GS c K base w0 ρ' I blk' (Co.first c S qR) w' :=
  GS_Submit (q := qR) h hm hi (by decide) qR_may
theorem most_calls' (c : Cfg) (w : World) : Calls Tryz.prog 19 #[c.val] w fun e w' => e = .returned (.int .i64 (mostOf c)) ∧ Below w.heap.size w w' := most_calls c w
theorem C_other {W : World} {A : Option Addr} {n : Nat} {xs : List LetD} (h : Kd.C kLet W A n xs) {b : Nat} {cs : Array Value} {t : TypeId} (hb : W.heap[b]? = some (.cells cs t (0, 0))) (hne : ∀ ad, A = some ad → ad.block ≠ b) (i : Nat) (u : Value) : Kd.C kLet (W.setCell ⟨b, i, none⟩ u) A n xs := by
  obtain ⟨h1, h2, h3⟩ := h
  refine ⟨h1, h2, fun hn => ?_⟩
  obtain ⟨ad, e, hc⟩ := h3 hn
  refine ⟨ad, e, fun j p hj => ?_⟩
  obtain ⟨c, hl, hK, hcell⟩ := hc j p hj
  refine ⟨c, hl, hK, fun i' u' hu => ?_⟩
  have h4 := hcell i' u' hu
  rw [← h4]
  exact World.cell?_of_block (Below.heap_setCell _ _ _ _ (by rw [addr_block]; exact hne ad e))
set_option maxRecDepth 100000 in
set_option maxHeartbeats 4000000 in
theorem rounds_any (c0 : Cfg) (A1 : Option Addr) (c1 : Nat) (draws : List Int) (w : World) (hc : c0.At w) (hh : Kd.C (Kd.int .i64) w A1 draws.length draws) :
    Calls Tryz.prog 3 #[c0.val, .slice A1 draws.length c1] w (FirstSays w) := by
  have HC := Aside0.mk hc
  have HH := Aside0.mk hh
  have hl := hh.2.1
  have HF0 : Aside0 (FB1 c0 w (w.alloc (CfgB c0))) := ⟨FB1.start hc⟩
  clear hc hh
  go_enter Tryz.func3, Tryz.ntmps3
  go_wp2_with fail
  refine (great_config c0 _ HF0.out.at_).mono ?_
  rintro e w1 ⟨b1, rfl, hb1, hbel⟩
  have HF1 := Aside0.mk (HF0.out.step hbel)
  clear hbel hb1
  rcases Mem.bool_or b1 with g1 | g1
  · go_wp2_with (go_at_call 14; refine (awake_calls _).mono ?_; rintro e w2 ⟨rfl, hb⟩; have HB := Aside0.mk (below_step HF1.out.bel hb); clear hb)
    go_ret
    exact ⟨rfl, HB.out⟩
  obtain ⟨x0, x1, x2, x3, x4, x5, x6, x7, x8, x9, x10, x11⟩ := Cfg.read HF1.out.h4
  rcases Mem.dec_or ((20 : Int) < draws.length) with g3 | g3
  · go_wp2_with (go_at_call 14; refine (awake_calls _).mono ?_; rintro e w2 ⟨rfl, hb⟩; have HB := Aside0.mk (below_step HF1.out.bel hb); clear hb)
    go_ret
    exact ⟨rfl, HB.out⟩
  go_wp2_with fail
  refine (place_May c0 _ HF1.out.at_).mono ?_
  rintro e w2 ⟨⟨b2, rfl, hb2⟩, hbel⟩
  have HF2 := Aside0.mk (HF1.out.step hbel)
  have HM := Aside0.mk hb2
  clear hbel hb2 x0 x1 x2 x3 x4 x5 x6 x7 x8 x9 x10 x11
  rcases Mem.bool_or b2 with g4 | g4
  rotate_left
  · go_wp2_with (go_at_call 14; refine (awake_calls _).mono ?_; rintro e w2 ⟨rfl, hb⟩; have HB := Aside0.mk (below_step HF2.out.bel hb); clear hb)
    go_ret
    exact ⟨rfl, HB.out⟩
  have HMY := Aside0.mk (far_May (HM.out.1 g4))
  have hl20 : draws.length ≤ 20 := by simp at g3; omega
  have x7 : w2.cell? ⟨w.heap.size, 7, none⟩ = some (.int .i64 c0.he) := (Cfg.read HF2.out.h4).2.2.2.2.2.2.2.1
  have f7 := blk_frozen HF2.out.h4 7
  go_upto_region 4 with fail
  have HF3 : Aside0 (FB1 c0.far w (w2.setCell ⟨w.heap.size, 7, none⟩ (.int .i64 1000))) := ⟨⟨far_At (HC.out.below (HF2.out.bel.setCell (Nat.le_refl _) _)), HF2.out.bel.setCell (Nat.le_refl _) _, blk_put HF2.out.h4 7 _ rfl⟩⟩
  refine Rd.gen_wp (R := fun V => FB1 c0.far w V) HF3.out ?_
  clear HF3 HF2 HF1 HF0 x7 f7 g4 g1 g3 HM
  rintro w3 hF3
  have HF3 := Aside0.mk hF3
  have HCF := Aside0.mk (far_At HC.out)
  clear hF3 HC
  generalize c0.far = c at *
  obtain ⟨x0, x1, x2, x3, x4, x5, x6, x7, x8, x9, x10, x11⟩ := Cfg.read HF3.out.h4
  go_upto_region 7 with (go_at_call 15; with_reducible refine (coord_New' c _ HF3.out.at_ HMY.out).mono ?_; rintro e w4 ⟨I, ρ, rfl, hC, hb⟩; have HC4 := Aside0.mk hC; have HF4 := Aside0.mk (HF3.out.step hb); have hz3 := Aside0.mk hb.size; clear hC hb)
  clear x0 x1 x2 x3 x4 x5 x6 x7 x8 x9 x10 x11
  obtain ⟨⟨hwk1, hwk2⟩, ⟨hcp1, hcp2, hcp3⟩, ⟨hsl1, hsl2⟩, _, ⟨hle1, hle2⟩, _⟩ := HMY.out.nums
  have hmost := most_le HMY.out
  have HG4 : Aside0 (GS c [(w.heap.size, CfgB c)] w3.heap.size w ρ I (fun _ => 0) Co.new w4) := ⟨⟨HC4.out, HF4.out.bel, fun p hp => by
    obtain rfl := List.mem_singleton.1 hp
    exact ⟨HF4.out.h4, own_low HC4.out (blk_lt HF3.out.h4)⟩, HF3.out.bel.size⟩⟩
  have hbs : Aside0 (w.heap.size < w4.heap.size) := ⟨blk_lt HF4.out.h4⟩
  clear HC4 HF4 HF3
  go_wp2
  go_loopw [7] (fun v wr => ∃ k : Int, v = .int .i64 k ∧ 1 ≤ k ∧ k ≤ c.wk + 1 ∧ Aside0 (∃ S lv, GS c [(w.heap.size, CfgB c)] w3.heap.size w ρ I (fun _ => 0) S wr ∧ HInv c 0 S lv ∧ ∀ i : Int, 1 ≤ i → i < k → 0 ≤ lv i.toNat)) (fun v _ => (c.wk + 1).toNat - (intOf v).toNat)
  case atStart => exact ⟨1, rfl, by omega, by omega, ⟨⟨_, _, HG4.out, HInv.new c (lv := fun _ => -1) (fun _ _ _ => rfl), fun i h1 h2 => absurd h1 (by omega)⟩⟩⟩
  case round =>
    obtain ⟨k, rfl, hk1, hk2, HK⟩ := hrel
    obtain ⟨S, lv, hGS, hI, hlv⟩ := HK.out
    have x2 : wr.cell? ⟨w.heap.size, 2, none⟩ = some (.int .i64 c.wk) := (Cfg.read (hGS.kept _ (List.mem_singleton.2 rfl)).1).2.2.1
    have HGS := Aside0.mk hGS
    have HI := Aside0.mk hI
    have HLV := Aside0.mk hlv
    clear hGS hI hlv HK HG4
    rcases Mem.dec_or (k ≤ c.wk) with hlt | hlt
    · have hlt' : k ≤ c.wk := of_decide_eq_true hlt
      go_wp2_with (go_at_call 16; with_reducible refine (GS_Take HGS.out HMY.out HI.out (by omega) ⟨hk1, hlt'⟩).mono ?_; rintro e w5 ⟨⟨v5, rfl⟩, h5⟩; have H5 := Aside0.mk h5; clear h5)
      have hI5 := Aside0.mk (HI.out.hello (Int.le_refl 0) hle1 (k := k) ⟨hk1, hlt'⟩).2
      go_roundw
      case rel =>
        refine ⟨k + 1, rfl, by omega, by omega, ⟨⟨_, _, H5.out, hI5.out, fun i h1 h2 => ?_⟩⟩⟩
        unfold updI
        by_cases e : i.toNat = k.toNat
        · rw [if_pos e]
          exact Int.le_refl 0
        · rw [if_neg e]
          exact HLV.out i h1 (by omega)
      case measure => simp [intOf]; omega
    · have hge' : ¬ k ≤ c.wk := by simpa using hlt
      have HALL : Aside0 (∀ k : Int, 1 ≤ k → k ≤ c.wk → 0 ≤ lv k.toNat) := ⟨fun i h1 h2 => HLV.out i h1 (by omega)⟩
      go_upto_region 16 with (go_at_call 17; with_reducible refine (GS_SubmitR HGS.out HMY.out HI.out).mono ?_; rintro e w5 ⟨A5, k5, m5, ρ5, blk5, rfl, h5⟩; have H5 := Aside0.mk h5; clear h5 x2)
      have H6 := Aside0.mk (H5.out.alloc (LastB fun _ => 0))
      have hb6 : Aside0 (w.heap.size ≤ w5.heap.size ∧ w.heap.size ≠ w5.heap.size) := ⟨by
        have h1 := H5.out.bel.size
        have h2 := blk_lt (H5.out.kept _ (List.mem_singleton.2 rfl)).1
        exact ⟨h1, Nat.ne_of_lt h2⟩⟩
      refine Rd.gen_wp (R := fun V => GS c ((w5.heap.size, LastB fun _ => 0) :: [(w.heap.size, CfgB c)]) w3.heap.size w ρ5 I blk5 (Co.first c S qR) V) H6.out ?_
      rintro V6 h6
      have HV6 := Aside0.mk h6
      have HR6 := Aside0.mk (RSt.first HI.out HALL.out (fun _ => 0))
      clear h6 H6 H5 HGS HI HLV HALL hbs hlt hge' hk1 hk2
      generalize w5.heap.size = bl at *
      generalize Co.first c S qR = S6 at *
      obtain ⟨wn, hwn⟩ : ∃ wn, wn = (wlN c qR).length := ⟨_, rfl⟩
      have HWN := Aside0.mk hwn
      clear hwn
      have hw6 : wn ≤ 6 := by
        rw [HWN.out]
        unfold wlN
        have h1 := List.length_filter_le (wantB c qR) (List.range (c.cuts.length + 1))
        rw [List.length_range] at h1
        have := HMY.out.2.1.1
        omega
      go_wp2
      go_loopw [11, 13] (fun v11 v wr => ∃ i : Nat, v = .int .i64 i ∧ i ≤ draws.length ∧ (∃ m : Int, v11 = .int .i64 m ∧ (0 < i → m = wn)) ∧ Aside0 (∃ S ρ blk lt nn, GS c ((bl, LastB lt) :: [(w.heap.size, CfgB c)]) w3.heap.size w ρ I blk S wr ∧ RSt c (3 + 24 * i) i nn nn S lt ∧ 0 ≤ nn ∧ nn ≤ 60 * i)) (fun _ v _ => draws.length - (intOf v).toNat)
      case atStart => exact ⟨0, rfl, Nat.zero_le _, ⟨0, rfl, fun h => absurd h (Nat.lt_irrefl _)⟩, ⟨⟨S6, ρ5, blk5, fun _ => 0, 0, HV6.out, HR6.out, Int.le_refl 0, by omega⟩⟩⟩
      case round =>
        obtain ⟨i, rfl, hi1, ⟨m, rfl, hm⟩, HK⟩ := hrel
        obtain ⟨S1, ρ1, blk1, lt, nn, hGS, hR, hn0, hn1⟩ := HK.out
        have HGS := Aside0.mk hGS
        have HR := Aside0.mk hR
        have HM := Aside0.mk hm
        clear HK hGS hR hm HV6 HR6
        have hcfg : Aside0 (∀ ρ blk S (lt : Nat → Int) W, GS c ((bl, LastB lt) :: [(w.heap.size, CfgB c)]) w3.heap.size w ρ I blk S W → W.heap[w.heap.size]? = some (CfgB c) ∧ W.heap[bl]? = some (LastB lt)) := ⟨fun ρ blk S lt W h => ⟨(h.kept (w.heap.size, CfgB c) (by simp)).1, (h.kept (bl, LastB lt) (by simp)).1⟩⟩
        rcases Mem.dec_or (i < draws.length) with hlt | hlt
        · have hlt' : i < draws.length := of_decide_eq_true hlt
          have hi20 : i ≤ 20 := by omega
          have hw1 : IntKind.i64.wrap (nn + mostOf c) = nn + mostOf c := IntWalk.i64_in _ (by omega)
          have HGd := Aside0.mk (HGS.out.fresh (below_drew1 (Below.refl _ _)))
          have hnow := HR.out.now
          have HNOW := Aside0.mk hnow
          clear hnow
          rcases Mem.dec_or (1000 ≤ nn + mostOf c) with hbr | hbr
          · go_upto_region 19 with fail
            go_region_held3 (fun W => W.cell? ⟨w.heap.size, 0, none⟩ = some (.slice c.A0 c.words.length c.c0) ∧ W.cell? ⟨w.heap.size, 1, none⟩ = some (.slice c.A1 c.cuts.length c.c1) ∧ W.cell? ⟨w.heap.size, 2, none⟩ = some (.int .i64 c.wk) ∧ W.cell? ⟨w.heap.size, 3, none⟩ = some (.int .i64 c.cp) ∧ W.cell? ⟨w.heap.size, 4, none⟩ = some (.int .i64 c.sl) ∧ W.cell? ⟨w.heap.size, 5, none⟩ = some (.int .i64 c.ba) ∧ W.cell? ⟨w.heap.size, 6, none⟩ = some (.int .i64 c.le) ∧ W.cell? ⟨w.heap.size, 7, none⟩ = some (.int .i64 c.he) ∧ W.cell? ⟨w.heap.size, 8, none⟩ = some (.int .i64 c.fi) ∧ W.cell? ⟨w.heap.size, 9, none⟩ = some (.int .i64 c.ca) ∧ W.cell? ⟨w.heap.size, 10, none⟩ = some (.int .i64 c.ji) ∧ W.cell? ⟨w.heap.size, 11, none⟩ = some (.int .i64 c.ne))
              (first
                | exact Cfg.read (hcfg.out _ _ _ _ _ HGd.out).1
                | exact Cfg.read (hcfg.out _ _ _ _ _ H7.out).1
                | exact Cfg.read (hcfg.out _ _ _ _ _ H8.out).1
                | go_keep)
              ((first
                | (go_simp; go_at_call 18; refine (GS_Now HGd.out HNOW.out).mono ?_; rintro e w7 ⟨rfl, hw⟩; obtain rfl := hw.symm)
                | (go_simp; go_at_call 19; refine (most_calls' c _).mono ?_; rintro e w8 ⟨rfl, hb⟩; have H8 := Aside0.mk (HGd.out.fresh hb); clear hb)))
            all_goals
              go_wp2_with (go_at_call 14; refine (awake_calls _).mono ?_; rintro e w9 ⟨rfl, hb⟩; have HB9 := Aside0.mk (below_step H8.out.bel hb); clear hb)
              go_ret
              exact ⟨rfl, HB9.out⟩
          · go_upto_region 19 with fail
            go_region_held3 (fun W => W.cell? ⟨w.heap.size, 0, none⟩ = some (.slice c.A0 c.words.length c.c0) ∧ W.cell? ⟨w.heap.size, 1, none⟩ = some (.slice c.A1 c.cuts.length c.c1) ∧ W.cell? ⟨w.heap.size, 2, none⟩ = some (.int .i64 c.wk) ∧ W.cell? ⟨w.heap.size, 3, none⟩ = some (.int .i64 c.cp) ∧ W.cell? ⟨w.heap.size, 4, none⟩ = some (.int .i64 c.sl) ∧ W.cell? ⟨w.heap.size, 5, none⟩ = some (.int .i64 c.ba) ∧ W.cell? ⟨w.heap.size, 6, none⟩ = some (.int .i64 c.le) ∧ W.cell? ⟨w.heap.size, 7, none⟩ = some (.int .i64 c.he) ∧ W.cell? ⟨w.heap.size, 8, none⟩ = some (.int .i64 c.fi) ∧ W.cell? ⟨w.heap.size, 9, none⟩ = some (.int .i64 c.ca) ∧ W.cell? ⟨w.heap.size, 10, none⟩ = some (.int .i64 c.ji) ∧ W.cell? ⟨w.heap.size, 11, none⟩ = some (.int .i64 c.ne))
              (first
                | exact Cfg.read (hcfg.out _ _ _ _ _ HGd.out).1
                | exact Cfg.read (hcfg.out _ _ _ _ _ H7.out).1
                | exact Cfg.read (hcfg.out _ _ _ _ _ H8.out).1
                | go_keep)
              ((first
                | (go_simp; go_at_call 18; refine (GS_Now HGd.out HNOW.out).mono ?_; rintro e w7 ⟨rfl, hw⟩; obtain rfl := hw.symm)
                | (go_simp; go_at_call 19; refine (most_calls' c _).mono ?_; rintro e w8 ⟨rfl, hb⟩; have H8 := Aside0.mk (HGd.out.fresh hb); clear hb)))
            all_goals
              obtain ⟨adr, hAr, hxr⟩ := Kd.at_int (Kd.C_below HH.out H8.out.bel) (i : Int) (by omega) (by omega)
              subst hAr
              have hxr2 : w8.cell? (adr.add i) = some (.int .i64 (rdI draws i)) := by rw [Int.toNat_natCast] at hxr; exact hxr
              clear hxr
              generalize rdI draws i = dr at *
              have hnow8 : 0 ≤ S1.now ∧ S1.now ≤ 1000000 := by rw [HNOW.out]; omega
              have HRW := Aside0.mk (round_wake HMY.out HR.out (by omega) (by omega) dr)
              go_upto_region 21 with (go_at_call 20; with_reducible refine (GS_Wake H8.out HMY.out hnow8 HR.out.ok (by omega) (by omega) (by have := HR.out.last; omega) dr).mono ?_; rintro e w9 ⟨A9, k9, ρ9, blk9, rfl, h9, hc9, hne9⟩; have H9 := Aside0.mk h9; have HC9 := Aside0.mk hc9; have HNE9 : Aside0 (∀ ad, A9 = some ad → ad.block ≠ bl) := ⟨fun ad e => Nat.ne_of_gt (Nat.lt_of_lt_of_le (blk_lt (hcfg.out _ _ _ _ _ H8.out).2) (hne9 ad e))⟩; clear h9 hc9 hne9)
              obtain ⟨pt, hR2, hlen, hask⟩ := HRW.out
              clear HRW hxr2
              generalize (wakeN c dr c.sl.toNat S1).2 = ls at *
              generalize (wakeN c dr c.sl.toNat S1).1 = S2 at *
              have HR2 := Aside0.mk hR2
              have HASK := Aside0.mk hask
              have hlen2 : ls.length = wn := by rw [HWN.out]; exact hlen
              clear hR2 hask hlen HR HGd HGS H8
              subst hlen2
              have hHA : Aside0 (∀ j : Nat, j < ls.length → ∃ sh a, (wlN c qR)[j]? = some sh ∧ sh < c.cuts.length + 1 ∧ (lt_ ls j).dest = rdI (c.copies sh) (pt sh) ∧ (lt_ ls j).msg = .ask a ∧ a.shard = sh ∧ 0 ≤ pt sh ∧ pt sh < (c.copies sh).length ∧ (0 < i → 0 ≤ lt sh ∧ lt sh < (c.copies sh).length ∧ pt sh = (lt sh + 1) % (c.copies sh).length)) := ⟨fun j hj => by
                have hj' : j < (wlN c qR).length := by rw [← HWN.out]; exact hj
                obtain ⟨⟨h1, a, h2, h3⟩, h4, h5, h6⟩ := HASK.out j _ (List.getElem?_eq_getElem hj')
                exact ⟨_, a, List.getElem?_eq_getElem hj', wlN_lt (List.getElem_mem hj'), h1, h2, h3, h4, h5, h6⟩⟩
              have hmi : (decide (0 < i) = false) ∨ (decide (0 < i) = true ∧ m = ls.length) := by
                rcases Mem.dec_or (0 < i) with h | h
                · exact .inr ⟨h, HM.out (of_decide_eq_true h)⟩
                · exact .inl h
              clear HASK
              have hls6 : ls.length ≤ 6 := hw6
              have HT := Aside0.mk (And.intro H9.out HC9.out)
              go_cut [91] (fun v wx => v = .bool false ∧ wx = w9)
              case first =>
                rcases hmi with h0 | ⟨h0, rfl⟩
                · go_wp2
                  go_meet
                  exact ⟨rfl, rfl⟩
                · go_wp2
                  go_meet
                  exact ⟨rfl, rfl⟩
              case rest =>
                obtain ⟨rfl, rfl⟩ := hcut
                clear hmi
                go_wp2
                go_loopw [15] (fun v wr => ∃ k : Nat, v = .int .i64 k ∧ k ≤ ls.length ∧ Aside0 (∃ lt2, GS c ((bl, LastB lt2) :: [(w.heap.size, CfgB c)]) w3.heap.size w ρ9 I blk9 S2 wr ∧ Kd.C kLet wr A9 ls.length ls ∧ ∀ x : Nat, lt2 x = if x ∈ (wlN c qR).take k then pt x else lt x)) (fun v _ => ls.length - (intOf v).toNat)
                case atStart => exact ⟨0, rfl, Nat.zero_le _, ⟨⟨lt, HT.out.1, HT.out.2, fun x => by rw [List.take_zero, if_neg (by simp)]⟩⟩⟩
                case round =>
                  obtain ⟨kk, rfl, hkk, HK⟩ := hrel
                  obtain ⟨lt2, hGS, hCL, hlt2⟩ := HK.out
                  have HGS := Aside0.mk hGS
                  have HCL := Aside0.mk hCL
                  have HLT2 := Aside0.mk hlt2
                  clear HK hGS hCL hlt2 HT
                  rcases Mem.dec_or (kk < ls.length) with hlk | hlk
                  · have hlk' : kk < ls.length := of_decide_eq_true hlk
                    obtain ⟨sh, a, hsh, hshlt, hdest, hmsg, hash, hp0, hp1, hpi⟩ := hHA.out kk hlk'
                    obtain ⟨adl, hAl, hd1, hd2⟩ := at_let HCL.out (kk : Int) (by omega) (by omega)
                    subst hAl
                    rw [hdest, Int.toNat_natCast] at hd1
                    rw [hmsg, Int.toNat_natCast] at hd2
                    have hd2' : wr.cell? ⟨(adl.add (kk * 2)).block, (adl.add (kk * 2)).off + 1, none⟩ = some (.iface 48 (askV a)) := hd2
                    have g7 := fun v xT W => assert_yes Tryz.underlying48 v xT W
                    clear hd2 hdest hmsg
                    go_upto_region 28 with fail
                    have hpa : Aside0 ((wr.alloc (.cells #[.int .i64 a.slot, .int .i64 a.query, .int .i64 sh, .int .i64 a.seq, .int .i64 a.epoch, .string a.text, .int .i64 a.k, .int .i64 a.batch, .bool a.first, .int .i64 a.after.f0, .string a.after.f1] 48 (0, 0))).heap[wr.heap.size]? = some (.cells #[.int .i64 a.slot, .int .i64 a.query, .int .i64 sh, .int .i64 a.seq, .int .i64 a.epoch, .string a.text, .int .i64 a.k, .int .i64 a.batch, .bool a.first, .int .i64 a.after.f0, .string a.after.f1] 48 (0, 0))) := ⟨blk_new _ _⟩
                    refine Rd.gen_wp (R := fun V => GS c ((bl, LastB lt2) :: [(w.heap.size, CfgB c)]) w3.heap.size w ρ9 I blk9 S2 V ∧ Kd.C kLet V (some adl) ls.length ls ∧ V.cell? ⟨wr.heap.size, 2, none⟩ = some (.int .i64 sh) ∧ Below wr.heap.size wr V ∧ wr.heap.size < V.heap.size) ⟨HGS.out.fresh (below_alloc (Below.refl _ _) _), Kd.C_below HCL.out (below_alloc (Below.refl _ _) _), (blk_cell hpa.out 2).trans rfl, below_alloc (Below.refl _ _) _, by simp⟩ ?_
                    rintro V10 ⟨h10, hc10, hb10, hbe10, hlt10⟩
                    generalize wr.heap.size = pa at *
                    have H10 := Aside0.mk (h10.fresh (below_drew1 (Below.refl _ _)))
                    have HC10 := Aside0.mk (Kd.C_below hc10 (below_drew1 (Below.refl _ _)))
                    have HB10 : Aside0 (V10.drew.cell? ⟨pa, 2, none⟩ = some (.int .i64 sh)) := ⟨hb10⟩
                    have HLT10 : Aside0 (pa < V10.drew.heap.size) := ⟨hlt10⟩
                    have hat10 := Aside0.mk (HCF.out.below h10.bel)
                    have hat11 := Aside0.mk (hat10.out.below (below_drew1 (Below.refl _ _)))
                    have hs0 : decide ((sh : Int) < 0) = false := by simp
                    have hs1 : decide ((c.cuts.length : Int) + 1 ≤ sh) = false := by simp; omega
                    clear h10 hc10 hb10 hbe10 hlt10 hd1 hd2' HGS HCL
                    go_region_held3 (fun W => W.cell? ⟨pa, 2, none⟩ = some (.int .i64 sh) ∧ W.cell? ⟨w.heap.size, 0, none⟩ = some (.slice c.A0 c.words.length c.c0) ∧ W.cell? ⟨w.heap.size, 1, none⟩ = some (.slice c.A1 c.cuts.length c.c1) ∧ W.cell? ⟨w.heap.size, 2, none⟩ = some (.int .i64 c.wk) ∧ W.cell? ⟨w.heap.size, 3, none⟩ = some (.int .i64 c.cp) ∧ W.cell? ⟨w.heap.size, 4, none⟩ = some (.int .i64 c.sl) ∧ W.cell? ⟨w.heap.size, 5, none⟩ = some (.int .i64 c.ba) ∧ W.cell? ⟨w.heap.size, 6, none⟩ = some (.int .i64 c.le) ∧ W.cell? ⟨w.heap.size, 7, none⟩ = some (.int .i64 c.he) ∧ W.cell? ⟨w.heap.size, 8, none⟩ = some (.int .i64 c.fi) ∧ W.cell? ⟨w.heap.size, 9, none⟩ = some (.int .i64 c.ca) ∧ W.cell? ⟨w.heap.size, 10, none⟩ = some (.int .i64 c.ji) ∧ W.cell? ⟨w.heap.size, 11, none⟩ = some (.int .i64 c.ne))
                      (first
                        | exact ⟨HB10.out, Cfg.read (hcfg.out _ _ _ _ _ H10.out).1⟩
                        | exact ⟨HB11.out, Cfg.read (hcfg.out _ _ _ _ _ H11.out).1⟩
                        | go_keep)
                      ((go_simp; go_at_call 21; refine (place_Shards c _ hat11.out HMY.out).mono ?_; rintro e w11 ⟨rfl, hb⟩; have H11 := Aside0.mk (H10.out.fresh hb); have HC11 := Aside0.mk (Kd.C_below HC10.out hb); have HB11 := Aside0.mk ((hb.cell (p := ⟨pa, 2, none⟩) HLT10.out).trans HB10.out); have HLT11 := Aside0.mk (Nat.lt_of_lt_of_le HLT10.out hb.size); have hat12 := Aside0.mk (hat11.out.below hb); clear hb))
                    all_goals
                      obtain ⟨x0, x1, x2, x3, x4, x5, x6, x7, x8, x9, x10, x11⟩ := Cfg.read (hcfg.out _ _ _ _ _ H11.out).1
                      have xb := HB11.out
                      go_wp2_with fail
                      refine (place_Copies c (sh : Int) _ hat12.out HMY.out (by omega) (by omega)).mono ?_
                      rintro e w13 ⟨v13, rfl, hR13, hb13⟩
                      obtain ⟨A13, c13, hv13⟩ := Kd.R_slice hR13
                      subst hv13
                      have H13 := Aside0.mk (H11.out.fresh hb13)
                      have HC13 := Aside0.mk (Kd.C_below HC11.out hb13)
                      have HB13 := Aside0.mk ((hb13.cell (p := ⟨pa, 2, none⟩) HLT11.out).trans HB11.out)
                      have HLT13 := Aside0.mk (Nat.lt_of_lt_of_le HLT11.out hb13.size)
                      have HK13 := Aside0.mk (Kd.R_reads' hR13).2.2
                      have hcl := copies_len c sh
                      have hl1 : 1 ≤ (c.copies sh).length := by omega
                      have hl3 : (c.copies sh).length ≤ 3 := by omega
                      have hinj : Aside0 (∀ a b : Int, 0 ≤ a → 0 ≤ b → a < (c.copies sh).length → b < (c.copies sh).length → rdI (c.copies sh) a = rdI (c.copies sh) b → a = b) := ⟨fun a b h1 h2 h3 h4 h5 => copies_inj HMY.out sh h1 h2 h3 h4 h5⟩
                      have hdst : Aside0 (∀ W, Kd.C kLet W (some adl) ls.length ls → W.cell? (adl.add (kk * 2)) = some (.int .i64 (rdI (c.copies sh) (pt sh)))) := ⟨fun W hW => by
                        obtain ⟨ad2, hA2, h1, _⟩ := at_let hW (kk : Int) (by omega) (by omega)
                        cases hA2
                        rw [Int.toNat_natCast] at h1
                        obtain ⟨sh2, a2, q1, q2, q3, _⟩ := hHA.out kk hlk'
                        rw [hsh] at q1
                        cases q1
                        rw [q3] at h1
                        exact h1⟩
                      obtain ⟨p, hp⟩ : ∃ p, p = pt sh := ⟨_, rfl⟩
                      have HP := Aside0.mk hp
                      rw [← hp] at hp0 hp1 hpi hdst
                      have HPI := Aside0.mk hpi
                      have HSH := Aside0.mk hsh
                      have HASH := Aside0.mk hash
                      clear hcl hb13 hR13 x0 x1 x2 x3 x4 x5 x6 x7 x8 x9 x10 x11 xb hs0 hs1 hp hpi hsh hash
                      generalize hlg : c.copies sh = l at *
                      clear hlg
                      go_wp2
                      go_loopw [19] (fun v wq => ∃ t : Int, v = .int .i64 t ∧ 0 ≤ t ∧ t ≤ p ∧ Aside0 (Below w13.heap.size w13 wq)) (fun v _ => p.toNat - (intOf v).toNat)
                      case atStart => exact ⟨0, rfl, by omega, hp0, ⟨Below.refl _ _⟩⟩
                      case round =>
                        obtain ⟨t, rfl, ht0, ht1, HQ⟩ := hrel
                        have HGr := Aside0.mk (H13.out.fresh HQ.out)
                        have HCr := Aside0.mk (Kd.C_below HC13.out HQ.out)
                        have htl : t < l.length := by omega
                        have htl1 : decide (t < l.length) = true := decide_eq_true htl
                        obtain ⟨adx, hAx, hxx⟩ := Kd.at_int (Kd.C_below HK13.out HQ.out) t ht0 htl
                        cases hAx
                        have hxx2 : wr.cell? (adx.add t.toNat) = some (.int .i64 (rdI l t)) := hxx
                        have hdd := hdst.out _ HCr.out
                        clear hxx
                        rcases Mem.dec_or (t < p) with htp | htp
                        · have htp' : t < p := of_decide_eq_true htp
                          have hne : rdI l t ≠ rdI l p := fun e => by
                            have := hinj.out t p ht0 hp0 htl hp1 e
                            omega
                          generalize rdI l t = x at *
                          generalize rdI l p = y at *
                          have hxy : (x != y) = true := by simpa using hne
                          clear hne
                          go_upto_region 32 with fail
                          go_quiet (fail)
                          go_wp2
                          exact ⟨⟨t + 1, rfl, by omega, by omega, ⟨pw_below_drewN HQ.out _⟩⟩, by simp [intOf]; omega⟩
                        · have htp' : t = p := by simp at htp; omega
                          subst htp'
                          generalize rdI l t = x at *
                          have hxy : (x != x) = false := by simp
                          go_upto_region 32 with fail
                          go_quiet (fail)
                          go_upto_region 34 with fail
                          have HGd := Aside0.mk (HGr.out.fresh (pw_below_drewN (Below.refl _ _) nq))
                          have HCd := Aside0.mk (Kd.C_below HCr.out (pw_below_drewN (Below.refl _ _) nq))
                          have HBd := Aside0.mk ((HQ.out.cell (p := ⟨pa, 2, none⟩) HLT13.out).trans HB13.out)
                          refine Rd.gen_wp (R := fun V => GS c ((bl, LastB lt2) :: [(w.heap.size, CfgB c)]) w3.heap.size w ρ9 I blk9 S2 V ∧ Kd.C kLet V (some adl) ls.length ls ∧ V.cell? ⟨pa, 2, none⟩ = some (.int .i64 sh)) ⟨HGd.out, HCd.out, HBd.out⟩ ?_
                          clear HGd HCd HBd hdd hxx2 HGr HCr HQ hxy
                          rintro V14 ⟨h14, hc14, hb14⟩
                          have H14 := Aside0.mk h14
                          have HC14 := Aside0.mk hc14
                          have hsh6 : sh < 6 := by have := HMY.out.2.1.1; omega
                          have hbl14 := (hcfg.out _ _ _ _ _ h14).2
                          have zl : V14.cell? ⟨bl, sh, none⟩ = some (.int .i64 (lt2 sh)) := last_cell hbl14 hsh6
                          have fz := blk_frozen hbl14 sh
                          have hls2 : lt2 sh = lt sh := by rw [HLT2.out sh, if_neg (not_taken (wlN_nodup c qR) HSH.out)]
                          have HLS2 := Aside0.mk hls2
                          have hsh0 : (0 : Int) ≤ sh := by omega
                          have hsh5 : (sh : Int) < 6 := by omega
                          have hput : Aside0 (GS c ((bl, LastB (updI lt2 sh t)) :: [(w.heap.size, CfgB c)]) w3.heap.size w ρ9 I blk9 S2 (V14.setCell ⟨bl, sh, none⟩ (.int .i64 t))) := ⟨h14.turn (Only.setB _ _ _ _) (last_put hbl14 hsh6 t) (fun p hp => by obtain rfl := List.mem_singleton.1 hp; exact hb6.out.2) hb6.out.1⟩
                          have hcl14 : Aside0 (Kd.C kLet (V14.setCell ⟨bl, sh, none⟩ (.int .i64 t)) (some adl) ls.length ls) := ⟨C_other hc14 hbl14 HNE9.out _ _⟩
                          have hlt3 : Aside0 (∀ x : Nat, updI lt2 sh t x = if x ∈ (wlN c qR).take (kk + 1) then pt x else lt x) := ⟨fun x => by
                            rw [take_next HSH.out]
                            unfold updI
                            by_cases e : x = sh
                            · rw [if_pos e, if_pos (by rw [e]; simp), e]
                              exact HP.out
                            · rw [if_neg e, HLT2.out x]
                              simp [e]⟩
                          clear h14 hc14 hbl14 hls2
                          have hne : (t == (l.length : Int)) = false := by simp; omega
                          rcases Mem.dec_or (0 < i) with hi0 | hi0
                          · obtain ⟨hq0, hq1, hq2⟩ := HPI.out (of_decide_eq_true hi0)
                            have hq3 : 0 ≤ lt2 sh := by rw [HLS2.out]; exact hq0
                            have hq4 : lt2 sh < l.length := by rw [HLS2.out]; exact hq1
                            have hq5 : t = (lt2 sh + 1) % l.length := by rw [HLS2.out]; exact hq2
                            have hq6 : (t != (lt2 sh + 1) % (l.length : Int)) = false := by rw [← hq5]; simp
                            clear hq0 hq1 hq2 hq5
                            generalize lt2 sh = y2 at *
                            go_wp2
                            exact ⟨⟨kk + 1, by go_num, by omega, ⟨⟨_, hput.out, hcl14.out, hlt3.out⟩⟩⟩, by simp [intOf]; omega⟩
                          · generalize lt2 sh = y2 at *
                            go_wp2
                            exact ⟨⟨kk + 1, by go_num, by omega, ⟨⟨_, hput.out, hcl14.out, hlt3.out⟩⟩⟩, by simp [intOf]; omega⟩
                  · have hkl : kk = ls.length := by simp at hlk; omega
                    subst hkl
                    have hR3 : RSt c (3 + 24 * i + 24) (i + 1) nn (nn + mostOf c) S2 lt2 := HR2.out.cong fun x hx => by
                      rw [HLT2.out x, HWN.out, List.take_length, if_pos hx]
                    have HR3 : Aside0 (∃ S, GS c ((bl, LastB lt2) :: [(w.heap.size, CfgB c)]) w3.heap.size w ρ9 I blk9 S wr ∧ RSt c (3 + 24 * i + 24) (i + 1) (nn + 0) (nn + mostOf c) S lt2) := ⟨⟨S2, HGS.out, by rw [Int.add_zero]; exact hR3⟩⟩
                    clear hR3 HCL HLT2 HR2
                    go_wp2
                    go_loopw [20] (fun v wq => ∃ t : Int, v = .int .i64 t ∧ 0 ≤ t ∧ t ≤ mostOf c ∧ Aside0 (∃ S, GS c ((bl, LastB lt2) :: [(w.heap.size, CfgB c)]) w3.heap.size w ρ9 I blk9 S wq ∧ RSt c (3 + 24 * i + 24) (i + 1) (nn + t) (nn + mostOf c) S lt2)) (fun v _ => (mostOf c).toNat - (intOf v).toNat)
                    case atStart => exact ⟨0, rfl, by omega, hmost.1, HR3⟩
                    case round =>
                      obtain ⟨t, rfl, ht0, ht1, HQ⟩ := hrel
                      obtain ⟨S3, hG3, hR3⟩ := HQ.out
                      have HG3 := Aside0.mk hG3
                      have HRR := Aside0.mk hR3
                      obtain ⟨x0, x1, x2, x3, x4, x5, x6, x7, x8, x9, x10, x11⟩ := Cfg.read (hcfg.out _ _ _ _ _ hG3).1
                      have hn3 : 0 ≤ S3.now ∧ S3.now ≤ 1000000 := by rw [hR3.now]; omega
                      clear hG3 hR3 HQ
                      rcases Mem.dec_or (t < mostOf c) with htm | htm
                      · have htm' : t < mostOf c := of_decide_eq_true htm
                        go_wp2_with (first
                          | (go_at_call 19; with_reducible refine (most_calls' c _).mono ?_; rintro e w15 ⟨rfl, hb⟩; have H15 := Aside0.mk (HG3.out.fresh hb); clear hb x0 x1 x2 x3 x4 x5 x6 x7 x8 x9 x10 x11)
                          | (go_at_call 23; refine (GS_Tick H15.out hn3).mono ?_; rintro e w16 ⟨rfl, h16⟩; have H16 := Aside0.mk h16; clear h16))
                        exact ⟨⟨t + 1, rfl, by omega, by omega, ⟨⟨_, H16.out, by rw [← Int.add_assoc]; exact HRR.out.tick (by omega)⟩⟩⟩, by simp [intOf]; omega⟩
                      · have htm' : t = mostOf c := by simp at htm; omega
                        go_wp2_with (go_at_call 19; with_reducible refine (most_calls' c _).mono ?_; rintro e w15 ⟨rfl, hb⟩; have H15 := Aside0.mk (HG3.out.fresh hb); clear hb x0 x1 x2 x3 x4 x5 x6 x7 x8 x9 x10 x11)
                        refine ⟨⟨i + 1, by go_num, by omega, ⟨_, rfl, fun _ => rfl⟩, ⟨⟨S3, ρ9, blk9, lt2, nn + mostOf c, H15.out, ?_, by omega, by omega⟩⟩⟩, by simp [intOf]; omega⟩
                        have h17 := HRR.out
                        rw [htm'] at h17
                        rw [show (3 + 24 * ((i + 1 : Nat) : Int)) = 3 + 24 * i + 24 by omega]
                        exact h17
        · have hge2 : i = draws.length := by simp at hlt; omega
          go_wp2_with (go_at_call 14; refine (awake_calls _).mono ?_; rintro e w9 ⟨rfl, hb⟩; have HB9 := Aside0.mk (below_step HGS.out.bel hb); clear hb)
          go_ret
          exact ⟨rfl, HB9.out⟩
end Go.Proofs.YthbngidbfhcdaaaGreat.C
