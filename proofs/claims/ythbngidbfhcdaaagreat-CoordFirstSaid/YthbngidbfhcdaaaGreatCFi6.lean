/- Texts of this proof, joined: part 6. -/
import Derived.Test.YthbngidbfhcdaaaGreatCFi5
set_option linter.unusedVariables false
set_option linter.unusedSimpArgs false
/- What is told of a query, sharing nothing. -/
namespace Go.Proofs.YthbngidbfhcdaaaGreat.C
open Go.RowKit Go.Maps Go.Proofs.YthbngidbfhcdaaaGreat.Mem Go.Proofs.YthbngidbfhcdaaaGreatW.PrintWords Go.Proofs.YthbngidbfhcdaaaGreat.PCoordScript
set_option linter.unusedVariables false
set_option linter.unusedSimpArgs false
abbrev toldA' (t : S58) (v : Value) : Array Value := #[.int .i64 t.f0, .string t.f1.f0, .int .i64 t.f1.f1, .int .i64 t.f1.f2, v, .bool t.f3, .bool t.f4]
abbrev ToldB (t : S58) (v : Value) : Obj := .cells (toldA' t v) 58 (0, 0)
/-- What is told, laid into a block. -/
def putT (W : World) (g : Nat) (t : S58) (v : Value) : World := ((((((W.setCell ⟨g, 0, none⟩ (.int .i64 t.f0)).setCell ⟨g, 1, none⟩ (.string t.f1.f0)).setCell ⟨g, 2, none⟩ (.int .i64 t.f1.f1)).setCell ⟨g, 3, none⟩ (.int .i64 t.f1.f2)).setCell ⟨g, 4, none⟩ v).setCell ⟨g, 5, none⟩ (.bool t.f3)).setCell ⟨g, 6, none⟩ (.bool t.f4)
theorem put7 {W : World} {g : Nat} {T : TypeId} {a0 a1 a2 a3 a4 a5 a6 b0 b1 b2 b3 b4 b5 b6 : Value} (h : W.heap[g]? = some (.cells #[a0, a1, a2, a3, a4, a5, a6] T (0, 0))) :
    (((((((W.setCell ⟨g, 0, none⟩ b0).setCell ⟨g, 1, none⟩ b1).setCell ⟨g, 2, none⟩ b2).setCell ⟨g, 3, none⟩ b3).setCell ⟨g, 4, none⟩ b4).setCell ⟨g, 5, none⟩ b5).setCell ⟨g, 6, none⟩ b6).heap[g]? = some (.cells #[b0, b1, b2, b3, b4, b5, b6] T (0, 0)) := by
  have h0 := blk_put h 0 b0 (cs' := #[b0, a1, a2, a3, a4, a5, a6]) rfl
  have h1 := blk_put h0 1 b1 (cs' := #[b0, b1, a2, a3, a4, a5, a6]) rfl
  have h2 := blk_put h1 2 b2 (cs' := #[b0, b1, b2, a3, a4, a5, a6]) rfl
  have h3 := blk_put h2 3 b3 (cs' := #[b0, b1, b2, b3, a4, a5, a6]) rfl
  have h4 := blk_put h3 4 b4 (cs' := #[b0, b1, b2, b3, b4, a5, a6]) rfl
  have h5 := blk_put h4 5 b5 (cs' := #[b0, b1, b2, b3, b4, b5, a6]) rfl
  exact blk_put h5 6 b6 (cs' := #[b0, b1, b2, b3, b4, b5, b6]) rfl
theorem putT_blk {W : World} {g : Nat} {t0 t : S58} {v0 v : Value} (h : W.heap[g]? = some (ToldB t0 v0)) : (putT W g t v).heap[g]? = some (ToldB t v) := put7 h
theorem putT_only (W : World) (g : Nat) (t : S58) (v : Value) : Only (fun k => k = g) W (putT W g t v) := by
  unfold putT
  exact (((((((Only.refl (fun k => k = g) W).set (p := ⟨g, 0, none⟩) (fun _ => rfl) _).set (p := ⟨g, 1, none⟩) (fun _ => rfl) _).set (p := ⟨g, 2, none⟩) (fun _ => rfl) _).set (p := ⟨g, 3, none⟩) (fun _ => rfl) _).set (p := ⟨g, 4, none⟩) (fun _ => rfl) _).set (p := ⟨g, 5, none⟩) (fun _ => rfl) _).set (p := ⟨g, 6, none⟩) (fun _ => rfl) _
set_option maxRecDepth 100000 in
set_option maxHeartbeats 1600000 in
theorem coord_own (t : S58) (A : Option Addr) (c : Nat) (w : World) (h : Kd.C k46 w A t.f2.length t.f2) (hc : t.f2.length ≤ c) (hl : t.f2.length ≤ 100000) :
    Calls Tryz.prog 72 #[.agg (toldA' t (.slice A t.f2.length c))] w fun e w' => (∃ v, e = .returned (.agg (toldA' t v)) ∧ Kd.R k46 46 w' w.heap.size (fun _ => True) v t.f2) ∧ Below w.heap.size w w' := by
  have H := Aside0.mk h
  have HC := Aside0.mk hc
  have HL := Aside0.mk hl
  clear h hc hl
  have HB : Aside0 (Below w.heap.size w ((w.alloc (ToldB t (.slice A t.f2.length c))).alloc (ToldB ⟨0, ⟨⟨#[]⟩, 0, 0⟩, [], false, false⟩ (.slice none 0 0)))) := ⟨below_alloc (below_alloc (Below.refl _ _) _) _⟩
  have HB2 : Aside0 (∀ W, Below ((w.alloc (ToldB t (.slice A t.f2.length c))).alloc (ToldB ⟨0, ⟨⟨#[]⟩, 0, 0⟩, [], false, false⟩ (.slice none 0 0))).heap.size ((w.alloc (ToldB t (.slice A t.f2.length c))).alloc (ToldB ⟨0, ⟨⟨#[]⟩, 0, 0⟩, [], false, false⟩ (.slice none 0 0))) W →
      W.heap[w.heap.size]? = some (ToldB t (.slice A t.f2.length c)) ∧ W.heap[w.heap.size + 1]? = some (ToldB ⟨0, ⟨⟨#[]⟩, 0, 0⟩, [], false, false⟩ (.slice none 0 0))) := ⟨fun W hW => ⟨blk_below (blk_alloc (blk_new _ _) _) hW, blk_below (by have := blk_new (w.alloc (ToldB t (.slice A t.f2.length c))) (ToldB ⟨0, ⟨⟨#[]⟩, 0, 0⟩, [], false, false⟩ (.slice none 0 0)); simpa using this) hW⟩⟩
  go_enter Tryz.func72, Tryz.ntmps72
  go_wp2_with (go_at_call 100; refine (clone_items A c t.f2 _ (Kd.C_below H.out HB.out) HC.out HL.out).mono ?_; rintro e w2 ⟨⟨v, rfl, hR⟩, hb⟩; obtain ⟨Av, cv, hv⟩ := Kd.R_slice hR; subst hv; have q := HB2.out w2 hb; have q0 : w2.cell? ⟨w.heap.size, 0, none⟩ = some (.int .i64 t.f0) := (blk_cell q.1 0).trans rfl; have q1 : w2.cell? ⟨w.heap.size, 1, none⟩ = some (.string t.f1.f0) := (blk_cell q.1 1).trans rfl; have q2 : w2.cell? ⟨w.heap.size, 2, none⟩ = some (.int .i64 t.f1.f1) := (blk_cell q.1 2).trans rfl; have q3 : w2.cell? ⟨w.heap.size, 3, none⟩ = some (.int .i64 t.f1.f2) := (blk_cell q.1 3).trans rfl; have q4 : w2.cell? ⟨w.heap.size, 4, none⟩ = some (.slice A t.f2.length c) := (blk_cell q.1 4).trans rfl; have q5 : w2.cell? ⟨w.heap.size, 5, none⟩ = some (.bool t.f3) := (blk_cell q.1 5).trans rfl; have q6 : w2.cell? ⟨w.heap.size, 6, none⟩ = some (.bool t.f4) := (blk_cell q.1 6).trans rfl; have r0 : w2.cell? ⟨w.heap.size + 1, 0, none⟩ = some (.int .i64 0) := (blk_cell q.2 0).trans rfl; have r1 : w2.cell? ⟨w.heap.size + 1, 1, none⟩ = some (.string ⟨#[]⟩) := (blk_cell q.2 1).trans rfl; have r2 : w2.cell? ⟨w.heap.size + 1, 2, none⟩ = some (.int .i64 0) := (blk_cell q.2 2).trans rfl; have r3 : w2.cell? ⟨w.heap.size + 1, 3, none⟩ = some (.int .i64 0) := (blk_cell q.2 3).trans rfl; have r4 : w2.cell? ⟨w.heap.size + 1, 4, none⟩ = some (.slice none 0 0) := (blk_cell q.2 4).trans rfl; have r5 : w2.cell? ⟨w.heap.size + 1, 5, none⟩ = some (.bool false) := (blk_cell q.2 5).trans rfl; have r6 : w2.cell? ⟨w.heap.size + 1, 6, none⟩ = some (.bool false) := (blk_cell q.2 6).trans rfl; have f1 := fun i => blk_frozen q.1 i; have f2 := fun i => blk_frozen q.2 i; have HR := Aside0.mk hR; have HBB := Aside0.mk (below_step HB.out hb); have Q := Aside0.mk q; clear hR hb q)
  have hb2 := (HB2.out w2)
  refine bodyPost_ret (v := .agg (toldA' t (.slice Av t.f2.length cv))) (results_cell_row rfl _ _ (w.heap.size + 1) 58 (toldA' t (.slice Av t.f2.length cv)) (0, 0) _ rfl ?_ Tryz.underlying58 rfl (by kernel_rfl)) rfl ?_
  · exact putT_blk (W := w2.setCell ⟨w.heap.size, 4, none⟩ (.slice Av t.f2.length cv)) ((Below.heap_setCell _ _ _ _ (by simp)).trans Q.out.2)
  · have hO : Only (fun k => k = w.heap.size ∨ k = w.heap.size + 1) w2 (putT (w2.setCell ⟨w.heap.size, 4, none⟩ (.slice Av t.f2.length cv)) (w.heap.size + 1) t (.slice Av t.f2.length cv)) :=
      ((Only.refl _ w2).set (p := ⟨w.heap.size, 4, none⟩) (fun _ => .inl rfl) _).next ((putT_only _ _ _ _).mono fun k _ hk => .inr hk)
    have hR := HR.out
    obtain ⟨inner, hown⟩ := Kd.R_own hR
    have hR2 := R46_ok (ok' := fun k => w.heap.size + 2 ≤ k) hR fun k hk => by have := own_base hown k hk; simpa using this
    refine ⟨⟨_, rfl, ?_⟩, HBB.out.trans (hO.below HBB.out.size fun k _ hk => by omega)⟩
    exact R46_ok (Kd.R_lower (Kd.R_step hR2 fun k hk hl => hO.block k hl (by omega)) (by simp; omega)) fun _ _ => trivial
set_option maxRecDepth 100000 in
set_option maxHeartbeats 1600000 in
theorem coord_Told (c : Cfg) (base : Nat) (ρ : Nat → Own) (I : CoIds) (blk : Int → Nat) (S : Co) (id : Int) (w : World) (h : CoAt c base ρ I blk S w) (h1 : 1 ≤ id) (h2 : id ≤ S.told.length) (hl : (toldAt S (id - 1).toNat).f2.length ≤ 100000) (hS : S.told.length ≤ 1000000) :
    Calls Tryz.prog 26 #[.pointer (some ⟨I.x, 0, none⟩), .int .i64 id] w fun e w' => (∃ v, e = .returned (.tuple #[.agg (toldA' (toldAt S (id - 1).toNat) v), .bool true]) ∧ Kd.R k46 46 w' w.heap.size (fun _ => True) v (toldAt S (id - 1).toNat).f2) ∧ Below w.heap.size w w' := by
  have H := Aside0.mk h
  clear h
  have ht : toldAt S (id - 1).toNat = S.told.getD (id - 1).toNat z58 := rfl
  have hj : (id - 1).toNat = id.toNat - 1 := by omega
  obtain ⟨t, htt⟩ : ∃ t, t = toldAt S (id - 1).toNat := ⟨_, rfl⟩
  rw [← htt] at hl ⊢
  have HT := Aside0.mk (htt.trans ht)
  have HJ := Aside0.mk hj
  clear ht htt hj
  have HL := Aside0.mk hl
  have hi0 : 0 ≤ id - 1 := by omega
  have hi2 : id - 1 < S.told.length := by omega
  have hlt : decide (id < 1) = false := by simp; omega
  have hgt2 : decide ((S.told.length : Int) < id) = false := by simp; omega
  clear hl
  go_enter Tryz.func26, Tryz.ntmps26
  go_upto_region 1 with fail
  refine Rd.gen_wp (R := fun V => Below w.heap.size w V ∧ V.heap[w.heap.size]? = some (ToldB z58 (.slice none 0 0))) ⟨below_alloc (Below.refl _ _) _, blk_new _ _⟩ ?_
  rintro V ⟨hb, hq⟩
  have HB := Aside0.mk hb
  have HQ := Aside0.mk hq
  obtain ⟨dv, hco, htold⟩ := (H.out.fresh hb).co
  obtain ⟨gt, capt, u, hdv, hgt, _, hcell, hu⟩ := htold.get (id - 1).toNat (by omega)
  rw [← HT.out] at hcell hu
  obtain ⟨Au, cu, hu'⟩ := Kd.R_slice hu
  subst hu'
  rw [HJ.out] at hcell
  have hz : ∀ i x, (toldV t (.slice Au t.f2.length cu))[i]? = some x → V.cell? ⟨gt, (id.toNat - 1) * 7 + i, none⟩ = some x := hcell
  have x18 : V.cell? ⟨I.x, 18, none⟩ = some (.slice (some ⟨gt, 0, none⟩) S.told.length capt) := by rw [← hdv]; exact (blk_cell hco 18).trans rfl
  have z0 : V.cell? ⟨gt, (id.toNat - 1) * 7, none⟩ = some (.int .i64 t.f0) := hz 0 _ rfl
  have z1 : V.cell? ⟨gt, (id.toNat - 1) * 7 + 1, none⟩ = some (.string t.f1.f0) := hz 1 _ rfl
  have z2 : V.cell? ⟨gt, (id.toNat - 1) * 7 + 2, none⟩ = some (.int .i64 t.f1.f1) := hz 2 _ rfl
  have z3 : V.cell? ⟨gt, (id.toNat - 1) * 7 + 3, none⟩ = some (.int .i64 t.f1.f2) := hz 3 _ rfl
  have z4 : V.cell? ⟨gt, (id.toNat - 1) * 7 + 4, none⟩ = some (.slice Au t.f2.length cu) := hz 4 _ rfl
  have z5 : V.cell? ⟨gt, (id.toNat - 1) * 7 + 5, none⟩ = some (.bool t.f3) := hz 5 _ rfl
  have z6 : V.cell? ⟨gt, (id.toNat - 1) * 7 + 6, none⟩ = some (.bool t.f4) := hz 6 _ rfl
  have HU := Aside0.mk (Kd.R_reads' hu)
  clear hz hcell hu hco htold hdv hb hq
  go_wp2_with (go_at_call 72; refine (coord_own t Au cu _ HU.out.2.2 HU.out.2.1 HL.out).mono ?_; rintro e w2 ⟨⟨v, rfl, hR⟩, hb⟩; obtain ⟨Av, cv, hv⟩ := Kd.R_slice hR; subst hv; have q := blk_below HQ.out hb; have r0 : w2.cell? ⟨w.heap.size, 0, none⟩ = some (.int .i64 0) := (blk_cell q 0).trans rfl; have r1 : w2.cell? ⟨w.heap.size, 1, none⟩ = some (.string ⟨#[]⟩) := (blk_cell q 1).trans rfl; have r2 : w2.cell? ⟨w.heap.size, 2, none⟩ = some (.int .i64 0) := (blk_cell q 2).trans rfl; have r3 : w2.cell? ⟨w.heap.size, 3, none⟩ = some (.int .i64 0) := (blk_cell q 3).trans rfl; have r4 : w2.cell? ⟨w.heap.size, 4, none⟩ = some (.slice none 0 0) := (blk_cell q 4).trans rfl; have r5 : w2.cell? ⟨w.heap.size, 5, none⟩ = some (.bool false) := (blk_cell q 5).trans rfl; have r6 : w2.cell? ⟨w.heap.size, 6, none⟩ = some (.bool false) := (blk_cell q 6).trans rfl; have f2 := fun i => blk_frozen q i; have HR := Aside0.mk (Kd.R_lower hR HB.out.size); have HBB := Aside0.mk (below_step HB.out hb); have HGE := Aside0.mk hR; have Q := Aside0.mk q; clear hR hb q)
  have hq := Q.out
  have hV := blk_lt HQ.out
  refine bodyPost_ret (v := .tuple #[.agg (toldA' t (.slice Av t.f2.length cv)), .bool true]) ((results_ct (u := 5) rfl _ _ w.heap.size 58 (toldA' t (.slice Av t.f2.length cv)) (0, 0) _ rfl ?_ Tryz.underlying58 rfl (by kernel_rfl)).trans ?_) rfl ?_
  · exact putT_blk hq
  · rfl
  · have hO : Only (fun k => k = w.heap.size) w2 (putT w2 w.heap.size t (.slice Av t.f2.length cv)) := putT_only _ _ _ _
    obtain ⟨inner, hown⟩ := Kd.R_own HGE.out
    have hR2 := R46_ok (ok' := fun k => V.heap.size ≤ k) HR.out fun k hk => own_base hown k hk
    refine ⟨⟨_, rfl, ?_⟩, HBB.out.trans (hO.below HBB.out.size fun k _ hk => by omega)⟩
    exact R46_ok (Kd.R_step hR2 fun k hk hl => hO.block k hl (by omega)) fun _ _ => trivial
theorem coord_Told_no (c : Cfg) (base : Nat) (ρ : Nat → Own) (I : CoIds) (blk : Int → Nat) (S : Co) (id : Int) (w : World) (h : CoAt c base ρ I blk S w) (h1 : id < 1 ∨ S.told.length < id) (hS : S.told.length ≤ 1000000) :
    Calls Tryz.prog 26 #[.pointer (some ⟨I.x, 0, none⟩), .int .i64 id] w fun e w' => e = .returned (.tuple #[.agg #[.int .i64 0, .string ⟨#[]⟩, .int .i64 0, .int .i64 0, .slice none 0 0, .bool false, .bool false], .bool false]) ∧ Below w.heap.size w w' := by
  obtain ⟨dv, hco, htold⟩ := (h.fresh (below_alloc (Below.refl _ _) (ToldB ⟨0, ⟨⟨#[]⟩, 0, 0⟩, [], false, false⟩ (.slice none 0 0)))).co
  have hdv : ∃ A k, dv = .slice A S.told.length k := by
    obtain ⟨inner, ho, hr⟩ := htold.row
    obtain ⟨A, k, e⟩ := own_slice ho
    rw [List.length_zipIdx] at e
    exact ⟨A, k, e⟩
  obtain ⟨A, k, rfl⟩ := hdv
  have x18 : (w.alloc (ToldB ⟨0, ⟨⟨#[]⟩, 0, 0⟩, [], false, false⟩ (.slice none 0 0))).cell? ⟨I.x, 18, none⟩ = some (.slice A S.told.length k) := (blk_cell hco 18).trans rfl
  clear hco htold h
  rcases Mem.dec_or (id < 1) with hlt | hlt
  · go_enter Tryz.func26, Tryz.ntmps26
    go_wp2
    exact bodyPost_ret (v := .tuple #[.agg #[.int .i64 0, .string ⟨#[]⟩, .int .i64 0, .int .i64 0, .slice none 0 0, .bool false, .bool false], .bool false]) (by simp [results, Tryz.results26, go_sem]) rfl ⟨rfl, below_alloc (Below.refl _ _) _⟩
  · have hgt2 : decide ((S.told.length : Int) < id) = true := by simp at hlt ⊢; omega
    go_enter Tryz.func26, Tryz.ntmps26
    go_wp2
    exact bodyPost_ret (v := .tuple #[.agg #[.int .i64 0, .string ⟨#[]⟩, .int .i64 0, .int .i64 0, .slice none 0 0, .bool false, .bool false], .bool false]) (by simp [results, Tryz.results26, go_sem]) rfl ⟨rfl, below_alloc (Below.refl _ _) _⟩
end Go.Proofs.YthbngidbfhcdaaaGreat.C
/- How things stand while the statement CoordFirst (or CoordRounds) goes on. -/
namespace Go.Proofs.YthbngidbfhcdaaaGreat.C
open Go.RowKit Go.Maps Go.Proofs.YthbngidbfhcdaaaGreat.Mem Go.Proofs.YthbngidbfhcdaaaGreatW.PrintWords Go.Proofs.YthbngidbfhcdaaaGreat.PCoordScript
set_option linter.unusedVariables false
set_option linter.unusedSimpArgs false
abbrev CfgB (c : Cfg) : Obj := .cells c.cells 25 (0, 0)
abbrev lastV (lv : Nat → Int) : Array Value := #[.int .i64 (lv 0), .int .i64 (lv 1), .int .i64 (lv 2), .int .i64 (lv 3), .int .i64 (lv 4), .int .i64 (lv 5)]
abbrev LastB (lv : Nat → Int) : Obj := .cells (lastV lv) 41 (0, 0)
def updI (lv : Nat → Int) (k : Nat) (v : Int) : Nat → Int := fun i => if i = k then v else lv i
theorem last_put {W : World} {b k : Nat} {lv : Nat → Int} (h : W.heap[b]? = some (LastB lv)) (hk : k < 6) (v : Int) : (W.setCell ⟨b, k, none⟩ (.int .i64 v)).heap[b]? = some (LastB (updI lv k v)) := by
  refine blk_put h k _ ?_
  have h6 : k = 0 ∨ k = 1 ∨ k = 2 ∨ k = 3 ∨ k = 4 ∨ k = 5 := by omega
  rcases h6 with rfl | rfl | rfl | rfl | rfl | rfl <;> rfl
theorem last_cell {W : World} {b k : Nat} {lv : Nat → Int} (h : W.heap[b]? = some (LastB lv)) (hk : k < 6) : W.cell? ⟨b, k, none⟩ = some (.int .i64 (lv k)) := by
  refine (blk_cell h k).trans ?_
  have h6 : k = 0 ∨ k = 1 ∨ k = 2 ∨ k = 3 ∨ k = 4 ∨ k = 5 := by omega
  rcases h6 with rfl | rfl | rfl | rfl | rfl | rfl <;> rfl
/-- How a coordinator and the statement's own boxes stand. -/
structure FS (c : Cfg) (q : S40) (b4 b5 bl base : Nat) (w0 : World) (ρ : Nat → Own) (I : CoIds) (blk : Int → Nat) (S : Co) (lv : Nat → Int) (W : World) : Prop where
  co : CoAt c base ρ I blk S W
  bel : Below w0.heap.size w0 W
  h4 : W.heap[b4]? = some (CfgB c)
  h5 : W.heap[b5]? = some (queryB q)
  hl : W.heap[bl]? = some (LastB lv)
  z4 : ρ b4 = .z
  z5 : ρ b5 = .z
  zl : ρ bl = .z
  ge : w0.heap.size ≤ base
section
variable {c : Cfg} {q : S40} {b4 b5 bl base : Nat} {w0 : World} {ρ ρ' : Nat → Own} {I : CoIds} {blk blk' : Int → Nat} {S S' : Co} {lv : Nat → Int} {W W' : World}
theorem ext_z (hE : Ext ρ ρ' W) {k : Nat} (hk : k < W.heap.size) (hz : ρ k = .z) : ρ' k = .z := by
  cases e : ρ' k with
  | z => rfl
  | _ =>
    rcases hE.new k (by rw [e]; simp) with h1 | h1
    · exact absurd hz h1
    · exact absurd hk (Nat.not_lt.2 h1)
theorem FS.api (h : FS c q b4 b5 bl base w0 ρ I blk S lv W) (hC : CoAt c base ρ' I blk' S' W') (hE : Ext ρ ρ' W) (hO : Only (fun k => ρ k ≠ .z) W W') : FS c q b4 b5 bl base w0 ρ' I blk' S' lv W' :=
  ⟨hC, h.bel.trans (hO.below h.bel.size fun k _ hk => Nat.le_trans h.ge (h.co.own k hk).1), (hO.block _ (blk_lt h.h4) (by rw [h.z4]; simp)).trans h.h4, (hO.block _ (blk_lt h.h5) (by rw [h.z5]; simp)).trans h.h5, (hO.block _ (blk_lt h.hl) (by rw [h.zl]; simp)).trans h.hl,
    ext_z hE (blk_lt h.h4) h.z4, ext_z hE (blk_lt h.h5) h.z5, ext_z hE (blk_lt h.hl) h.zl, h.ge⟩
theorem FS.fresh (h : FS c q b4 b5 bl base w0 ρ I blk S lv W) (hb : Below W.heap.size W W') : FS c q b4 b5 bl base w0 ρ I blk S lv W' :=
  h.api (h.co.fresh hb) (Ext.refl _ _) (Only.fresh hb _)
theorem FS.put (h : FS c q b4 b5 bl base w0 ρ I blk S lv W) (h4l : b4 ≠ bl) (h5l : b5 ≠ bl) (hg : w0.heap.size ≤ bl) {k : Nat} (hk : k < 6) (v : Int) : FS c q b4 b5 bl base w0 ρ I blk S (updI lv k v) (W.setCell ⟨bl, k, none⟩ (.int .i64 v)) := by
  have hO : Only (fun i => i = bl) W (W.setCell ⟨bl, k, none⟩ (.int .i64 v)) := Only.setB _ _ _ _
  refine ⟨h.co.frame hO.size fun i hi hne => hO.block i hi fun e => hne (e ▸ h.zl), h.bel.trans (hO.below h.bel.size fun i _ e => e ▸ hg), (hO.block _ (blk_lt h.h4) h4l).trans h.h4, (hO.block _ (blk_lt h.h5) h5l).trans h.h5, last_put h.hl hk v, h.z4, h.z5, h.zl, h.ge⟩
end
/-- Workers heard as numbers say, up to the moment n: nothing else has befallen. -/
structure HInv (c : Cfg) (n : Int) (S : Co) (lv : Nat → Int) : Prop where
  now : S.now = n
  Q : ∀ s, S.Q s = none
  T : ∀ id, S.T id = none
  last : S.last = 0
  told : S.told = []
  L : ∀ i : Nat, 1 ≤ i → (i : Int) ≤ c.wk → (lv i = -1 ∧ S.L i = ⟨0, 0, 0⟩) ∨ (0 ≤ lv i ∧ lv i ≤ n ∧ S.L i = ⟨1, 1, lv i + c.le⟩)
  ep : ∀ k, 0 ≤ (S.L k).epoch ∧ (S.L k).epoch ≤ 1
theorem HInv.new (c : Cfg) {lv : Nat → Int} (h : ∀ i : Nat, 1 ≤ i → (i : Int) ≤ c.wk → lv i = -1) : HInv c 0 Co.new lv :=
  ⟨rfl, fun _ => rfl, fun _ => rfl, rfl, rfl, fun i h1 h2 => .inl ⟨h i h1 h2, rfl⟩, fun _ => ⟨Int.le_refl 0, (by decide : (0 : Int) ≤ 1)⟩⟩
theorem HInv.tick {c : Cfg} {n : Int} {S : Co} {lv : Nat → Int} (h : HInv c n S lv) (hn : 0 ≤ n ∧ n ≤ 1000000) : HInv c (n + 1) { S with now := tickN S.now } lv :=
  ⟨by show tickN S.now = _; rw [h.now]; unfold tickN; omega, h.Q, h.T, h.last, h.told, fun i h1 h2 => (h.L i h1 h2).imp (fun h => h) fun ⟨a, b, d⟩ => ⟨a, by omega, d⟩, h.ep⟩
theorem HInv.hello {c : Cfg} {n : Int} {S : Co} {lv : Nat → Int} (h : HInv c n S lv) (hn : 0 ≤ n) (hle : 1 ≤ c.le) {k : Int} (hk : 1 ≤ k ∧ k ≤ c.wk) : helloOk c S.L k 1 ∧ HInv c n (S.hello c k 1) (updI lv k.toNat n) := by
  have hL := h.L k.toNat (by omega) (by omega)
  have hlife : (S.L k.toNat).life ≤ 1 := by
    rcases hL with ⟨_, e⟩ | ⟨_, _, e⟩
    · rw [e]; decide
    · rw [e]; exact Int.le_refl 1
  refine ⟨⟨hk.1, hk.2, by decide, by decide, hlife⟩, ⟨h.now, h.Q, h.T, h.last, h.told, fun i h1 h2 => ?_, fun i => ?_⟩⟩
  · show (updI lv k.toNat n i = -1 ∧ upL S.L k.toNat _ i = _) ∨ _
    by_cases e : i = k.toNat
    · right
      unfold updI
      refine ⟨by rw [if_pos e]; exact hn, by rw [if_pos e]; exact Int.le_refl _, ?_⟩
      show upL S.L k.toNat (heardL (S.L k.toNat) 1 S.now c.le) i = _
      unfold upL
      rw [if_pos e, if_pos e, h.now]
      unfold heardL
      rcases hL with ⟨_, e1⟩ | ⟨a1, a2, e1⟩
      · rw [e1]
        show (⟨1, if (0 : Int) < 1 then (0 : Int) + 1 else 0, max 0 (n + c.le)⟩ : Ls) = _
        rw [if_pos (by decide), Int.max_eq_right (by omega)]
        rfl
      · rw [e1]
        show (⟨1, if (1 : Int) < 1 then (1 : Int) + 1 else 1, max (lv k.toNat + c.le) (n + c.le)⟩ : Ls) = _
        rw [if_neg (by decide), Int.max_eq_right (by omega)]
    · have := h.L i h1 h2
      unfold updI
      rw [if_neg e]
      show (_ ∧ upL S.L k.toNat _ i = _) ∨ (_ ∧ _ ∧ upL S.L k.toNat _ i = _)
      unfold upL
      rw [if_neg e]
      exact this
  · show 0 ≤ (upL S.L k.toNat _ i).epoch ∧ (upL S.L k.toNat _ i).epoch ≤ 1
    unfold upL
    split
    · unfold heardL
      have h01 : (0 : Int) ≤ 1 := by decide
      rcases hL with ⟨_, e1⟩ | ⟨a1, a2, e1⟩ <;> (rw [e1]; exact ⟨h01, Int.le_refl 1⟩)
    · exact h.ep i
theorem wantAll_told (c : Cfg) (s : Nat) (draw : Int) : ∀ (l : List Int) (st : Co × List LetD), (wantAll c s draw l st).1.told = st.1.told
  | [], st => rfl
  | k :: l, st => (wantAll_told c s draw l (wantStep c s draw st k)).trans (by
    unfold wantStep
    cases hy : st.1.Q s with
    | none => rfl
    | some y => exact (wants_Q c st.1 s y k.toNat draw).2.2.2.1)
theorem wakeN_told (c : Cfg) (draw : Int) (S : Co) : ∀ n : Nat, (wakeN c draw n S).1.told = S.told
  | 0 => rfl
  | n + 1 => by
    rw [wakeN_succ]
    unfold wakeStep
    cases hy : (wakeN c draw n S).1.Q n with
    | none => exact wakeN_told c draw S n
    | some y => exact (wantAll_told c n draw y.m.wants _).trans (wakeN_told c draw S n)
theorem first_told (c : Cfg) (S : Co) (q : S40) (hn : 1 ≤ q.f2) (hl : S.last = 0) (ht : S.told = []) : (Co.first c S q).told.length = 1 ∧ (toldAt (Co.first c S q) 0).f2 = [] ∧ ((toldAt (Co.first c S q) 0).f3 = decide (wlN c q = [])) := by
  have hid : (newQy c S q).id = 1 := by
    show S.last + 1 = 1
    rw [hl]; rfl
  have e1 : ((newQy c S q).id - 1).toNat = 0 := by rw [hid]; rfl
  have e2 : (S.add c 0 q).told = [⟨1, q, [], false, false⟩] := by
    show S.told ++ [⟨S.last + 1, q, [], false, false⟩] = _
    rw [ht, hl]
    rfl
  have e3 : (newQy c S q).m.tell = ([], newMg c q) := newMg_tell c q
  have e4 : ((S.add c 0 q).tells 0 (newQy c S q)).told = [⟨1, q, [], false, false⟩] := by
    unfold Co.tells
    show (S.add c 0 q).told.set _ _ = _
    rw [e1, e3]
    unfold toldAt
    rw [e2]
    rfl
  unfold Co.first Co.goes
  rw [e3]
  by_cases hd : (newMg c q).done = true
  · rw [if_pos hd]
    have hw := (newMg_done c q hn).1 hd
    have e5 : ∀ x : List S58, ((Co.over c { (S.add c 0 q).tells 0 (newQy c S q) with told := x } 0)).told = x := fun x => rfl
    unfold toldAt
    rw [e5, e1, e4]
    exact ⟨rfl, rfl, by rw [hw]; rfl⟩
  · rw [if_neg hd]
    have hw : wlN c q ≠ [] := fun h => hd ((newMg_done c q hn).2 h)
    unfold toldAt
    rw [e4]
    exact ⟨rfl, rfl, by rw [decide_eq_false hw]; rfl⟩
section
variable {c : Cfg} {q : S40} {b4 b5 bl base : Nat} {w0 : World} {ρ : Nat → Own} {I : CoIds} {blk : Int → Nat} {S : Co} {lv : Nat → Int} {W : World} {n : Int}
theorem FS_Take (h : FS c q b4 b5 bl base w0 ρ I blk S lv W) (hm : c.May) (hi : HInv c n S lv) (hn : 0 ≤ n ∧ n ≤ 1000000) {k : Int} (hk : 1 ≤ k ∧ k ≤ c.wk) :
    Calls Tryz.prog 16 #[.pointer (some ⟨I.x, 0, none⟩), .iface 36 (.agg #[.int .i64 k, .int .i64 1])] W fun e w' => (∃ v, e = .returned v) ∧ FS c q b4 b5 bl base w0 ρ I blk (S.hello c k 1) lv w' := by
  obtain ⟨ok, _⟩ := hi.hello hn.1 hm.nums.2.2.2.2.1.1 hk
  refine (coord_Take_hello c base ρ I blk S k 1 W h.co hm (by rw [hi.now]; exact hn.1) (by rw [hi.now]; omega) fun k => ⟨(hi.ep k).1, by have := (hi.ep k).2; omega⟩).mono ?_
  rw [if_pos ok, if_pos ok]
  rintro e w' ⟨⟨v, rfl, hR⟩, hC, hO⟩
  exact ⟨⟨v, rfl⟩, h.api hC (Ext.refl _ _) (hO.mono fun k _ hk => by rw [hk, h.co.roles.2.1]; simp)⟩
theorem FS_Now (h : FS c q b4 b5 bl base w0 ρ I blk S lv W) (hi : S.now = n) :
    Calls Tryz.prog 18 #[.pointer (some ⟨I.x, 0, none⟩)] W fun e w' => e = .returned (.int .i64 n) ∧ w' = W := by
  rw [← hi]
  exact coord_Now c base ρ I blk S W h.co
theorem FS_Tick (h : FS c q b4 b5 bl base w0 ρ I blk S lv W) (hn : 0 ≤ S.now ∧ S.now ≤ 1000000) :
    Calls Tryz.prog 23 #[.pointer (some ⟨I.x, 0, none⟩)] W fun e w' => e = .returned (.tuple #[]) ∧ FS c q b4 b5 bl base w0 ρ I blk { S with now := tickN S.now } lv w' := by
  refine (coord_Tick c base ρ I blk S W h.co hn.1 (by omega)).mono ?_
  rintro e w' ⟨rfl, hC, hO⟩
  exact ⟨rfl, h.api hC (Ext.refl _ _) (hO.mono fun k _ hk => by rw [hk, h.co.roles.1]; simp)⟩
def lets (c : Cfg) (S : Co) (q : S40) : List LetD := (List.range (c.cuts.length + 1)).flatMap (seg c S q)
theorem mayQ_n {q : S40} (h : mayQ q = true) : 1 ≤ q.f2 := by
  unfold mayQ at h
  simp at h
  omega
theorem first_last (c : Cfg) (S : Co) (q : S40) (hl : S.last = 0) : (Co.first c S q).last = 1 := by
  unfold Co.first
  rw [(goes_now c _ _ _).2.1]
  show S.last + 1 = 1
  rw [hl]
  rfl
theorem first_now (c : Cfg) (S : Co) (q : S40) : (Co.first c S q).now = S.now := (goes_now c _ _ _).1
theorem FS_Submit (h : FS c q b4 b5 bl base w0 ρ I blk S lv W) (hm : c.May) (hi : HInv c n S lv) (hs : q.f0.size ≤ 9223372036854775807) (hq : mayQ q = true) :
    Calls Tryz.prog 17 #[.pointer (some ⟨I.x, 0, none⟩), qval q] W fun e w' => ∃ A k m ρ' blk', e = .returned (.tuple #[.int .i64 3, .int .i64 1, .slice A k m]) ∧ FS c q b4 b5 bl base w0 ρ' I blk' (Co.first c S q) lv w' := by
  have hlive : S.live = 0 := by
    show liveN S.Q 4 = 0
    simp [liveN, hi.Q]
  refine (coord_Submit c base ρ I blk S q 0 W h.co hm hs hq (by have := hm.nums.2.2.1; omega) (fun i hi => absurd hi (Nat.not_lt_zero i)) (hi.Q 0) (by rw [hlive]; have := hm.nums.2.2.1; omega) (by rw [hi.last]; decide)).mono ?_
  rintro e w' ⟨v, rfl, ⟨⟨ρ', blk', hE, hC, hR⟩, hO⟩⟩
  obtain ⟨A, m, rfl⟩ := Kd.R_slice hR
  rw [hi.last]
  exact ⟨_, _, _, ρ', blk', rfl, h.api hC hE hO⟩
theorem FS_Wake (h : FS c q b4 b5 bl base w0 ρ I blk (Co.first c S q) lv W) (hm : c.May) (hi : HInv c n S lv) (hn : 0 ≤ n ∧ n ≤ 1000000) (hq : mayQ q = true) (draw : Int) :
    Calls Tryz.prog 20 #[.pointer (some ⟨I.x, 0, none⟩), .int .i64 draw] W fun e w' => ∃ A k ρ' blk' S3, e = .returned (.slice A (lets c S q).length k) ∧ FS c q b4 b5 bl base w0 ρ' I blk' S3 lv w' ∧ S3.told = (Co.first c S q).told ∧ S3.now = n ∧ Kd.C kLet w' A (lets c S q).length (lets c S q) := by
  have hok : CoOk c 3 (Co.first c S q) := CoOk.goes (CoOk.add (fun s y hy => by rw [hi.Q s] at hy; cases hy) (by decide) 0 q) rfl
  refine (coord_Wake c base ρ I blk (Co.first c S q) draw W h.co hm ⟨by rw [first_now, hi.now]; exact hn.1, by rw [first_now, hi.now]; omega⟩ hok (by decide) (by decide) (by rw [first_last c S q hi.last]; decide)).mono ?_
  rintro e w' ⟨v, rfl, ⟨⟨ρ', blk', hE, hC, hR⟩, hO⟩⟩
  have e2 := first_lets c S q draw (mayQ_n hq) hi.Q hi.T (by have := hm.nums.2.2.1; omega)
  rw [e2] at hR
  obtain ⟨A, k, rfl⟩ := Kd.R_slice hR
  refine ⟨A, k, ρ', blk', _, rfl, h.api hC hE hO, wakeN_told c draw _ _, ?_, (Kd.R_reads' hR).2.2⟩
  exact ((wakeN_ok hm draw hok ⟨by rw [first_now, hi.now]; exact hn.1, by rw [first_now, hi.now]; omega⟩ (by decide) _).2.1).trans (by rw [first_now, hi.now])
theorem FS_Told {S3 : Co} (h : FS c q b4 b5 bl base w0 ρ I blk S3 lv W) (hi : HInv c n S lv) (hq : mayQ q = true) (ht : S3.told = (Co.first c S q).told) :
    Calls Tryz.prog 26 #[.pointer (some ⟨I.x, 0, none⟩), .int .i64 1] W fun e w' => (∃ t A k b, e = .returned (.tuple #[.agg #[.int .i64 (t : S58).f0, .string t.f1.f0, .int .i64 t.f1.f1, .int .i64 t.f1.f2, .slice A 0 k, .bool b, .bool t.f4], .bool true]) ∧ (b = true ↔ wlN c q = [])) ∧ Below W.heap.size W w' := by
  obtain ⟨t1, t2, t3⟩ := first_told c S q (mayQ_n hq) hi.last hi.told
  have e0 : toldAt S3 ((1 : Int) - 1).toNat = toldAt (Co.first c S q) 0 := by unfold toldAt; rw [ht]; rfl
  have hl : S3.told.length = 1 := by rw [ht]; exact t1
  refine (coord_Told c base ρ I blk S3 1 W h.co (Int.le_refl 1) (by rw [hl]; exact Int.le_refl 1) (by rw [e0, t2]; exact Nat.zero_le _) (by rw [hl]; decide)).mono ?_
  rw [e0]
  rintro e w' ⟨⟨v, rfl, hR⟩, hb⟩
  obtain ⟨A, k, rfl⟩ := Kd.R_slice hR
  refine ⟨⟨toldAt (Co.first c S q) 0, A, k, (toldAt (Co.first c S q) 0).f3, ?_, by rw [t3]; exact decide_eq_true_iff⟩, hb⟩
  rw [t2]
  rfl
end
end Go.Proofs.YthbngidbfhcdaaaGreat.C
/- Whom a wake asks first, told as the statement CoordFirst looks for it (plain). -/
namespace Go.Proofs.YthbngidbfhcdaaaGreat.C
open Go.RowKit Go.Maps Go.Proofs.YthbngidbfhcdaaaGreat.Mem Go.Proofs.YthbngidbfhcdaaaGreatW.PrintWords Go.Proofs.YthbngidbfhcdaaaGreat.PCoordScript
set_option linter.unusedVariables false
theorem add0 (a : Addr) : a.add 0 = a := by
  cases a
  unfold Addr.add
  split <;> simp_all
abbrev rdI (l : List Int) (j : Int) : Int := Go.Proofs.YthbngidbfhcdaaaGreatW.PrintWords.rd l j
/-- The first from place j on that lives; where none does, the first one. -/
def gto (L : Nat → Ls) (now : Int) (l : List Int) (j : Int) : Int := rdI l (max (liveFrom L now l ((l.length : Int) - j).toNat j) 0)
theorem gto_end (L : Nat → Ls) (now : Int) (l : List Int) : gto L now l l.length = rdI l 0 := by
  unfold gto
  rw [show ((l.length : Int) - l.length).toNat = 0 by omega]
  rfl
theorem gto_step (L : Nat → Ls) (now : Int) (l : List Int) {j : Int} (h0 : 0 ≤ j) (h1 : j < l.length) : gto L now l j = if liveB L now (rdI l j) = true then rdI l j else gto L now l (j + 1) := by
  unfold gto
  rw [show ((l.length : Int) - j).toNat = ((l.length : Int) - (j + 1)).toNat + 1 by omega]
  show rdI l (max (if j < (l.length : Int) then (if liveB L now (Go.Proofs.YthbngidbfhcdaaaGreatW.PrintWords.rd l j) = true then j else liveFrom L now l ((l.length : Int) - (j + 1)).toNat (j + 1)) else -1) 0) = _
  rw [if_pos h1]
  split
  · rw [Int.max_eq_left h0]
  · rfl
theorem gto_zero (L : Nat → Ls) (now : Int) (l : List Int) : gto L now l 0 = rdI l (max (liveIx L now l) 0) := by
  unfold gto liveIx
  rw [show ((l.length : Int) - 0).toNat = l.length by omega]
theorem rd_in {l : List Int} {j : Int} (h0 : 0 ≤ j) (h1 : j < l.length) : rdI l j ∈ l := by
  have h : j.toNat < l.length := by omega
  have : rdI l j = l[j.toNat] := by simp [rdI, Go.Proofs.YthbngidbfhcdaaaGreatW.PrintWords.rd, List.getD_eq_getElem?_getD, List.getElem?_eq_getElem h]
  rw [this]
  exact List.getElem_mem h
theorem gto_in (L : Nat → Ls) (now : Int) (l : List Int) (h : 1 ≤ l.length) : gto L now l 0 ∈ l := by
  rw [gto_zero]
  unfold liveIx
  rcases liveFrom_range L now l l.length 0 (by omega) with h1 | h1
  · rw [h1]
    exact rd_in (by omega) (by omega)
  · exact rd_in (by omega) (by omega)
theorem turn0_range (c : Cfg) (S : Co) (i : Nat) (h : 1 ≤ (c.copies i).length) : 0 ≤ turn0 c S i ∧ turn0 c S i < (c.copies i).length := by
  unfold turn0 liveIx
  rcases liveFrom_range S.L S.now (c.copies i) (c.copies i).length 0 (by omega) with h1 | h1
  · rw [h1]
    omega
  · omega
theorem toOf_turn0 (c : Cfg) (S : Co) (i : Nat) (h : 1 ≤ (c.copies i).length) : toOf c i (turn0 c S i) = gto S.L S.now (c.copies i) 0 := by
  obtain ⟨h1, h2⟩ := turn0_range c S i h
  rw [gto_zero]
  unfold toOf
  rw [Int.emod_eq_of_lt h1 h2]
  rfl
theorem seg_no {c : Cfg} {S : Co} {q : S40} {i : Nat} (h : wantB c q i = false) : seg c S q i = [] := by
  unfold seg
  rw [if_neg (by rw [h]; simp)]
theorem seg_mute {c : Cfg} {S : Co} {q : S40} {i : Nat} (h : wantB c q i = true) (hl : 1 ≤ (c.copies i).length) (he : (S.L (gto S.L S.now (c.copies i) 0).toNat).epoch = 0) : seg c S q i = [] := by
  unfold seg askOf
  rw [if_pos h, toOf_turn0 c S i hl, if_pos he]
theorem seg_one {c : Cfg} {S : Co} {q : S40} {i : Nat} (h : wantB c q i = true) (hl : 1 ≤ (c.copies i).length) (he : (S.L (gto S.L S.now (c.copies i) 0).toNat).epoch ≠ 0) : ∃ m, seg c S q i = [⟨gto S.L S.now (c.copies i) 0, m⟩] := by
  unfold seg askOf
  rw [if_pos h, toOf_turn0 c S i hl, if_neg he]
  exact ⟨_, rfl⟩
theorem split_at {α : Type} (f : Nat → List α) : ∀ {N s : Nat}, s < N → ∃ B, (List.range N).flatMap f = (List.range s).flatMap f ++ (f s ++ B)
  | 0, s, h => by omega
  | N + 1, s, h => by
    rw [List.range_succ, List.flatMap_append]
    by_cases e : s = N
    · subst e
      exact ⟨[], by simp⟩
    · obtain ⟨B, hB⟩ := split_at f (N := N) (s := s) (by omega)
      rw [hB]
      exact ⟨B ++ [N].flatMap f, by simp [List.append_assoc]⟩
/-- How many letters are for shards below s. -/
def flL (c : Cfg) (S : Co) (q : S40) (s : Nat) : Nat := ((List.range s).flatMap (seg c S q)).length
theorem flL_succ (c : Cfg) (S : Co) (q : S40) (s : Nat) : flL c S q (s + 1) = flL c S q s + (seg c S q s).length := by
  unfold flL
  rw [List.range_succ, List.flatMap_append, List.length_append]
  simp
theorem flL_end (c : Cfg) (S : Co) (q : S40) : flL c S q (c.cuts.length + 1) = (lets c S q).length := rfl
theorem flL_at {c : Cfg} {S : Co} {q : S40} {s : Nat} {x : LetD} (hs : s < c.cuts.length + 1) (h : seg c S q s = [x]) : flL c S q s < (lets c S q).length ∧ lt_ (lets c S q) (flL c S q s) = x := by
  obtain ⟨B, hB⟩ := split_at (seg c S q) hs
  have hl : lets c S q = (List.range s).flatMap (seg c S q) ++ (x :: B) := by
    unfold lets
    rw [hB, h]
    rfl
  rw [hl]
  unfold flL
  constructor
  · rw [List.length_append, List.length_cons]
    omega
  · unfold lt_
    rw [Int.toNat_natCast, List.getD_eq_getElem?_getD, List.getElem?_append_right (Nat.le_refl _), Nat.sub_self]
    rfl
theorem flL_le {c : Cfg} {S : Co} {q : S40} : ∀ s : Nat, flL c S q s ≤ s
  | 0 => Nat.le_refl _
  | s + 1 => by
    rw [flL_succ]
    have := flL_le (c := c) (S := S) (q := q) s
    have h1 : (seg c S q s).length ≤ 1 := by
      unfold seg askOf
      split
      · split <;> simp
      · simp
    omega
theorem lets_nil {c : Cfg} {S : Co} {q : S40} (h : wlN c q = []) : lets c S q = [] := by
  unfold lets
  rw [List.flatMap_eq_nil_iff]
  intro i hi
  refine seg_no ?_
  rcases Mem.bool_or (wantB c q i) with h1 | h1
  · have : i ∈ wlN c q := List.mem_filter.2 ⟨hi, h1⟩
    rw [h] at this
    cases this
  · exact h1
/-- A worker that is a copy: heard or not, living or not. -/
theorem HInv.live {c : Cfg} {n : Int} {S : Co} {lv : Nat → Int} (h : HInv c n S lv) {x : Int} (hx : 1 ≤ x ∧ x ≤ c.wk) :
    (lv x.toNat = -1 ∧ liveB S.L n x = false ∧ (S.L x.toNat).epoch = 0) ∨ (0 ≤ lv x.toNat ∧ lv x.toNat ≤ n ∧ liveB S.L n x = decide (n ≤ lv x.toNat + c.le) ∧ (S.L x.toNat).epoch ≠ 0) := by
  have hL := h.L x.toNat (by omega) (by omega)
  unfold liveB
  rcases hL with ⟨a, e⟩ | ⟨a, b, e⟩
  · left
    rw [e]
    exact ⟨a, rfl, rfl⟩
  · right
    rw [e]
    exact ⟨a, b, by simp, by simp⟩
theorem wantB_no {c : Cfg} {q : S40} {i : Nat} (h : leastD c.cuts i (tlen q.f0) < 0 ∨ q.f1 < leastD c.cuts i (tlen q.f0)) : wantB c q i = false := by
  unfold wantB wantD
  refine decide_eq_false ?_
  split <;> omega
theorem wantB_yes {c : Cfg} {q : S40} {i : Nat} (h : 0 ≤ leastD c.cuts i (tlen q.f0)) (h2 : leastD c.cuts i (tlen q.f0) ≤ q.f1) : wantB c q i = true := by
  unfold wantB wantD
  refine decide_eq_true ?_
  rw [if_neg (by omega)]
  exact h
end Go.Proofs.YthbngidbfhcdaaaGreat.C
/- CoordFirst, walked. -/
namespace Go.Proofs.YthbngidbfhcdaaaGreat.C
open Go.RowKit Go.Maps Go.Proofs.YthbngidbfhcdaaaGreat.Mem Go.Proofs.YthbngidbfhcdaaaGreatW.PrintWords Go.Proofs.YthbngidbfhcdaaaGreat.PCoordScript
set_option linter.unusedVariables false
set_option linter.unusedSimpArgs false
def FirstSays (w : World) (e : Ending) (w' : World) : Prop := e = .returned (.bool true) ∧ Below w.heap.size w w'
/-- The statement's own boxes, before a coordinator is. -/
structure FB (c : Cfg) (q : S40) (w W : World) : Prop where
  at_ : c.At W
  bel : Below w.heap.size w W
  h4 : W.heap[w.heap.size]? = some (CfgB c)
  h5 : W.heap[w.heap.size + 1]? = some (queryB q)
theorem FB.step {c : Cfg} {q : S40} {w W W' : World} (h : FB c q w W) (hb : Below W.heap.size W W') : FB c q w W' :=
  ⟨h.at_.below hb, below_step h.bel hb, blk_below h.h4 hb, blk_below h.h5 hb⟩
theorem FB.start {c : Cfg} {q : S40} {w : World} (h : c.At w) : FB c q w ((w.alloc (CfgB c)).alloc (queryB q)) :=
  ⟨(h.below (below_alloc (Below.refl _ _) _)).below (below_alloc (Below.refl _ _) _), below_alloc (below_alloc (Below.refl _ _) _) _, blk_alloc (blk_new _ _) _, by have := blk_new (w.alloc (CfgB c)) (queryB q); simpa using this⟩
theorem own_low {c : Cfg} {base : Nat} {ρ : Nat → Own} {I : CoIds} {blk : Int → Nat} {S : Co} {W : World} (h : CoAt c base ρ I blk S W) {k : Nat} (hk : k < base) : ρ k = .z := by
  cases e : ρ k with
  | z => rfl
  | _ => exact absurd (h.own k (by rw [e]; simp)).1 (Nat.not_le.2 hk)
set_option maxRecDepth 100000 in
set_option maxHeartbeats 4000000 in
theorem first_any (c : Cfg) (q : S40) (A2 : Option Addr) (c2 : Nat) (heard : List Int) (wait : Int) (w : World) (hc : c.At w) (hq : q.f0.size ≤ 9223372036854775807) (hh : Kd.C (Kd.int .i64) w A2 heard.length heard) :
    Calls Tryz.prog 4 #[c.val, qval q, .slice A2 heard.length c2, .int .i64 wait] w (FirstSays w) := by
  have HC := Aside0.mk hc
  have HH := Aside0.mk hh
  have hl := hh.2.1
  have HF0 : Aside0 (FB c q w ((w.alloc (CfgB c)).alloc (queryB q))) := ⟨FB.start hc⟩
  clear hc hh
  go_enter Tryz.func4, Tryz.ntmps4
  go_wp2_with fail
  refine (great_config c _ HF0.out.at_).mono ?_
  rintro e w1 ⟨b1, rfl, hb1, hbel⟩
  have HF1 := Aside0.mk (HF0.out.step hbel)
  have HG := Aside0.mk hb1
  clear hbel hb1
  rcases Mem.bool_or b1 with g1 | g1
  · go_wp2_with (go_at_call 14; refine (awake_calls _).mono ?_; rintro e w2 ⟨rfl, hb⟩; have HB := Aside0.mk (below_step HF1.out.bel hb); clear hb)
    go_ret
    exact ⟨rfl, HB.out⟩
  obtain ⟨x0, x1, x2, x3, x4, x5, x6, x7, x8, x9, x10, x11⟩ := Cfg.read HF1.out.h4
  have y0 : w1.cell? ⟨w.heap.size + 1, 0, none⟩ = some (.string q.f0) := (blk_cell HF1.out.h5 0).trans rfl
  rcases Mem.dec_or ((100 : Int) < q.f0.size) with g2 | g2
  · go_wp2_with (go_at_call 14; refine (awake_calls _).mono ?_; rintro e w2 ⟨rfl, hb⟩; have HB := Aside0.mk (below_step HF1.out.bel hb); clear hb)
    go_ret
    exact ⟨rfl, HB.out⟩
  rcases Mem.dec_or ((20 : Int) < heard.length) with g3 | g3
  · go_wp2_with (go_at_call 14; refine (awake_calls _).mono ?_; rintro e w2 ⟨rfl, hb⟩; have HB := Aside0.mk (below_step HF1.out.bel hb); clear hb)
    go_ret
    exact ⟨rfl, HB.out⟩
  go_wp2_with fail
  refine (place_May c _ HF1.out.at_).mono ?_
  rintro e w2 ⟨⟨b2, rfl, hb2⟩, hbel⟩
  have HF2 := Aside0.mk (HF1.out.step hbel)
  have HM := Aside0.mk hb2
  clear hbel hb2 x0 x1 x2 x3 x4 x5 x6 x7 x8 x9 x10 x11 y0
  rcases Mem.bool_or b2 with g4 | g4
  rotate_left
  · go_wp2_with (go_at_call 14; refine (awake_calls _).mono ?_; rintro e w2 ⟨rfl, hb⟩; have HB := Aside0.mk (below_step HF2.out.bel hb); clear hb)
    go_ret
    exact ⟨rfl, HB.out⟩
  have y0 : w2.cell? ⟨w.heap.size + 1, 0, none⟩ = some (.string q.f0) := (blk_cell HF2.out.h5 0).trans rfl
  have y1 : w2.cell? ⟨w.heap.size + 1, 1, none⟩ = some (.int .i64 q.f1) := (blk_cell HF2.out.h5 1).trans rfl
  have y2 : w2.cell? ⟨w.heap.size + 1, 2, none⟩ = some (.int .i64 q.f2) := (blk_cell HF2.out.h5 2).trans rfl
  go_wp2_with fail
  refine (rank_May q _ hq).mono ?_
  rintro e w3 ⟨rfl, hbel⟩
  have HF3 := Aside0.mk (HF2.out.step hbel)
  clear hbel y0 y1 y2
  rcases Mem.bool_or (mayQ q) with g5 | g5
  rotate_left
  · go_wp2_with (go_at_call 14; refine (awake_calls _).mono ?_; rintro e w2 ⟨rfl, hb⟩; have HB := Aside0.mk (below_step HF3.out.bel hb); clear hb)
    go_ret
    exact ⟨rfl, HB.out⟩
  have hm : c.May := HM.out.1 g4
  have HMY := Aside0.mk hm
  have HMQ := Aside0.mk g5
  have hl20 : heard.length ≤ 20 := by simp at g3; omega
  clear hm g4 HM HG HF0 HF1 HF2 g1 g2 g3
  obtain ⟨x0, x1, x2, x3, x4, x5, x6, x7, x8, x9, x10, x11⟩ := Cfg.read HF3.out.h4
  go_upto_region 6 with (go_at_call 15; with_reducible refine (coord_New' c _ HF3.out.at_ HMY.out).mono ?_; rintro e w4 ⟨I, ρ, rfl, hC, hb⟩; have HC4 := Aside0.mk hC; have HF4 := Aside0.mk (HF3.out.step hb); have hz3 := Aside0.mk hb.size; clear hC hb)
  clear g5 x0 x1 x2 x3 x4 x5 x6 x7 x8 x9 x10 x11
  obtain ⟨⟨hwk1, hwk2⟩, ⟨hcp1, hcp2, hcp3⟩, ⟨hsl1, hsl2⟩, _, ⟨hle1, hle2⟩, _⟩ := HMY.out.nums
  have h4b : Aside0 (w.heap.size < w3.heap.size ∧ w.heap.size + 1 < w3.heap.size) := ⟨⟨blk_lt HF3.out.h4, blk_lt HF3.out.h5⟩⟩
  go_upto_region 7 with fail
  have HS0 : Aside0 (FS c q w.heap.size (w.heap.size + 1) w4.heap.size w3.heap.size w ρ I (fun _ => 0) Co.new (fun _ => 0) (w4.alloc (LastB fun _ => 0))) := ⟨{
    co := HC4.out.fresh (below_alloc (Below.refl _ _) _)
    bel := below_alloc HF4.out.bel _
    h4 := blk_alloc HF4.out.h4 _
    h5 := blk_alloc HF4.out.h5 _
    hl := blk_new _ _
    z4 := own_low HC4.out h4b.out.1
    z5 := own_low HC4.out h4b.out.2
    zl := HC4.out.zero (Nat.le_refl _)
    ge := HF3.out.bel.size }⟩
  have hge : Aside0 (w.heap.size ≤ w4.heap.size ∧ w.heap.size ≠ w4.heap.size ∧ w.heap.size + 1 ≠ w4.heap.size) := ⟨by have := hz3.out; have := h4b.out; omega⟩
  refine Rd.gen_wp (R := fun V => FS c q w.heap.size (w.heap.size + 1) w4.heap.size w3.heap.size w ρ I (fun _ => 0) Co.new (fun _ => 0) V) HS0.out ?_
  rintro V hV
  have HSV := Aside0.mk hV
  clear hV HS0 HC4 HF4 HF3
  generalize w4.heap.size = bl at *
  go_wp2
  go_loopw [12] (fun v wr => ∃ k : Int, v = .int .i64 k ∧ 1 ≤ k ∧ k ≤ c.wk + 1 ∧ Aside0 (∃ lv, FS c q w.heap.size (w.heap.size + 1) bl w3.heap.size w ρ I (fun _ => 0) Co.new lv wr ∧ ∀ i : Nat, 1 ≤ i → (i : Int) < k → lv i = -1)) (fun v _ => (c.wk + 1).toNat - (intOf v).toNat)
  case atStart => exact ⟨1, rfl, by omega, by omega, ⟨⟨_, HSV.out, fun i h1 h2 => absurd h1 (by omega)⟩⟩⟩
  case round =>
    obtain ⟨k, rfl, hk1, hk2, HK⟩ := hrel
    obtain ⟨lv, hFS, hlv⟩ := HK.out
    have x2 : wr.cell? ⟨w.heap.size, 2, none⟩ = some (.int .i64 c.wk) := (Cfg.read hFS.h4).2.2.1
    rcases Mem.dec_or (k ≤ c.wk) with hlt | hlt
    · have hlt' : k ≤ c.wk := of_decide_eq_true hlt
      have hk6 : k.toNat < 6 := by omega
      have hk0 : 0 ≤ k := by omega
      have hk5 : k < 6 := by omega
      have z : wr.cell? ⟨bl, k.toNat, none⟩ = some (.int .i64 (lv k.toNat)) := last_cell hFS.hl hk6
      have fz := blk_frozen hFS.hl k.toNat
      have hput := hFS.put hge.out.2.1 hge.out.2.2 hge.out.1 hk6 (-1)
      have HP := Aside0.mk hput
      have HLV := Aside0.mk hlv
      clear hput hlv hFS
      go_wp2
      go_roundw
      case rel =>
        refine ⟨k + 1, rfl, by omega, by omega, ⟨⟨_, HP.out, fun i h1 h2 => ?_⟩⟩⟩
        unfold updI
        by_cases e : i = k.toNat
        · rw [if_pos e]
        · rw [if_neg e]
          exact HLV.out i h1 (by omega)
      case measure => simp [intOf]; omega
    · have hge' : ¬ k ≤ c.wk := by simpa using hlt
      have hINV : Aside0 (∃ S lv ρ1 blk1, FS c q w.heap.size (w.heap.size + 1) bl w3.heap.size w ρ1 I blk1 S lv wr ∧ HInv c 0 S lv) := ⟨⟨_, lv, ρ, _, hFS, HInv.new c fun i h1 h2 => hlv i h1 (by omega)⟩⟩
      clear hlv hFS HK HSV
      go_wp2
      clear x2
      go_loopw [13] (fun v wr => ∃ i : Int, v = .int .i64 i ∧ 0 ≤ i ∧ i ≤ heard.length ∧ Aside0 (∃ S lv ρ1 blk1, FS c q w.heap.size (w.heap.size + 1) bl w3.heap.size w ρ1 I blk1 S lv wr ∧ HInv c i S lv)) (fun v _ => heard.length - (intOf v).toNat)
      case atStart => exact ⟨0, rfl, by omega, by omega, hINV⟩
      case round =>
        obtain ⟨i, rfl, hi0, hi1, HK⟩ := hrel
        rcases Mem.dec_or (i < heard.length) with hlt | hlt
        · have hlt' : i < heard.length := of_decide_eq_true hlt
          obtain ⟨S, lv, ρ1, blk1, hFS, hI⟩ := HK.out
          obtain ⟨ad, rfl, hx0⟩ := Kd.at_int (Kd.C_below HH.out hFS.bel) i hi0 hlt'
          have x2 : wr.cell? ⟨w.heap.size, 2, none⟩ = some (.int .i64 c.wk) := (Cfg.read hFS.h4).2.2.1
          have hw1 : IntKind.i64.wrap (c.wk + 1) = c.wk + 1 := IntWalk.i64_in _ (by omega)
          have HFS := Aside0.mk hFS
          have HI := Aside0.mk hI
          generalize Go.Proofs.YthbngidbfhcdaaaGreatW.PrintWords.rd heard i = hx at *
          have hr := lowV_range hx (n := c.wk + 1) (by omega)
          have HHI := Aside0.mk (And.intro hi0 hi1)
          clear hFS hI HK
          go_upto_region 14 with fail
          go_quiet ((go_at_call 25; exact Calls.quiet_of_same (low_calls _ _ _ (by omega) (by omega))))
          go_upto_region 15 with fail
          refine Rd.gen_wp (R := fun V => FS c q w.heap.size (w.heap.size + 1) bl w3.heap.size w ρ1 I blk1 S lv V) (HFS.out.fresh (pw_below_drewN (Below.refl _ _) _)) ?_
          clear x2 hx0 hw1 HFS
          rintro V hV
          have HV := Aside0.mk hV
          clear hV
          generalize lowV hx (c.wk + 1) = t at *
          rcases Mem.dec_or (0 < t) with ht | ht
          · have ht' : 0 < t := of_decide_eq_true ht
            go_upto_region 17 with (go_at_call 16; with_reducible refine (FS_Take HV.out HMY.out HI.out (by have := HHI.out; omega) (by omega)).mono ?_; rintro e w5 ⟨⟨v5, rfl⟩, h5⟩; have H5 := Aside0.mk h5; clear h5)
            obtain ⟨_, hI5⟩ := HI.out.hello HHI.out.1 hle1 (k := t) (by omega)
            have HI5 := Aside0.mk hI5
            have hn5 := hI5.now
            have HN5 := Aside0.mk hn5
            have ht6 : t.toNat < 6 := by omega
            have z : w5.cell? ⟨bl, t.toNat, none⟩ = some (.int .i64 (lv t.toNat)) := last_cell H5.out.hl ht6
            have fz := blk_frozen H5.out.hl t.toNat
            have ht5 : t < 6 := by omega
            have ht0 : 0 ≤ t := by omega
            clear hI5 hn5
            go_upto_region 18 with (go_at_call 18; with_reducible refine (FS_Now H5.out HN5.out).mono ?_; rintro e w6 ⟨rfl, hw⟩; obtain rfl := hw.symm)
            refine Rd.gen_wp (R := fun V => FS c q w.heap.size (w.heap.size + 1) bl w3.heap.size w ρ1 I blk1 (S.hello c t 1) (updI lv t.toNat i) V) (H5.out.put hge.out.2.1 hge.out.2.2 hge.out.1 ht6 i) ?_
            clear z fz
            rintro V6 hV6
            have HV6 := Aside0.mk hV6
            clear hV6
            go_wp2_with (go_at_call 23; refine (FS_Tick HV6.out (by rw [HN5.out]; omega)).mono ?_; rintro e w7 ⟨rfl, h7⟩; have H7 := Aside0.mk h7; clear h7)
            go_roundw
            case rel => exact ⟨i + 1, rfl, by omega, by omega, ⟨⟨_, _, _, _, H7.out, HI5.out.tick (by omega)⟩⟩⟩
            case measure => simp [intOf]; omega
          · go_wp2_with (go_at_call 23; refine (FS_Tick HV.out (by rw [HI.out.now]; omega)).mono ?_; rintro e w7 ⟨rfl, h7⟩; have H7 := Aside0.mk h7; clear h7)
            go_roundw
            case rel => exact ⟨i + 1, rfl, by omega, by omega, ⟨⟨_, _, _, _, H7.out, HI.out.tick (by omega)⟩⟩⟩
            case measure => simp [intOf]; omega
        · have hge2 : ¬ i < heard.length := by simpa using hlt
          have hin : Aside0 (∃ S lv ρ1 blk1, FS c q w.heap.size (w.heap.size + 1) bl w3.heap.size w ρ1 I blk1 S lv wr ∧ HInv c (i + 0) S lv) := by rw [Int.add_zero]; exact HK
          clear HK
          have hwr := lowV_range wait (n := 30) (by omega)
          have hi20 : i ≤ 20 := by omega
          go_wp2
          go_loopw [15] (fun v wr => ∃ j : Int, v = .int .i64 j ∧ 0 ≤ j ∧ j ≤ lowV wait 30 ∧ Aside0 (∃ S lv ρ1 blk1, FS c q w.heap.size (w.heap.size + 1) bl w3.heap.size w ρ1 I blk1 S lv wr ∧ HInv c (i + j) S lv)) (fun v _ => (lowV wait 30).toNat - (intOf v).toNat)
          case atStart => exact ⟨0, rfl, by omega, by omega, hin⟩
          case round =>
            obtain ⟨j, rfl, hj0, hj1, HK⟩ := hrel
            obtain ⟨S, lv, ρ1, blk1, hFS, hI⟩ := HK.out
            have HFS := Aside0.mk hFS
            have HI := Aside0.mk hI
            clear HK hFS hI hin
            rcases Mem.dec_or (j < lowV wait 30) with hlt | hlt
            · have hlt' : j < lowV wait 30 := of_decide_eq_true hlt
              go_wp2_with (first
                | (go_at_call 25; refine (low_calls wait 30 _ (by omega) (by omega)).mono ?_; rintro e w6 ⟨rfl, hw⟩; obtain rfl := hw.symm)
                | (go_at_call 23; refine (FS_Tick HFS.out (by rw [HI.out.now]; omega)).mono ?_; rintro e w7 ⟨rfl, h7⟩; have H7 := Aside0.mk h7; clear h7))
              go_roundw
              case rel => exact ⟨j + 1, rfl, by omega, by omega, ⟨⟨_, _, _, _, H7.out, by rw [← Int.add_assoc]; exact HI.out.tick (by omega)⟩⟩⟩
              case measure => simp [intOf]; omega
            · have hj : ¬ j < lowV wait 30 := by simpa using hlt
              go_upto_region 23 with (go_at_call 25; refine (low_calls wait 30 _ (by omega) (by omega)).mono ?_; rintro e w6 ⟨rfl, hw⟩; obtain rfl := hw.symm)
              have y0 : wr.cell? ⟨w.heap.size + 1, 0, none⟩ = some (.string q.f0) := (blk_cell HFS.out.h5 0).trans rfl
              have y1 : wr.cell? ⟨w.heap.size + 1, 1, none⟩ = some (.int .i64 q.f1) := (blk_cell HFS.out.h5 1).trans rfl
              have y2 : wr.cell? ⟨w.heap.size + 1, 2, none⟩ = some (.int .i64 q.f2) := (blk_cell HFS.out.h5 2).trans rfl
              have hnn : 0 ≤ i + j ∧ i + j ≤ 1000000 := by omega
              go_upto_region 26 with (first
                | (go_at_call 17; with_reducible refine (FS_Submit HFS.out HMY.out HI.out hq HMQ.out).mono ?_; rintro e w6 ⟨A6, k6, m6, ρ6, blk6, rfl, h6⟩; have H6 := Aside0.mk h6; clear h6 y0 y1 y2)
                | (go_at_call 20; with_reducible refine (FS_Wake H6.out HMY.out HI.out hnn HMQ.out 0).mono ?_; rintro e w7 ⟨A7, k7, ρ7, blk7, S7, rfl, h7, ht7, hn7, hC7⟩; have H7 := Aside0.mk h7; have HT7 := Aside0.mk ht7; have HN7 := Aside0.mk hn7; have HC7 := Aside0.mk hC7; clear h7 ht7 hn7 hC7)
                | (go_at_call 26; with_reducible refine (FS_Told H7.out HI.out HMQ.out HT7.out).mono ?_; rintro e w8 ⟨⟨t8, A8, k8, b8, rfl, hb8b⟩, hb8⟩; have HB8 := Aside0.mk hb8b; clear hb8b; have H8 := Aside0.mk (H7.out.fresh hb8); have HC8 := Aside0.mk (Kd.C_below HC7.out hb8); clear hb8))
              have HGE7 := Aside0.mk H8.out.bel.size
              have HNL := Aside0.mk (fun h => lets_nil (c := c) (S := S) (q := q) h)
              have HFE : Aside0 (flL c S q (c.cuts.length + 1) = (lets c S q).length) := ⟨flL_end c S q⟩
              have HAT : Aside0 (∀ s x, s < c.cuts.length + 1 → seg c S q s = [x] → flL c S q s < (lets c S q).length ∧ lt_ (lets c S q) (flL c S q s) = x) := ⟨fun s x h1 h2 => flL_at h1 h2⟩
              generalize lets c S q = ls at *
              generalize i + j = nn at *
              cases b8
              rotate_left
              · have hls : ls = [] := HNL.out (HB8.out.1 rfl)
                subst hls
                go_wp2_with (go_at_call 14; refine (awake_calls _).mono ?_; rintro e w9 ⟨rfl, hb⟩; have HB9 := Aside0.mk (below_step (below_alloc H8.out.bel _) hb); clear hb)
                go_ret
                exact ⟨rfl, HB9.out⟩
              · go_upto_region 28 with fail
                have H9 := Aside0.mk (H8.out.fresh (below_alloc (Below.refl _ _) (.cells #[.int .i64 t8.f0, .string t8.f1.f0, .int .i64 t8.f1.f1, .int .i64 t8.f1.f2, .slice A8 0 k8, .bool false, .bool t8.f4] 58 (0, 0))))
                have HC9 := Aside0.mk (Kd.C_below HC8.out (below_alloc (Below.refl _ _) (.cells #[.int .i64 t8.f0, .string t8.f1.f0, .int .i64 t8.f1.f1, .int .i64 t8.f1.f2, .slice A8 0 k8, .bool false, .bool t8.f4] 58 (0, 0))))
                refine Rd.gen_wp (R := fun V => FS c q w.heap.size (w.heap.size + 1) bl w3.heap.size w ρ7 I blk7 S7 lv V ∧ Kd.C kLet V A7 ls.length ls) ⟨H9.out, HC9.out⟩ ?_
                clear H9 HC9 H8 HC8 H7 HC7 H6 HFS
                rintro V9 ⟨h9, hc9⟩
                have H9 := Aside0.mk h9
                have HC9 := Aside0.mk hc9
                clear h9 hc9
                go_wp2
                have hcu := HMY.out.2.1.1
                go_loopw [22, 23] (fun v22 v wr => ∃ s : Int, v = .int .i64 s ∧ v22 = .int .i64 (flL c S q s.toNat) ∧ 0 ≤ s ∧ s ≤ c.cuts.length + 1 ∧ Aside0 (FS c q w.heap.size (w.heap.size + 1) bl w3.heap.size w ρ7 I blk7 S7 lv wr ∧ Kd.C kLet wr A7 ls.length ls)) (fun _ v _ => c.cuts.length + 1 - (intOf v).toNat)
                case atStart => exact ⟨0, rfl, rfl, by omega, by omega, ⟨H9.out, HC9.out⟩⟩
                case round =>
                  obtain ⟨s, rfl, rfl, hs0, hs1, HK⟩ := hrel
                  obtain ⟨hFS, hCL⟩ := HK.out
                  have HFS := Aside0.mk hFS
                  have HCL := Aside0.mk hCL
                  obtain ⟨x0, x1, x2, x3, x4, x5, x6, x7, x8, x9, x10, x11⟩ := Cfg.read hFS.h4
                  have hat := Aside0.mk (HC.out.below hFS.bel)
                  clear HK H9 HC9 hFS hCL
                  have hfl := flL_le (c := c) (S := S) (q := q) s.toNat
                  rcases Mem.dec_or (s < c.cuts.length + 1) with hlt | hlt
                  · have hlt' : s < c.cuts.length + 1 := of_decide_eq_true hlt
                    go_upto_region 32 with (go_at_call 21; with_reducible refine (place_Shards c _ hat.out HMY.out).mono ?_; rintro e w10 ⟨rfl, hb⟩; have H10 := Aside0.mk (HFS.out.fresh hb); have HCL10 := Aside0.mk (Kd.C_below HCL.out hb); have HAT10 := Aside0.mk (hat.out.below hb); clear hb x0 x1 x2 x3 x4 x5 x6 x7 x8 x9 x10 x11)
                    have h4c : Aside0 (∀ W, FS c q w.heap.size (w.heap.size + 1) bl w3.heap.size w ρ7 I blk7 S7 lv W → W.cell? ⟨w.heap.size + 1, 0, none⟩ = some (.string q.f0) ∧ W.cell? ⟨w.heap.size, 1, none⟩ = some (.slice c.A1 c.cuts.length c.c1)) := ⟨fun W h => ⟨(blk_cell h.h5 0).trans rfl, (Cfg.read h.h4).2.1⟩⟩
                    have H10d := Aside0.mk (H10.out.fresh (below_drew1 (Below.refl _ _)))
                    have HCL10d := Aside0.mk (Kd.C_below HCL10.out (below_drew1 (Below.refl _ _)))
                    have HAT10d := Aside0.mk (HAT10.out.below (below_drew1 (Below.refl _ _)))
                    have htl := tlen_range q.f0
                    have hs2 : s ≤ c.cuts.length := by omega
                    have hcs : Aside0 (((s.toNat : Nat) : Int) = s) := ⟨by omega⟩
                    obtain ⟨d, hd⟩ : ∃ d, d = leastD c.cuts s (tlen q.f0) := ⟨_, rfl⟩
                    have HD := Aside0.mk hd
                    clear hd H10 HCL10 HAT10
                    have hcases : (decide (d < 0) = true) ∨ (decide (d < 0) = false ∧ decide (q.f1 < d) = true) ∨ (decide (d < 0) = false ∧ decide (q.f1 < d) = false) := by
                      rcases Mem.dec_or (d < 0) with h1 | h1
                      · exact .inl h1
                      · rcases Mem.dec_or (q.f1 < d) with h2 | h2
                        · exact .inr (.inl ⟨h1, h2⟩)
                        · exact .inr (.inr ⟨h1, h2⟩)
                    go_region_held3 (fun W => W.cell? ⟨w.heap.size + 1, 0, none⟩ = some (.string q.f0) ∧ W.cell? ⟨w.heap.size, 1, none⟩ = some (.slice c.A1 c.cuts.length c.c1))
                      (first
                        | exact h4c.out _ H10d.out
                        | exact h4c.out _ H11.out
                        | exact h4c.out _ H12.out
                        | go_keep)
                      ((first
                        | (go_simp; go_at_call 28; refine (text_Len q.f0 _ hq).mono ?_; rintro e w11 ⟨rfl, hb⟩; have H11 := Aside0.mk (H10d.out.fresh hb); have HCL11 := Aside0.mk (Kd.C_below HCL10d.out hb); have HAT11 := Aside0.mk (HAT10d.out.below hb); clear hb)
                        | (go_simp; go_at_call 27; refine (part_Least c.A1 c.c1 c.cuts s (tlen q.f0) _ HAT11.out.cuts HAT11.out.c_cap HMY.out.2.1 hs0 hs2 (by omega)).mono ?_; rintro e w12 ⟨rfl, hb⟩; rw [← HD.out]; have H12 := Aside0.mk (H11.out.fresh hb); have HCL12 := Aside0.mk (Kd.C_below HCL11.out hb); have HAT12 := Aside0.mk (HAT11.out.below hb); clear hb)))
                    all_goals
                      go_upto_region 33 with fail
                      have q1 : w12.cell? ⟨w.heap.size + 1, 1, none⟩ = some (.int .i64 q.f1) := (blk_cell H12.out.h5 1).trans rfl
                      rcases hcases with hd0 | ⟨hd0, hd1⟩ | ⟨hd0, hd1⟩
                      · have hseg : Aside0 (flL c S q (s + 1).toNat = flL c S q s.toNat) := ⟨by
                          have h1 : wantB c q s.toNat = false := wantB_no (.inl (by rw [hcs.out, ← HD.out]; exact of_decide_eq_true hd0))
                          rw [show (s + 1).toNat = s.toNat + 1 by omega, flL_succ, seg_no h1]; rfl⟩
                        go_wp2
                        go_roundw
                        case rel => exact ⟨s + 1, rfl, by rw [hseg.out], by omega, by omega, ⟨H12.out, HCL12.out⟩⟩
                        case measure => simp [intOf]; omega
                      · have hseg : Aside0 (flL c S q (s + 1).toNat = flL c S q s.toNat) := ⟨by
                          have h1 : wantB c q s.toNat = false := wantB_no (.inr (by rw [hcs.out, ← HD.out]; exact of_decide_eq_true hd1))
                          rw [show (s + 1).toNat = s.toNat + 1 by omega, flL_succ, seg_no h1]; rfl⟩
                        go_wp2
                        go_roundw
                        case rel => exact ⟨s + 1, rfl, by rw [hseg.out], by omega, by omega, ⟨H12.out, HCL12.out⟩⟩
                        case measure => simp [intOf]; omega
                      · have hwant : Aside0 (wantB c q s.toNat = true) := ⟨wantB_yes (by rw [hcs.out, ← HD.out]; simp at hd0; omega) (by rw [hcs.out, ← HD.out]; simp at hd1; omega)⟩
                        obtain ⟨x0, x1, x2, x3, x4, x5, x6, x7, x8, x9, x10, x11⟩ := Cfg.read H12.out.h4
                        go_wp2_with fail
                        refine (place_Copies c s _ HAT12.out HMY.out hs0 hs2).mono ?_
                        rintro e w13 ⟨v13, rfl, hR13, hb13⟩
                        obtain ⟨A13, c13, hv13⟩ := Kd.R_slice hR13
                        subst hv13
                        have H13 := Aside0.mk (H12.out.fresh hb13)
                        have HCL13 := Aside0.mk (Kd.C_below HCL12.out hb13)
                        have HK13 := Aside0.mk (Kd.R_reads' hR13).2.2
                        have hcl := copies_len c s
                        have hcin : Aside0 (∀ x ∈ c.copies s, 1 ≤ x ∧ x ≤ c.wk) := ⟨fun x hx => copies_in HMY.out hs0 hx⟩
                        have hcop : Aside0 (c.copies ((s.toNat : Nat) : Int) = c.copies s) := ⟨by rw [hcs.out]⟩
                        have hl1 : 1 ≤ (c.copies s).length := by omega
                        have hl3 : (c.copies s).length ≤ 3 := by omega
                        clear hcl hb13 hR13 x0 x1 x2 x3 x4 x5 x6 x7 x8 x9 x10 x11 q1 hd0 hd1
                        generalize c.copies s = l at *
                        obtain ⟨ad13, hA13, hx0⟩ := Kd.at_int HK13.out 0 (by omega) (by omega)
                        subst hA13
                        have hl0 : 0 < l.length := by omega
                        have hx00 : w13.cell? ad13 = some (.int .i64 (rdI l 0)) := by rw [← add0 ad13]; exact hx0
                        clear hx0
                        go_upto_region 37 with fail
                        have hg0 : rdI l 0 = gto S.L nn l (l.length : Int) := (gto_end S.L nn l).symm
                        have hgl : (l.length : Int) - 1 + 1 = l.length := by omega
                        have HST : Aside0 (rdI l 0 = gto S.L nn l ((l.length : Int) - 1 + 1)) := ⟨by rw [hgl]; exact hg0⟩
                        clear hg0 hgl hx00
                        go_loopw [26, 27] (fun v26 v wr => ∃ j : Int, v = .int .i64 j ∧ v26 = .int .i64 (gto S.L nn l (j + 1)) ∧ -1 ≤ j ∧ j ≤ (l.length : Int) - 1 ∧ Aside0 (Below w13.heap.size w13 wr)) (fun _ v _ => (intOf v + 1).toNat)
                        case atStart => exact ⟨(l.length : Int) - 1, rfl, congrArg (Value.int .i64) HST.out, by omega, by omega, ⟨Below.refl _ _⟩⟩
                        case round =>
                          obtain ⟨j2, rfl, rfl, hj20, hj21, HK2⟩ := hrel
                          have HFr := Aside0.mk (H13.out.fresh HK2.out)
                          rcases Mem.dec_or (0 ≤ j2) with hj2 | hj2
                          · have hj2' : 0 ≤ j2 := of_decide_eq_true hj2
                            have hj2l : j2 < l.length := by omega
                            obtain ⟨adx, hAx, hxx⟩ := Kd.at_int (Kd.C_below HK13.out HK2.out) j2 hj2' hj2l
                            cases hAx
                            have hxx2 : wr.cell? (ad13.add j2.toNat) = some (.int .i64 (rdI l j2)) := hxx
                            have hxin := hcin.out _ (rd_in hj2' hj2l)
                            have hstep : Aside0 (gto S.L nn l j2 = if liveB S.L nn (rdI l j2) = true then rdI l j2 else gto S.L nn l (j2 + 1)) := ⟨gto_step S.L nn l hj2' hj2l⟩
                            have hlive := HI.out.live hxin
                            clear hxx
                            generalize rdI l j2 = x at *
                            have hx6 : x.toNat < 6 := by omega
                            have hx5 : x < 6 := by omega
                            have hx0 : 0 ≤ x := by omega
                            have zl : wr.cell? ⟨bl, x.toNat, none⟩ = some (.int .i64 (lv x.toNat)) := last_cell HFr.out.hl hx6
                            have x6 : wr.cell? ⟨w.heap.size, 6, none⟩ = some (.int .i64 c.le) := (Cfg.read HFr.out.h4).2.2.2.2.2.2.1
                            generalize lv x.toNat = y at *
                            rcases hlive with ⟨hy, hlf, hep⟩ | ⟨hy0, hy1, hlf, hep⟩
                            · have hy0 : decide (0 ≤ y) = false := by simp; omega
                              have HNX : Aside0 (gto S.L nn l (j2 - 1 + 1) = gto S.L nn l (j2 + 1)) := ⟨by rw [Int.sub_add_cancel, hstep.out, hlf]; rfl⟩
                              clear hlf hep hxin hy hstep
                              go_upto_region 39 with fail
                              go_quiet ((go_at_call 18; exact Calls.quiet_of_same (FS_Now (HFr.out.fresh (pw_below_drewN (Below.refl _ _) _)) HN7.out)))
                              go_wp2
                              exact ⟨⟨j2 - 1, rfl, by rw [HNX.out], by omega, by omega, ⟨pw_below_drewN HK2.out _⟩⟩, by simp [intOf]; omega⟩
                            · have hy2 : decide (0 ≤ y) = true := by simp; omega
                              have hw2 : IntKind.i64.wrap (y + c.le) = y + c.le := IntWalk.i64_in _ (by omega)
                              rcases Mem.dec_or (nn ≤ y + c.le) with hlv | hlv
                              · have HNX : Aside0 (gto S.L nn l (j2 - 1 + 1) = x) := ⟨by rw [Int.sub_add_cancel, hstep.out, hlf, hlv]; rfl⟩
                                clear hlf hep hxin hy0 hstep
                                go_upto_region 39 with fail
                                go_quiet ((go_at_call 18; exact Calls.quiet_of_same (FS_Now (HFr.out.fresh (pw_below_drewN (Below.refl _ _) _)) HN7.out)))
                                go_wp2
                                exact ⟨⟨j2 - 1, rfl, by rw [HNX.out], by omega, by omega, ⟨pw_below_drewN HK2.out _⟩⟩, by simp [intOf]; omega⟩
                              · have HNX : Aside0 (gto S.L nn l (j2 - 1 + 1) = gto S.L nn l (j2 + 1)) := ⟨by rw [Int.sub_add_cancel, hstep.out, hlf, hlv]; rfl⟩
                                clear hlf hep hxin hy0 hstep
                                go_upto_region 39 with fail
                                go_quiet ((go_at_call 18; exact Calls.quiet_of_same (FS_Now (HFr.out.fresh (pw_below_drewN (Below.refl _ _) _)) HN7.out)))
                                go_wp2
                                exact ⟨⟨j2 - 1, rfl, by rw [HNX.out], by omega, by omega, ⟨pw_below_drewN HK2.out _⟩⟩, by simp [intOf]; omega⟩
                          · have hj3 : j2 = -1 := by simp at hj2; omega
                            subst hj3
                            have hto : gto S.L nn l (-1 + 1) = gto S.L nn l 0 := rfl
                            rw [hto]
                            have hxin := hcin.out _ (gto_in S.L nn l hl1)
                            have hlive := HI.out.live hxin
                            have HSE : Aside0 ((S.L (gto S.L nn l 0).toNat).epoch = 0 → flL c S q (s + 1).toNat = flL c S q s.toNat) := ⟨fun he => by
                              rw [show (s + 1).toNat = s.toNat + 1 by omega, flL_succ, seg_mute hwant.out (by rw [hcop.out]; exact hl1) (by rw [hcop.out, HI.out.now]; exact he)]
                              rfl⟩
                            have HSE2 : Aside0 ((S.L (gto S.L nn l 0).toNat).epoch ≠ 0 → flL c S q (s + 1).toNat = flL c S q s.toNat + 1 ∧ flL c S q s.toNat < ls.length ∧ (lt_ ls (flL c S q s.toNat)).dest = gto S.L nn l 0) := ⟨fun he => by
                              obtain ⟨m, hm⟩ := seg_one (c := c) (S := S) (q := q) (i := s.toNat) hwant.out (by rw [hcop.out]; exact hl1) (by rw [hcop.out, HI.out.now]; exact he)
                              obtain ⟨a1, a2⟩ := HAT.out s.toNat _ (by omega) hm
                              refine ⟨?_, a1, ?_⟩
                              · rw [show (s + 1).toNat = s.toNat + 1 by omega, flL_succ, hm]
                                rfl
                              · rw [a2, hcop.out, HI.out.now]⟩
                            generalize gto S.L nn l 0 = x at *
                            have hx6 : x.toNat < 6 := by omega
                            have hx5 : x < 6 := by omega
                            have hx0 : 0 ≤ x := by omega
                            have zl : wr.cell? ⟨bl, x.toNat, none⟩ = some (.int .i64 (lv x.toNat)) := last_cell HFr.out.hl hx6
                            generalize lv x.toNat = y at *
                            have HCLr := Aside0.mk (Kd.C_below HCL13.out HK2.out)
                            rcases hlive with ⟨hy, hlf, hep⟩ | ⟨hy0, hy1, hlf, hep⟩
                            · have hy0 : decide (y < 0) = true := by simp; omega
                              have HNX := Aside0.mk (HSE.out hep)
                              clear hlf hep hxin hy HSE HSE2
                              go_wp2
                              go_roundw
                              case rel => exact ⟨s + 1, rfl, by rw [HNX.out], by omega, by omega, ⟨HFr.out, HCLr.out⟩⟩
                              case measure => simp [intOf]; omega
                            · have hy2 : decide (y < 0) = false := by simp; omega
                              obtain ⟨hn1, hn2, hn3⟩ := HSE2.out hep
                              have HNX := Aside0.mk hn1
                              have hflb : decide (ls.length ≤ flL c S q s.toNat) = false := by simp; omega
                              have hfl0 : 0 ≤ ((flL c S q s.toNat : Nat) : Int) := by omega
                              have hfl1 : ((flL c S q s.toNat : Nat) : Int) < ls.length := by omega
                              obtain ⟨adl, hAl, hd1, hd2⟩ := at_let HCLr.out (flL c S q s.toNat : Nat) hfl0 hfl1
                              subst hAl
                              rw [hn3, Int.toNat_natCast] at hd1
                              clear hlf hep hxin HSE HSE2 hn1 hn3 hd2
                              generalize flL c S q s.toNat = fl at *
                              go_wp2
                              exact ⟨⟨s + 1, rfl, by rw [HNX.out]; go_num, by omega, by omega, ⟨HFr.out, HCLr.out⟩⟩, by simp [intOf]; omega⟩
                  · have hge3 : s = c.cuts.length + 1 := by simp at hlt; omega
                    have hfe : flL c S q s.toNat = ls.length := by rw [← HFE.out, hge3]; congr 1
                    rw [hfe]
                    clear hfe
                    go_wp2_with (first
                      | (go_at_call 21; with_reducible refine (place_Shards c _ hat.out HMY.out).mono ?_; rintro e w10 ⟨rfl, hb⟩; have H10 := Aside0.mk (HFS.out.fresh hb); clear hb x0 x1 x2 x3 x4 x5 x6 x7 x8 x9 x10 x11)
                      | (go_at_call 14; refine (awake_calls _).mono ?_; rintro e w11 ⟨rfl, hb⟩; have HB11 := Aside0.mk (below_step H10.out.bel hb); clear hb))
                    go_ret
                    exact ⟨rfl, HB11.out⟩
end Go.Proofs.YthbngidbfhcdaaaGreat.C
