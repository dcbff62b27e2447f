/- Texts of this proof, joined: part 4. -/
import Derived.Test.YthbngidbfhcdaaaGreatCRo3
set_option linter.unusedVariables false
set_option linter.unusedSimpArgs false
/- coord.Submit, walked. -/
namespace Go.Proofs.YthbngidbfhcdaaaGreat.C
open Go.RowKit Go.Maps Go.Proofs.YthbngidbfhcdaaaGreat.Mem Go.Proofs.YthbngidbfhcdaaaGreatW.PrintWords Go.Proofs.YthbngidbfhcdaaaGreat.PCoordScript
set_option linter.unusedVariables false
set_option linter.unusedSimpArgs false
theorem new_left (c : Cfg) (q : S40) : (newMg c q).left = 0 := by
  show ((((leasts c q (c.cuts.length + 1)).map newSh).map fun x => x.f5.length).sum) = 0
  generalize leasts c q (c.cuts.length + 1) = l
  induction l with
  | nil => rfl
  | cons a l ih =>
    rw [List.map_cons, List.map_cons, List.sum_cons, ih]
    rfl
theorem new_tell (c : Cfg) (q : S40) : (newMg c q).tell = ([], newMg c q) := by
  unfold Mg.tell
  rw [new_left]
  rfl
/-- The coordinator's cells, the query's box, what a slot's number is: where the submitting stands. -/
structure SubSt (c : Cfg) (base : Nat) (ρ : Nat → Own) (I : CoIds) (S : Co) (fof fat : Int → Option Int) (j : Nat) (q : S40) (w V : World) : Prop where
  sl : SlAt V I.s I.a I.b c.sl (S.last + 1) (S.live + 1) (upd fof (S.last + 1) (some (j : Int))) (upd fat j (some (S.last + 1)))
  only : Only (fun k => ρ k = .co 2 ∨ ρ k = .co 4 ∨ ρ k = .co 5) w V
  box : V.heap[w.heap.size]? = some (queryB q)
theorem CoRes.after {c : Cfg} {base : Nat} {ρ ρ' : Nat → Own} {I : CoIds} {S' : Co} {ls : List LetD} {w X w' : World} {v : Value} (hE : Ext ρ ρ' w) (hO : Only (fun k => ρ k ≠ .z) w X) (h : CoRes c base ρ' I S' ls X w' v) : CoRes c base ρ I S' ls w w' v := by
  obtain ⟨⟨ρ2, blk2, e1, e2, e3⟩, e4⟩ := h
  exact ⟨⟨ρ2, blk2, hE.trans e1 hO.size, e2, Kd.R_lower e3 hO.size⟩, hO.trans e4 fun k hk e => (hE.new k e).elim (fun h => h) fun h => absurd hk (Nat.not_lt.2 h)⟩
theorem new_ok (c : Cfg) (S : Co) (q : S40) (hlen : (S.told.length : Int) = S.last) (hl : S.last ≤ 999999) {j : Nat} (h5 : c.cuts.length ≤ 5) : QyOk (S.add c j q) (newQy c S q) := by
  refine ⟨?_, ?_, ?_, Nat.zero_le _, ?_⟩
  · show S.last + 1 ≤ 1000000
    omega
  · show ((leasts c q (c.cuts.length + 1)).map newSh).length ≤ 6
    rw [List.length_map, leasts_len]
    omega
  · show (newMg c q).left ≤ 1000
    rw [new_left]
    omega
  · show ((S.told ++ [newTold S q]).getD (S.last + 1 - 1).toNat z58).f2.length + (newMg c q).tell.1.length ≤ 100000
    rw [new_tell, show (S.last + 1 - 1).toNat = S.told.length by omega, List.getD_eq_getElem?_getD, List.getElem?_append_right (Nat.le_refl _), Nat.sub_self]
    exact Nat.zero_le _
theorem infoTold : (Tryz.prog.info? 58).map (fun i => (i.zero, i.size, i.bytes)) = some (some (.agg #[.int .i64 0, .string ⟨#[]⟩, .int .i64 0, .int .i64 0, .slice none 0 0, .bool false, .bool false]), 7, 72) := by kernel_rfl
/-- A query submitted: its parts are laid, its number has its block, its asker's row is longer by one. -/
theorem CoAt.sub_done {c : Cfg} {base : Nat} {ρ : Nat → Own} {I : CoIds} {blk : Int → Nat} {S : Co} {w V W W2 W3 w6 : World} (h : CoAt c base ρ I blk S w) {q : S40} {j b g gs cap : Nat} {dv v6 : Value} {fof fat : Int → Option Int} {fq : Int → Option Nat} (hj : j < 4) (hjs : j < c.sl.toNat) (hf : S.Q j = none)
    (hV : SubSt c base ρ I S fof fat j q w V) (hf1 : ∀ id, fof id = (S.slot id).map fun s : Nat => (s : Int)) (hf2 : ∀ k : Int, fat k = if 0 ≤ k ∧ k < 4 then (S.Q k.toNat).map fun y => y.id else none) (hq2 : ∀ id, fq id = (S.slot id).map fun _ => blk id)
    (hVW : Below V.heap.size V W) (hb : W.heap[b]? = some (QyB j (newQy c S q) g)) (hbge : w.heap.size ≤ b) (hg : W.heap[g]? = some (MergeB q.f2 (shSl gs (leasts c q (c.cuts.length + 1)).length cap) (.slice none 0 0))) (hgge : w.heap.size ≤ g)
    (hr : Kd.R kNew 235 W base (fun _ => True) (shSl gs (leasts c q (c.cuts.length + 1)).length cap) (leasts c q (c.cuts.length + 1))) (hgs : w.heap.size ≤ gs)
    (hm2 : MapAt Tryz.prog 3 encP W2 I.m (S.live + 1) (upd fq (S.last + 1) (some b))) (hg2 : W.grownBy W2 (some I.m)) (h3 : W3.heap = W2.heap ∧ W3.os = W2.os ∧ W3.tape = W2.tape ∧ W3.output = W2.output) (hco : W3.heap[I.x]? = some (CoB (c.bare I.A1 I.c1) I.cv S.now (.pointer (some ⟨I.l, 0, none⟩)) (.pointer (some ⟨I.s, 0, none⟩)) (.pointer (some ⟨I.t, 0, none⟩)) (.map (some I.m)) dv)) (hdk : ∀ k, dv.ownBlock = some k → ρ k = .co 7)
    (hg6 : W3.grownBy w6 dv.ownBlock) (hat : v6.ownBlock = dv.ownBlock ∨ ∃ b, v6.ownBlock = some b ∧ W3.heap.size ≤ b) (hrow : OwnRow (ToldR ρ w base) 58 7 w6 base v6 (S.told.zipIdx ++ [(newTold S q, S.told.length)])) :
    ∃ ρ', Ext ρ ρ' w ∧ CoAt c base ρ' I (updB blk (S.last + 1) b) (S.add c j q) (w6.setCell ⟨I.x, 18, none⟩ v6) ∧ Only (fun k => ρ k ≠ .z) w (w6.setCell ⟨I.x, 18, none⟩ v6) := by
  obtain ⟨r0, r1, r2, r3, r4, r5, r6⟩ := h.roles
  have hown : ∀ k, ρ k ≠ .z → k < w.heap.size := fun k hk => (h.own k hk).2
  have hwV := hV.only.size
  have hwW : w.heap.size ≤ W.heap.size := Nat.le_trans hwV hVW.size
  have hW23 : W2.heap.size = W3.heap.size := by rw [h3.1]
  have h23 : Only (fun _ => False) W2 W3 := ⟨h3.2.1, h3.2.2.1, h3.2.2.2, Nat.le_of_eq hW23, fun k _ _ => by rw [h3.1]⟩
  have ho : Only (fun k => ρ k = .co 0 ∨ ρ k = .co 2 ∨ ρ k = .co 4 ∨ ρ k = .co 5 ∨ ρ k = .co 6 ∨ ρ k = .co 7) w (w6.setCell ⟨I.x, 18, none⟩ v6) := by
    refine Only.set (p := ⟨I.x, 18, none⟩) (((((hV.only.mono fun k _ hk => ?_).next (Only.fresh hVW _)).next (Only.grown hg2 fun k hk _ => ?_)).trans h23 fun _ _ f => f.elim).next (Only.grown hg6 fun k hk _ => ?_)) (fun _ => .inl r0) _
    · rcases hk with hk | hk | hk
      · exact .inr (.inl hk)
      · exact .inr (.inr (.inl hk))
      · exact .inr (.inr (.inr (.inl hk)))
    · cases hk
      exact .inr (.inr (.inr (.inr (.inl r6))))
    · exact .inr (.inr (.inr (.inr (.inr (hdk k hk)))))
  have hmv : ∀ k, k < W.heap.size → k ≠ I.x → k ≠ I.m → dv.ownBlock ≠ some k → (w6.setCell ⟨I.x, 18, none⟩ v6).heap[k]? = W.heap[k]? := fun k hk h1 h2 h4 => by
    rw [Below.heap_setCell _ _ _ _ h1, hg6.block k (by rw [← hW23]; exact Nat.lt_of_lt_of_le hk hg2.size) (fun e => h4 e.symm), h3.1]
    exact hg2.block k hk fun e => h2 (Option.some.inj e)
  have hmx : I.x < w.heap.size := hown _ (by rw [r0]; simp)
  have hmm : I.m < w.heap.size := hown _ (by rw [r6]; simp)
  have hdl : ∀ k, dv.ownBlock = some k → k < w.heap.size := fun k hk => hown k (by rw [hdk k hk]; simp)
  have hnew : ∀ k, k < W.heap.size → w.heap.size ≤ k → (w6.setCell ⟨I.x, 18, none⟩ v6).heap[k]? = W.heap[k]? := fun k hk hk2 => hmv k hk (by omega) (by omega) fun e => by have := hdl k e; omega
  have hne : ∀ {k : Nat} {r : Own}, ρ k = r → r ≠ .co 0 → r ≠ .co 6 → r ≠ .co 7 → r ≠ .z → (w6.setCell ⟨I.x, 18, none⟩ v6).heap[k]? = V.heap[k]? := fun {k r} hr h1 h2 h4 h0 => by
    have hk := hown k (by rw [hr]; exact h0)
    refine (hmv k (Nat.lt_of_lt_of_le hk hwW) ?_ ?_ fun e => ?_).trans (hVW.block k (Nat.lt_of_lt_of_le hk hwV))
    · rintro rfl; exact h1 (hr.symm.trans r0)
    · rintro rfl; exact h2 (hr.symm.trans r6)
    · exact h4 (hr.symm.trans (hdk k e))
  have hgsl : gs < W.heap.size := by
    obtain ⟨inner, hro⟩ := Kd.R_own hr
    exact own_lt hro gs rfl
  have hxb : w6.heap[I.x]? = some (CoB (c.bare I.A1 I.c1) I.cv S.now (.pointer (some ⟨I.l, 0, none⟩)) (.pointer (some ⟨I.s, 0, none⟩)) (.pointer (some ⟨I.t, 0, none⟩)) (.map (some I.m)) dv) := blk_grown hco hg6 fun e => by
    have := hdk _ e.symm
    rw [r0] at this
    cases this
  have hvx : v6.ownBlock ≠ some I.x := fun e => by
    rcases hat with hat | ⟨k, hat, hk⟩
    · have := hdk _ (hat.symm.trans e)
      rw [r0] at this
      cases this
    · rw [hat] at e
      cases e
      have := hg2.size
      omega
  obtain ⟨ρ', e1, e2⟩ := CoAt.add h (vd := v6) hj hjs hf ho (blk_put hxb 18 _ rfl) (hV.sl.move (hne r2 (by simp) (by simp) (by simp) (by simp)) (hne r4 (by simp) (by simp) (by simp) (by simp)) (hne r5 (by simp) (by simp) (by simp) (by simp))) hf1 hf2
    (hm2.keep (by
      rw [Below.heap_setCell _ _ _ _ (show I.m ≠ I.x from fun e => by rw [e, r0] at r6; cases r6), hg6.block I.m (by rw [← hW23]; exact Nat.lt_of_lt_of_le (Nat.lt_of_lt_of_le hmm hwW) hg2.size) (fun e => by have := hdk _ e.symm; rw [r6] at this; cases this), h3.1])) hq2
    ((hnew b (blk_lt hb) hbge).trans hb) hbge ((hnew g (blk_lt hg) hgge).trans hg) hgge (by
      obtain ⟨_, inner, hro, hrr⟩ := hr
      exact ⟨fun _ _ => trivial, inner, own_move hro fun k hk => by cases hk; exact hnew gs hgsl hgs, hrr⟩) hgs (by
      rw [List.zipIdx_append]
      obtain ⟨inner, hro, hrr⟩ := hrow
      refine ⟨inner, own_move ?_ fun k hk => Below.heap_setCell _ _ _ _ fun e => hvx (by rw [e] at hk; exact hk), ?_⟩
      · simpa using hro
      · simpa using hrr) (fun k hk => by
      rcases hat with hat | ⟨k', hat, hk'⟩
      · exact .inl (hdk k (hat.symm.trans hk))
      · rw [hat] at hk
        cases hk
        have := hg2.size
        exact .inr (by omega))
  exact ⟨ρ', e1, e2, ho.mono fun k _ hk => by rcases hk with hk | hk | hk | hk | hk | hk <;> (rw [hk]; simp)⟩
set_option maxRecDepth 100000 in
set_option maxHeartbeats 4000000 in
theorem coord_Submit (c : Cfg) (base : Nat) (ρ : Nat → Own) (I : CoIds) (blk : Int → Nat) (S : Co) (q : S40) (j : Nat) (w : World) (h : CoAt c base ρ I blk S w) (hm : c.May) (hs : q.f0.size ≤ 9223372036854775807) (hq : mayQ q = true) (hj : j < c.sl.toNat) (hbusy : ∀ i, i < j → (S.Q i).isSome = true) (hfree : S.Q j = none) (hlive : ((S.live : Nat) : Int) < c.sl) (hl : S.last ≤ 999999) :
    Calls Tryz.prog 17 #[.pointer (some ⟨I.x, 0, none⟩), qval q] w fun e w' => ∃ v, e = .returned (.tuple #[.int .i64 3, .int .i64 (S.last + 1), v]) ∧ CoRes c base ρ I ((S.add c j q).goes c j (newQy c S q)) (goesL c j (newQy c S q)) w w' v := by
  obtain ⟨_, _, ⟨hsl1, hsl4⟩, _⟩ := hm.nums
  have h5 := hm.2.1.1
  obtain ⟨dv, hco, htold⟩ := h.co
  obtain ⟨Ad, cd, hdv, _⟩ := OwnRow.slice_ htold.row
  rw [List.length_zipIdx] at hdv
  subst hdv
  obtain ⟨fof, fat, hsl, hf1, hf2⟩ := h.sl
  obtain ⟨fq, hmq, hq2⟩ := h.qs
  obtain ⟨Ac, cc, hcv⟩ := Kd.R_slice h.copies
  rw [allCopies_len] at hcv
  obtain ⟨N, hN⟩ : ∃ N, N = c.cuts.length + 1 := ⟨_, rfl⟩
  rw [← hN] at hcv
  have hN6 : 1 ≤ N ∧ N ≤ 6 := by omega
  have hNl : N ≤ c.cuts.length + 1 := by omega
  have HN := Aside0.mk hN
  obtain ⟨hbc, hbcap, hbC⟩ := Kd.R_reads' h.cuts
  have hlen := h.len
  obtain ⟨r0, r1, r2, r3, r4, r5, r6⟩ := h.roles
  have hown : ∀ k, ρ k ≠ .z → k < w.heap.size := fun k hk => (h.own k hk).2
  have hbas : base ≤ w.heap.size := by have := h.own I.x (by rw [r0]; simp); omega
  have hlast : 0 ≤ S.last := by omega
  have hj4 : j < 4 := by omega
  have hbz : ∀ i : Nat, i < j → ∃ v, fat i = some v ∧ 0 < v := fun i hi => by
    obtain ⟨y, hy⟩ := Option.isSome_iff_exists.1 (hbusy i hi)
    have := h.top i y hy
    refine ⟨y.id, ?_, by omega⟩
    rw [hf2, if_pos (by omega), Int.toNat_natCast, hy]
    rfl
  have hfr : fat j = none := by rw [hf2, if_pos (by omega), Int.toNat_natCast, hfree]; rfl
  have hnew : fof (S.last + 1) = none := by
    rw [hf1]
    cases e : S.slot (S.last + 1) with
    | none => rfl
    | some s =>
      obtain ⟨h1, y, h2, h3⟩ := slot_some e
      have := h.top s y h2
      omega
  have hnewq : (fq (S.last + 1)).isSome = false := by
    rw [hq2]
    rw [hf1] at hnew
    cases e : S.slot (S.last + 1) with
    | none => rfl
    | some s => rw [e] at hnew; cases hnew
  have hne : (((S.live : Nat) : Int) == c.sl) = false := beq_eq_false_iff_ne.2 (by omega)
  have hlv : S.live < 1000 := by omega
  rw [hcv] at hco
  have HX : Aside0 (∀ W : World, W.heap[I.x]? = w.heap[I.x]? → W.heap[I.x]? = some (CoB (c.bare I.A1 I.c1) (.slice Ac N cc) S.now (.pointer (some ⟨I.l, 0, none⟩)) (.pointer (some ⟨I.s, 0, none⟩)) (.pointer (some ⟨I.t, 0, none⟩)) (.map (some I.m)) (.slice Ad S.told.length cd))) := ⟨fun W hW => hW.trans hco⟩
  have hxl := blk_lt hco
  have hb0 : Below w.heap.size w (w.alloc (queryB q)).drew := below_drew1 (below_alloc (Below.refl _ _) (queryB q))
  have HB0 := Aside0.mk hb0
  have HS : Aside0 ((w.alloc (queryB q)).drew.heap[w.heap.size]? = some (queryB q)) := ⟨blk_new _ _⟩
  have HCO := Aside0.mk (blk_below hco hb0)
  have HSL := Aside0.mk (hsl.fresh hb0)
  have HXs : Aside0 (∀ W : World, Only (fun i => i = I.s ∨ i = I.a ∨ i = I.b) (w.alloc (queryB q)).drew W → W.heap[I.x]? = w.heap[I.x]? ∧ W.heap[w.heap.size]? = some (queryB q) ∧ Only (fun k => ρ k = .co 2 ∨ ρ k = .co 4 ∨ ρ k = .co 5) w W) := ⟨fun W hW => by
    have ls := hown I.s (by rw [r2]; simp)
    have la := hown I.a (by rw [r4]; simp)
    have lb := hown I.b (by rw [r5]; simp)
    refine ⟨(hW.block _ (Nat.lt_of_lt_of_le hxl hb0.size) ?_).trans (hb0.block _ hxl), (hW.block _ (blk_lt HS.out) (by omega)).trans HS.out, (Only.fresh hb0 _).next (hW.mono fun k _ hk => ?_)⟩
    · rintro (e | e | e) <;> (rw [e] at r0; first | (rw [r2] at r0; cases r0) | (rw [r4] at r0; cases r0) | (rw [r5] at r0; cases r0))
    · rcases hk with rfl | rfl | rfl
      · exact .inl r2
      · exact .inr (.inl r4)
      · exact .inr (.inr r5)⟩
  have H := Aside0.mk h
  have HT := Aside0.mk htold
  have HF1 := Aside0.mk hf1
  have HF2 := Aside0.mk hf2
  have HMQ := Aside0.mk hmq
  have HQ2 := Aside0.mk hq2
  have HBZ := Aside0.mk hbz
  have HFR := Aside0.mk hfr
  have HNEW := Aside0.mk hnew
  have HNQ := Aside0.mk hnewq
  have HCV := Aside0.mk hcv
  have HBC := Aside0.mk hbC
  have HBusy := Aside0.mk hbusy
  have HR := Aside0.mk (And.intro r0 (And.intro r2 (And.intro r4 (And.intro r5 r6))))
  have HOWN := Aside0.mk hown
  have HLEN := Aside0.mk hlen
  clear h hco htold hsl hf1 hf2 hmq hq2 hbz hfr hnew hnewq hcv hbC hbusy r0 r1 r2 r3 r4 r5 r6 hb0 hown hN hlen
  go_enter Tryz.func17, Tryz.ntmps17
  go_upto_region 3 with fail
  go_region_held3 (fun W => W.heap[w.heap.size]? = some (queryB q) ∧ W.cell? ⟨w.heap.size, 0, none⟩ = some (.string q.f0) ∧ W.cell? ⟨w.heap.size, 1, none⟩ = some (.int .i64 q.f1) ∧ W.cell? ⟨w.heap.size, 2, none⟩ = some (.int .i64 q.f2) ∧ W.cell? ⟨I.x, 15, none⟩ = some (.pointer (some ⟨I.s, 0, none⟩)))
    (first
      | exact ⟨HS.out, (blk_cell HS.out 0).trans rfl, (blk_cell HS.out 1).trans rfl, (blk_cell HS.out 2).trans rfl, (blk_cell HCO.out 15).trans rfl⟩
      | exact ⟨HS2.out.box, (blk_cell HS2.out.box 0).trans rfl, (blk_cell HS2.out.box 1).trans rfl, (blk_cell HS2.out.box 2).trans rfl, (blk_cell HX2.out 15).trans rfl⟩
      | go_keep)
    ((go_simp; go_at_call 63; refine (submit_yes I.s I.a I.b c.sl S.last S.live fof fat q j _ HSL.out hs hq hne hlv ⟨hlast, by omega⟩ (by omega) HBZ.out HFR.out HNEW.out).mono ?_; rintro e w2 ⟨rfl, hs2, ho2⟩; obtain ⟨a1, a2, a3⟩ := HXs.out w2 ho2; have HS2 : Aside0 (SubSt c base ρ I S fof fat j q w w2) := ⟨⟨hs2, a3, a2⟩⟩; have HX2 := Aside0.mk (HX.out w2 a1); clear hs2 ho2 a1 a2 a3))
  all_goals
    go_upto_region 7 with fail
    refine Rd.gen_wp (R := fun V => SubSt c base ρ I S fof fat j q w V) (by first | exact HS2.out | exact ⟨HS2.out.sl.fresh (below_drew1 (Below.refl _ _)), HS2.out.only.drew, HS2.out.box⟩) ?_
    clear HS2 HX2
    rintro V hV
    have HV := Aside0.mk hV
    clear hV
    have hVx := HX.out V (HV.out.only.block _ hxl (by rw [HR.out.1]; simp))
    have HVX := Aside0.mk hVx
    have c12 : V.cell? ⟨I.x, 12, none⟩ = some (.slice Ac N cc) := (blk_cell hVx 12).trans rfl
    have HC1 : Aside0 (Kd.C k107 V I.A1 c.cuts.length c.cuts) := ⟨(Kd.R_reads' (Kd.R_step H.out.cuts fun k hk hl => HV.out.only.block k hl (by rw [hk]; simp))).2.2⟩
    have hVsz : Aside0 (w.heap.size + 1 ≤ V.heap.size) := ⟨blk_lt HV.out.box⟩
    clear hVx
    go_wp2
    go_loopw [10, 36] (fun v10 v wr => ∃ k : Nat, v = .int .i64 k ∧ k ≤ N ∧ Aside0 (Kd.R (Kd.int .i64) 3 wr V.heap.size (fun _ => True) v10 (leasts c q k) ∧ Below V.heap.size V wr)) (fun _ v _ => N - (intOf v).toNat)
    case atStart => exact ⟨0, rfl, by omega, ⟨Kd.R_nil _ _ _ _ _, Below.refl _ _⟩⟩
    case round =>
      obtain ⟨k, rfl, hk, HK⟩ := hrel
      obtain ⟨A3, c3, hv3⟩ := Kd.R_slice HK.out.1
      subst hv3
      clear c12
      have z0 : wr.cell? ⟨w.heap.size, 0, none⟩ = some (.string q.f0) := (blk_cell (blk_below HV.out.box HK.out.2) 0).trans rfl
      have z1 : wr.cell? ⟨w.heap.size, 1, none⟩ = some (.int .i64 q.f1) := (blk_cell (blk_below HV.out.box HK.out.2) 1).trans rfl
      have z2 : wr.cell? ⟨w.heap.size, 2, none⟩ = some (.int .i64 q.f2) := (blk_cell (blk_below HV.out.box HK.out.2) 2).trans rfl
      have hll : (leasts c q k).length = k := leasts_len c q k
      rcases Nat.lt_or_ge k N with hlt | hge
      · have hlt1 : decide (k < N) = true := decide_eq_true hlt
        have hlen : ((leasts c q k).length + 1) * 8 ≤ 140737488355328 := by omega
        have hsucc : Aside0 (leasts c q (k + 1) = leasts c q k ++ [wantD c.cuts k q]) := ⟨leasts_succ c q k⟩
        have HX1 : Aside0 (wr.cell? ⟨I.x, 1, none⟩ = some (.slice I.A1 c.cuts.length I.c1)) := ⟨(blk_cell (blk_below HVX.out HK.out.2) 1).trans rfl⟩
        have hk0 : (0 : Int) ≤ (k : Int) := by omega
        have hk1 : (k : Int) ≤ c.cuts.length := by omega
        clear hll
        generalize leasts c q k = ls at *
        go_wp2_with (first
          | (go_at_call 64; refine (coord_least c I.x I.A1 I.c1 k q _ HX1.out (Kd.C_below HC1.out HK.out.2) hbcap hm hk0 hk1 hs).mono ?_; rintro e w4 ⟨rfl, hb⟩; have HR4 := Aside0.mk (Kd.R_below HK.out.1 hb); have HB4 := Aside0.mk (below_weaken HK.out.2 HK.out.2.size hb); have hbs4 := HB4.out.size; clear hb)
          | (at_builtin; refine Kd.R_append (Kd.int .i64) (w0 := V) V.heap.size rfl (.tmp 39) (.tmp 44) 26 3 (.int .i64 0) 8 rfl Tryz.underlying26 info3 rfl (by decide) (by omega) (.slice A3 ls.length c3) ls (wantD c.cuts k q) [.int .i64 (wantD c.cuts k q)] (fun _ => True) (fun _ => False) rfl rfl rfl (fun _ h => h.elim) (fun _ _ => trivial) HR4.out HB4.out hbs4 hlen ?_; intro v' w' hr hb hg _; have HR5 := Aside0.mk hr; have HB5 := Aside0.mk hb; clear hr hb hg))
        refine ⟨⟨k + 1, by go_num, by omega, ⟨?_, HB5.out⟩⟩, by simp [intOf]; omega⟩
        rw [hsucc.out]
        exact HR5.out
      · obtain rfl : k = N := by omega
        have hlt1 : decide (k < k) = false := by simp
        have hfn : 1 ≤ q.f2 ∧ q.f2 ≤ 10 := by
          unfold mayQ at hq
          simp only [Bool.and_eq_true, decide_eq_true_eq] at hq
          exact ⟨hq.1.2, hq.2⟩
        have hl1 : 1 ≤ (leasts c q k).length := by omega
        have hl6 : (leasts c q k).length ≤ 6 := by omega
        have hls : Aside0 (leasts c q k = leasts c q (c.cuts.length + 1)) := ⟨by rw [HN.out]⟩
        clear hll
        generalize leasts c q k = ls at *
        obtain ⟨_, hcap3, hC3⟩ := Kd.R_reads' HK.out.1
        have HC3 := Aside0.mk hC3
        clear hC3
        go_upto_region 14 with (go_at_call 65; refine (merge_New A3 c3 ls q.f2 _ HC3.out hcap3 hl1 hl6 hfn).mono ?_; rintro e w3 ⟨g, v3, rfl, hNM⟩; have HNM := Aside0.mk hNM; have HB3 := Aside0.mk (below_weaken HK.out.2 HK.out.2.size hNM.below); have zz0 : w3.cell? ⟨w.heap.size, 0, none⟩ = some (.string q.f0) := (blk_cell (blk_below HV.out.box HB3.out) 0).trans rfl; have zz1 : w3.cell? ⟨w.heap.size, 1, none⟩ = some (.int .i64 q.f1) := (blk_cell (blk_below HV.out.box HB3.out) 1).trans rfl; have zz2 : w3.cell? ⟨w.heap.size, 2, none⟩ = some (.int .i64 q.f2) := (blk_cell (blk_below HV.out.box HB3.out) 2).trans rfl; clear hNM)
        obtain ⟨gs, cap, hv3⟩ : ∃ gs cap, v3 = shSl gs ls.length cap := by
          obtain ⟨inner, hro⟩ := Kd.R_own HNM.out.rows
          rcases hro.2 with ⟨_, h0⟩ | ⟨gs, cap, cur, rfl, _⟩
          · rw [h0] at hl1
            omega
          · exact ⟨gs, cap, rfl⟩
        subst hv3
        have hgs : Aside0 (wr.heap.size ≤ gs) := ⟨by
          obtain ⟨inner, hro⟩ := Kd.R_own HNM.out.rows
          exact own_base hro gs rfl⟩
        have hVr : Aside0 (V.heap.size ≤ wr.heap.size) := ⟨HK.out.2.size⟩
        have hr3 : wr.heap.size ≤ w3.heap.size := HNM.out.below.size
        refine Rd.gen_wp (R := fun W => Below V.heap.size V W ∧ W.heap[w3.heap.size]? = some (QyB j (newQy c S q) g) ∧ W.heap[g]? = some (MergeB q.f2 (shSl gs ls.length cap) (.slice none 0 0)) ∧ Kd.R kNew 235 W base (fun _ => True) (shSl gs ls.length cap) ls)
          ⟨below_step HB3.out (below_alloc (Below.refl _ _) _), blk_new _ _, blk_alloc HNM.out.box _, Kd.R_lower (Kd.R_below HNM.out.rows (below_alloc (Below.refl _ _) _)) (by have := hVr.out; have := hVsz.out; omega)⟩ ?_
        clear zz0 zz1 zz2 z0 z1 z2
        rintro W ⟨hbW, hqW, hgW, hrW⟩
        have hge := HNM.out.ge
        have HBW := Aside0.mk hbW
        have HQW := Aside0.mk hqW
        have HGW := Aside0.mk hgW
        have HRW := Aside0.mk hrW
        have HGE : Aside0 (w.heap.size ≤ w3.heap.size ∧ w.heap.size ≤ g ∧ w.heap.size ≤ gs) := ⟨by have := hVr.out; have := hVsz.out; have := hgs.out; omega⟩
        clear HNM HB3 hgs hVr hr3 hge hbW hqW hgW hrW
        generalize w3.heap.size = b at *
        have hxW := blk_below HVX.out HBW.out
        have x17 : W.cell? ⟨I.x, 17, none⟩ = some (.map (some I.m)) := (blk_cell hxW 17).trans rfl
        have HMW : MapAt Tryz.prog 3 encP W I.m S.live fq := HMQ.out.keep ((HBW.out.block _ (Nat.lt_of_lt_of_le HMQ.out.lt HV.out.only.size)).trans (HV.out.only.block _ HMQ.out.lt (by rw [HR.out.2.2.2.2]; simp)))
        obtain ⟨W2, hr2, hm2, hg2⟩ := HMW.put lawK Tryz.underlying114 Tryz.underlying3 (by omega) (wf_i64 (n := S.last + 1) (by omega) (by omega)) b
        rw [HNQ.out] at hm2
        have hr2' : (Instr.mapUpdate 114 (.map (some I.m)) (.int .i64 (S.last + 1)) (.pointer (some ⟨b, 0, none⟩))).run Tryz.prog W = .ok () W2 := hr2
        have HM2 := Aside0.mk hm2
        have HG2 := Aside0.mk hg2
        have hmx : I.x ≠ I.m := fun e => by
          have h0 := HR.out.1
          rw [e, HR.out.2.2.2.2] at h0
          cases h0
        have hx2 := blk_grown hxW hg2 fun e => hmx (Option.some.inj e)
        have HX2 := Aside0.mk hx2
        have hqb : Aside0 (W2.heap[w.heap.size]? = some (queryB q)) := ⟨blk_grown (blk_below HV.out.box HBW.out) hg2 fun e => by
          have := HOWN.out I.m (by rw [HR.out.2.2.2.2]; simp)
          have := Option.some.inj e
          omega⟩
        clear hr2 hm2 hg2 HMW hxW hx2 hmx
        go_upto_region 15 with fail
        have hzz : W2.heap[w.heap.size]? = some (queryB q) ∧ W2.heap[I.x]? = _ := ⟨hqb.out, HX2.out⟩
        have y0 : W2.cell? ⟨w.heap.size, 0, none⟩ = some (.string q.f0) := (blk_cell hzz.1 0).trans rfl
        have y1 : W2.cell? ⟨w.heap.size, 1, none⟩ = some (.int .i64 q.f1) := (blk_cell hzz.1 1).trans rfl
        have y2 : W2.cell? ⟨w.heap.size, 2, none⟩ = some (.int .i64 q.f2) := (blk_cell hzz.1 2).trans rfl
        have y18 : W2.cell? ⟨I.x, 18, none⟩ = some (.slice Ad S.told.length cd) := (blk_cell hzz.2 18).trans rfl
        have y18a : (W2.alloc (.cells #[.int .i64 (S.last + 1), .string q.f0, .int .i64 q.f1, .int .i64 q.f2, .slice none 0 0, .bool false, .bool false] 58)).cell? ⟨I.x, 18, none⟩ = some (.slice Ad S.told.length cd) := (blk_cell (blk_alloc hzz.2 _) 18).trans rfl
        have hdm : ∀ k, (Value.slice Ad S.told.length cd).ownBlock = some k → k ≠ I.m := fun k hk e => by
          have := HT.out.own k hk
          rw [e, HR.out.2.2.2.2] at this
          cases this
        have hdx : some I.x ≠ (Value.slice Ad S.told.length cd).ownBlock := fun e => by
          have := HT.out.own _ e.symm
          rw [HR.out.1] at this
          cases this
        have HTR : Aside0 (OwnRow (ToldR ρ w base) 58 7 W2.drew base (.slice Ad S.told.length cd) S.told.zipIdx) := ⟨by
          obtain ⟨inner, hro, hrr⟩ := HT.out.row
          refine ⟨inner, own_move hro fun k hk => ?_, hrr⟩
          have hr := HT.out.own k hk
          have hkl := HOWN.out k (by rw [hr]; simp)
          have hk2 := Nat.lt_of_lt_of_le hkl HV.out.only.size
          exact (HG2.out.block k (Nat.lt_of_lt_of_le hk2 HBW.out.size) fun e => hdm k hk (Option.some.inj e)).trans ((HBW.out.block k hk2).trans (HV.out.only.block k hkl (by rw [hr]; simp)))⟩
        have hp : ToldR ρ w base (newTold S q, S.told.length) (toldV (newTold S q) (.slice none 0 0)) := QAt.told_new rfl rfl
        have HP := Aside0.mk hp
        have hbaW : base ≤ W2.drew.heap.size := Nat.le_trans hbas (Nat.le_trans HV.out.only.size (Nat.le_trans HBW.out.size HG2.out.size))
        have hlenT : (S.told.zipIdx.length + 1) * 72 ≤ 140737488355328 := by
          rw [List.length_zipIdx]
          have := HLEN.out
          omega
        have hone : ∀ u ∈ toldV (newTold S q) (.slice none 0 0), u.oneCell' = true := fun u hu => by
          simp only [toldV, List.mem_cons, List.not_mem_nil, or_false] at hu
          rcases hu with rfl | rfl | rfl | rfl | rfl | rfl | rfl <;> rfl
        have HON := Aside0.mk hone
        clear hzz hp hone
        go_region_law (go_loud (refine OwnRow.append_step (W := W2.drew) (R := ToldR ρ w base) (w0 := W2.drew) base rfl (.tmp 70) (.tmp 74) 72 58 (.agg #[.int .i64 0, .string ⟨#[]⟩, .int .i64 0, .int .i64 0, .slice none 0 0, .bool false, .bool false]) 7 72 rfl Tryz.underlying72 infoTold rfl (by decide) (by decide) (.slice Ad S.told.length cd) S.told.zipIdx (newTold S q, S.told.length) (toldV (newTold S q) (.slice none 0 0)) rfl rfl HP.out rfl HON.out HTR.out (Below.refl _ _) hbaW hlenT ?_; intro v6 w6 hr hb6 hg hat; have hx6 : w6.heap[I.x]? = _ := blk_grown (blk_drew HX2.out) hg hdx; have y18' : w6.cell? ⟨I.x, 18, none⟩ = some (.slice Ad S.told.length cd) := (blk_cell hx6 18).trans rfl; have f18 := blk_frozen hx6 18; obtain ⟨A6, c6, hv6, _⟩ := OwnRow.slice_ hr; rw [List.length_append, List.length_zipIdx] at hv6; simp only [List.length_cons, List.length_nil, Nat.zero_add] at hv6; subst hv6; have HR6 := Aside0.mk hr; have HG6 := Aside0.mk hg; have HAT := Aside0.mk hat; clear hr hb6 hg hat hx6))
        all_goals
          go_upto_region 16 with fail
          have hdone := CoAt.sub_done (fq := fq) (W3 := W2.drew) H.out hj4 hj hfree HV.out HF1.out HF2.out HQ2.out HBW.out HQW.out HGE.out.1 (by rw [← hls.out]; exact HGW.out) HGE.out.2.1 (by rw [← hls.out]; exact HRW.out) HGE.out.2.2 HM2.out HG2.out ⟨rfl, rfl, rfl, rfl⟩ (by rw [HCV.out]; exact HX2.out) HT.out.own HG6.out HAT.out HR6.out
          refine Rd.gen_wp (R := fun X => ∃ ρ', Ext ρ ρ' w ∧ CoAt c base ρ' I (updB blk (S.last + 1) b) (S.add c j q) X ∧ Only (fun k => ρ k ≠ .z) w X)
            (by obtain ⟨ρ', a1, a2, a3⟩ := hdone; first | exact ⟨ρ', a1, a2, a3⟩ | exact ⟨ρ', a1, a2.fresh (below_drew1 (Below.refl _ _)), a3.drew⟩) ?_
          clear hdone HR6 HG6 HAT y18' f18 y18 y18a y0 y1 y2 HTR HP HON HM2 HG2 HX2
          rintro X ⟨ρ', hE, hC, hO⟩
          have HGO := coord_goes c base ρ' I (updB blk (S.last + 1) b) (S.add c j q) j (newQy c S q) X hC hm hj4 (by
            show updQ S.Q j (some (newQy c S q)) j = _
            unfold updQ
            rw [if_pos rfl]) (new_ok c S q HLEN.out hl h5)
          rw [show updB blk (S.last + 1) b (newQy c S q).id = b from if_pos rfl] at HGO
          have HG := Aside0.mk HGO
          have HE := Aside0.mk hE
          have HO := Aside0.mk hO
          clear hE hC hO HGO
          go_wp2_with (go_at_call 66; refine HG.out.mono ?_; rintro e w7 ⟨v7, rfl, hR⟩; have HR7 := Aside0.mk hR; clear hR)
          go_ret3
          exact ⟨v7, rfl, CoRes.after HE.out HO.out HR7.out⟩
set_option maxRecDepth 100000 in
set_option maxHeartbeats 1600000 in
theorem coord_Submit_no (c : Cfg) (base : Nat) (ρ : Nat → Own) (I : CoIds) (blk : Int → Nat) (S : Co) (q : S40) (w : World) (h : CoAt c base ρ I blk S w) (hs : q.f0.size ≤ 9223372036854775807) (hq : mayQ q = false ∨ (((S.live : Nat) : Int) == c.sl) = true) :
    Calls Tryz.prog 17 #[.pointer (some ⟨I.x, 0, none⟩), qval q] w fun e w' => e = .returned (.tuple #[.int .i64 (if mayQ q = true then 2 else 1), .int .i64 0, .slice none 0 0]) ∧ Below w.heap.size w w' := by
  obtain ⟨dv, hco, htold⟩ := h.co
  obtain ⟨fof, fat, hsl, hf1, hf2⟩ := h.sl
  have hb0 : Below w.heap.size w (w.alloc (queryB q)).drew := below_drew1 (below_alloc (Below.refl _ _) (queryB q))
  have HB0 := Aside0.mk hb0
  have HS : Aside0 ((w.alloc (queryB q)).drew.heap[w.heap.size]? = some (queryB q)) := ⟨blk_new _ _⟩
  have HCO := Aside0.mk (blk_below hco hb0)
  have HSL := Aside0.mk (hsl.fresh hb0)
  have hxl := blk_lt hco
  obtain ⟨r, hr⟩ : ∃ r : Int, r = if mayQ q = true then 2 else 1 := ⟨_, rfl⟩
  have hr3 : (r != 3) = true := by
    rw [hr]
    split <;> decide
  have hcall : Aside0 (Calls Tryz.prog 63 #[.pointer (some ⟨I.s, 0, none⟩), qval q] (w.alloc (queryB q)).drew fun e w' => e = .returned (.tuple #[.int .i64 r, .int .i64 0, .int .i64 0]) ∧ Below (w.alloc (queryB q)).drew.heap.size (w.alloc (queryB q)).drew w') := ⟨by
    cases hmq : mayQ q with
    | false =>
      rw [hmq] at hr
      rw [show r = 1 from hr]
      exact submit_no I.s I.a I.b c.sl S.last S.live fof fat q _ HSL.out hs hmq
    | true =>
      rw [hmq] at hr
      rw [show r = 2 from hr]
      exact submit_busy I.s I.a I.b c.sl S.last S.live fof fat q _ HSL.out hs hmq (hq.resolve_left (by rw [hmq]; simp))⟩
  rw [← hr]
  clear h hco htold hsl hf1 hf2 hb0 hq hr
  go_enter Tryz.func17, Tryz.ntmps17
  go_upto_region 3 with fail
  go_region_held3 (fun W => W.heap[w.heap.size]? = some (queryB q) ∧ W.cell? ⟨w.heap.size, 0, none⟩ = some (.string q.f0) ∧ W.cell? ⟨w.heap.size, 1, none⟩ = some (.int .i64 q.f1) ∧ W.cell? ⟨w.heap.size, 2, none⟩ = some (.int .i64 q.f2) ∧ W.cell? ⟨I.x, 15, none⟩ = some (.pointer (some ⟨I.s, 0, none⟩)))
    (first
      | exact ⟨HS.out, (blk_cell HS.out 0).trans rfl, (blk_cell HS.out 1).trans rfl, (blk_cell HS.out 2).trans rfl, (blk_cell HCO.out 15).trans rfl⟩
      | exact ⟨HS2.out, (blk_cell HS2.out 0).trans rfl, (blk_cell HS2.out 1).trans rfl, (blk_cell HS2.out 2).trans rfl, (blk_cell HX2.out 15).trans rfl⟩
      | go_keep)
    ((go_simp; go_at_call 63; refine hcall.out.mono ?_; rintro e w2 ⟨rfl, hb⟩; have HB2 := Aside0.mk hb; have HS2 := Aside0.mk (blk_below HS.out hb); have HX2 := Aside0.mk (blk_below HCO.out hb); clear hb))
  all_goals
    go_wp2
    go_ret3
    exact ⟨rfl, below_step HB0.out HB2.out⟩
end Go.Proofs.YthbngidbfhcdaaaGreat.C
/- Which shards' next batches are wanted; the last item heard of a shard. -/
namespace Go.Proofs.YthbngidbfhcdaaaGreat.C
open Go.RowKit Go.Maps Go.Proofs.YthbngidbfhcdaaaGreat.Mem Go.Proofs.YthbngidbfhcdaaaGreatW.PrintWords Go.Proofs.YthbngidbfhcdaaaGreat.PCoordScript
set_option linter.unusedVariables false
set_option linter.unusedSimpArgs false
/-- Those of the first k shards whose next batch is wanted. -/
def wantsN (l : List S172) (k : Nat) : List Int := ((List.range k).filter fun i : Nat => wantedB (rd_T172 l i)).map fun i : Nat => (i : Int)
def Mg.wants (M : Mg) : List Int := if M.done = true then [] else wantsN M.sh M.sh.length
theorem wantsN_succ (l : List S172) (k : Nat) : wantsN l (k + 1) = if wantedB (rd_T172 l k) = true then wantsN l k ++ [(k : Int)] else wantsN l k := by
  unfold wantsN
  rw [List.range_succ, List.filter_append, List.map_append]
  by_cases h : wantedB (rd_T172 l k) = true <;> simp [h]
theorem wantsN_len (l : List S172) (k : Nat) : (wantsN l k).length ≤ k := by
  unfold wantsN
  rw [List.length_map]
  have := List.length_filter_le (fun i : Nat => wantedB (rd_T172 l i)) (List.range k)
  rw [List.length_range] at this
  exact this
set_option maxRecDepth 100000 in
set_option maxHeartbeats 1000000 in
theorem merge_Wants (base : Nat) (okM okW : Nat → Prop) (g gs cap : Nat) (tv : Value) (M : Mg) (w : World) (h : MgAt w base okM okW g gs cap tv M) (hl : M.sh.length ≤ 6) :
    Calls Tryz.prog 69 #[.pointer (some ⟨g, 0, none⟩)] w fun e w' => (∃ v, e = .returned v ∧ Kd.R (Kd.int .i64) 3 w' w.heap.size (fun _ => True) v M.wants) ∧ Below w.heap.size w w' := by
  have H := Aside0.mk h
  obtain ⟨TA, tc, rfl⟩ := Kd.R_slice h.told
  clear h
  rcases Mem.bool_or M.done with hd | hd
  · have hd' : doneB M.n M.told.length M.sh = true := hd
    go_enter Tryz.func69, Tryz.ntmps69
    go_wp2_with (go_at_call 114; refine (merge_Done g M.n (some ⟨gs, 0, none⟩) cap M.sh TA M.told.length tc _ H.out.box H.out.reads H.out.len hl).mono ?_; rintro e w1 ⟨rfl, hb⟩)
    go_ret
    exact ⟨⟨_, rfl, by rw [Mg.wants, if_pos hd]; exact Kd.R_nil _ _ _ _ _⟩, hb⟩
  · have hd' : doneB M.n M.told.length M.sh = false := hd
    have c1 : ∀ W, Below w.heap.size w W → W.cell? ⟨g, 1, none⟩ = some (shSl gs M.sh.length cap) := fun W hb => (blk_cell (blk_below H.out.box hb) 1).trans rfl
    have HC1 := Aside0.mk c1
    clear c1
    go_enter Tryz.func69, Tryz.ntmps69
    go_wp2_with (go_at_call 114; refine (merge_Done g M.n (some ⟨gs, 0, none⟩) cap M.sh TA M.told.length tc _ H.out.box H.out.reads H.out.len hl).mono ?_; rintro e w1 ⟨rfl, hb⟩; have HB1 := Aside0.mk hb; have c1 := HC1.out _ hb; clear hb)
    go_loopw [3, 16] (fun v3 v wr => ∃ k : Int, v = .int .i64 k ∧ 0 ≤ k ∧ k ≤ M.sh.length ∧ Aside0 (Kd.R (Kd.int .i64) 3 wr w.heap.size (fun _ => True) v3 (wantsN M.sh k.toNat)) ∧ Aside0 (Below w.heap.size w wr)) (fun _ v _ => M.sh.length - (intOf v).toNat)
    case atStart => exact ⟨0, rfl, by omega, by omega, ⟨Kd.R_nil _ _ _ _ _⟩, HB1⟩
    case round =>
      obtain ⟨k, rfl, hk0, hk, HR, HB⟩ := hrel
      clear HB1
      obtain ⟨q, rfl⟩ := Int.eq_ofNat_of_zero_le hk0
      rw [Int.toNat_natCast] at HR
      have c1 := HC1.out _ HB.out
      rcases Mem.dec_or ((q : Int) < (M.sh.length : Int)) with hlt | hlt
      · have hlt' : (q : Int) < (M.sh.length : Int) := of_decide_eq_true hlt
        have hq : q < M.sh.length := by omega
        have hlt2 : decide (q < M.sh.length) = true := by simp; exact hq
        obtain ⟨A, c, hc, hwt⟩ := (H.out.fresh HB.out).get q hq
        have y2 : Aside0 (wr.cell? ⟨gs, q * 7 + 2, none⟩ = some (.bool (rd_T172 M.sh q).f2)) := ⟨hc 2 _ rfl⟩
        have y6 : Aside0 (wr.cell? ⟨gs, q * 7 + 6, none⟩ = some (.slice A (rd_T172 M.sh q).f5.length c)) := ⟨hc 6 _ rfl⟩
        clear hc hwt
        have hn : Aside0 (wantsN M.sh (q + 1) = if wantedB (rd_T172 M.sh q) = true then wantsN M.sh q ++ [(q : Int)] else wantsN M.sh q) := ⟨wantsN_succ _ _⟩
        have hlen : ((wantsN M.sh q).length + 1) * 8 ≤ 140737488355328 := by have := wantsN_len M.sh q; omega
        have hbs : w.heap.size ≤ wr.heap.size := HB.out.size
        generalize wantsN M.sh q = wl at *
        rcases Mem.bool_or (wantedB (rd_T172 M.sh q)) with hw | hw
        all_goals
          rw [hw] at hn
          obtain ⟨A3, c3, hv3⟩ := Kd.R_slice HR.out
          subst hv3
          go_wp2_with (first
            | (go_at_call 115; refine (shard_wanted gs (q * 7) (rd_T172 M.sh q) A c _ y2.out y6.out).mono ?_; rintro e w2 ⟨rfl, rfl⟩)
            | (at_builtin; refine Kd.R_append (Kd.int .i64) (w0 := w) w.heap.size rfl (.tmp 26) (.tmp 28) 26 3 (.int .i64 0) 8 rfl Tryz.underlying26 info3 rfl (by decide) (by omega) (.slice A3 wl.length c3) wl (q : Int) [.int .i64 q] (fun _ => True) (fun _ => False) rfl rfl rfl (fun _ h => h.elim) (fun _ _ => trivial) HR.out HB.out hbs hlen ?_; intro v' w' hr hb hg _; have HR2 := Aside0.mk hr; have HB2 := Aside0.mk hb; clear hr hb hg))
        · refine ⟨⟨(q : Int) + 1, rfl, by omega, by omega, ⟨?_⟩, HB2⟩, by simp [intOf]; omega⟩
          rw [show ((q : Int) + 1).toNat = q + 1 from by omega, hn.out]
          exact HR2.out
        · refine ⟨⟨(q : Int) + 1, rfl, by omega, by omega, ⟨?_⟩, HB⟩, by simp [intOf]; omega⟩
          rw [show ((q : Int) + 1).toNat = q + 1 from by omega, hn.out]
          exact HR.out
      · have e : q = M.sh.length := by simp at hlt; omega
        subst e
        have hlt2 : decide (M.sh.length < M.sh.length) = false := by simp
        go_wp2
        go_ret
        exact ⟨⟨_, rfl, by rw [Mg.wants, if_neg (by simp [hd])]; exact HR.out⟩, HB.out⟩
theorem merge_After (base : Nat) (okM okW : Nat → Prop) (g gs cap : Nat) (tv : Value) (M : Mg) (i : Int) (w : World) (h : MgAt w base okM okW g gs cap tv M) (h0 : 0 ≤ i) (h1 : i < M.sh.length) :
    Calls Tryz.prog 171 #[.pointer (some ⟨g, 0, none⟩), .int .i64 i] w fun e w' => e = .returned (.tuple #[itV (rd_T172 M.sh i).f4, .bool (rd_T172 M.sh i).f3]) ∧ Below w.heap.size w w' := by
  obtain ⟨q, rfl⟩ := Int.eq_ofNat_of_zero_le h0
  obtain ⟨A, c, hc, hwt⟩ := h.get q (by omega)
  have y3 : w.cell? ⟨gs, q * 7 + 3, none⟩ = some (.bool (rd_T172 M.sh q).f3) := hc 3 _ rfl
  have y4 : w.cell? ⟨gs, q * 7 + 4, none⟩ = some (.int .i64 (rd_T172 M.sh q).f4.f0) := hc 4 _ rfl
  have y5 : w.cell? ⟨gs, q * 7 + 5, none⟩ = some (.string (rd_T172 M.sh q).f4.f1) := hc 5 _ rfl
  have l1 := World.block_lt_of_cell? w _ y3
  have HX := Aside0.mk (blk_alloc h.box (.cells #[.int .i64 0, .string ⟨#[]⟩] 46))
  clear h hc hwt
  go_enter Tryz.func171, Tryz.ntmps171
  go_wp2_with (go_at_call 163; refine (merge_get g M.n ⟨gs, 0, none⟩ cap M.sh tv q _ HX.out h0 h1).mono ?_; rintro e w1 ⟨rfl, rfl⟩; rw [add_plain, Int.toNat_natCast])
  go_region
  all_goals
    go_wp2
    exact bodyPost_ret (v := .tuple #[itV (rd_T172 M.sh q).f4, .bool (rd_T172 M.sh q).f3]) (by simp [results, Tryz.results171, go_sem]) rfl ⟨rfl, below_drew1 (below_alloc (Below.refl _ _) _)⟩
end Go.Proofs.YthbngidbfhcdaaaGreat.C
/- coord.ask, walked. -/
namespace Go.Proofs.YthbngidbfhcdaaaGreat.C
open Go.RowKit Go.Maps Go.Proofs.YthbngidbfhcdaaaGreat.Mem Go.Proofs.YthbngidbfhcdaaaGreatW.PrintWords Go.Proofs.YthbngidbfhcdaaaGreat.PCoordScript
set_option linter.unusedVariables false
set_option linter.unusedSimpArgs false
theorem copies_len (c : Cfg) (s : Int) : (c.copies s).length = c.cp.toNat := by simp [Cfg.copies]
theorem copies_in {c : Cfg} (hm : c.May) {s : Int} (hs : 0 ≤ s) {k : Int} (hk : k ∈ c.copies s) : 1 ≤ k ∧ k ≤ c.wk := by
  obtain ⟨⟨h1, h2⟩, _⟩ := hm.nums
  simp only [Cfg.copies, List.mem_map, List.mem_range] at hk
  obtain ⟨j, hj, rfl⟩ := hk
  unfold Cfg.copy
  have a := Int.emod_nonneg (s + j) (show c.wk ≠ 0 by omega)
  have b := Int.emod_lt_of_pos (s + j) (show (0 : Int) < c.wk by omega)
  omega
/-- A shard's copies, as they are read. -/
theorem CoAt.copies_at {c : Cfg} {base : Nat} {ρ : Nat → Own} {I : CoIds} {blk : Int → Nat} {S : Co} {W : World} (h : CoAt c base ρ I blk S W) (sh : Nat) (hsh : sh ≤ c.cuts.length) :
    ∃ ad cc A2 c2, I.cv = .slice (some ad) (c.cuts.length + 1) cc ∧ W.cell? (ad.add sh) = some (.slice A2 (c.copies sh).length c2) ∧ (c.copies sh).length ≤ c2 ∧ Kd.C (Kd.int .i64) W A2 (c.copies sh).length (c.copies sh) := by
  obtain ⟨Ac, cc, hcv⟩ := Kd.R_slice h.copies
  have hC := h.copies
  rw [hcv] at hC
  obtain ⟨_, _, hC⟩ := Kd.R_reads' hC
  obtain ⟨ad, cs, e, _, ⟨A2, c2, rfl, hl, hC2⟩, hcell⟩ := hC.get_ [] (sh : Int) (by omega) (by unfold Cfg.allCopies; simp; omega)
  subst e
  have hg : (c.allCopies (c.cuts.length + 1)).getD ((sh : Int)).toNat [] = c.copies sh := by
    rw [Int.toNat_natCast, List.getD_eq_getElem?_getD]
    unfold Cfg.allCopies
    rw [List.getElem?_map, List.getElem?_range (by omega)]
    rfl
  rw [hg] at hl hC2 hcell
  refine ⟨ad, cc, A2, c2, ?_, ?_, hl, hC2⟩
  · rw [hcv]
    unfold Cfg.allCopies
    simp
  · have := hcell 0 _ rfl
    have hsz : dcopies.sz = 1 := rfl
    rw [Int.toNat_natCast, hsz, Nat.mul_one, Nat.add_zero] at this
    exact this
/-- Whom a try asks. -/
def toOf (c : Cfg) (sh : Nat) (turn : Int) : Int := Go.Proofs.YthbngidbfhcdaaaGreatW.PrintWords.rd (c.copies sh) (turn % (c.copies sh).length)
def askOf (c : Cfg) (S : Co) (s : Nat) (y : Qy) (sh : Nat) (turn : Int) : List LetD :=
  if (S.L (toOf c sh turn).toNat).epoch = 0 then []
  else [⟨toOf c sh turn, .ask ⟨s, y.id, sh, (rd_T172 y.m.sh sh).f1, (S.L (toOf c sh turn).toNat).epoch, y.q.f0, y.q.f1, c.ba, !(rd_T172 y.m.sh sh).f3, (rd_T172 y.m.sh sh).f4⟩⟩]
theorem toOf_in {c : Cfg} (hm : c.May) (sh : Nat) {turn : Int} : 1 ≤ toOf c sh turn ∧ toOf c sh turn ≤ c.wk := by
  obtain ⟨_, ⟨h1, h2, _⟩, _⟩ := hm.nums
  have hl := copies_len c sh
  have a := Int.emod_nonneg turn (show ((c.copies sh).length : Int) ≠ 0 by omega)
  have b := Int.emod_lt_of_pos turn (show (0 : Int) < ((c.copies sh).length : Int) by omega)
  have hlt : (turn % ((c.copies sh).length : Int)).toNat < (c.copies sh).length := by omega
  have : toOf c sh turn = (c.copies sh)[(turn % ((c.copies sh).length : Int)).toNat] := by
    unfold toOf
    simp [Go.Proofs.YthbngidbfhcdaaaGreatW.PrintWords.rd, List.getD_eq_getElem?_getD, List.getElem?_eq_getElem hlt]
  rw [this]
  exact copies_in hm (by omega) (List.getElem_mem hlt)
set_option maxRecDepth 100000 in
set_option maxHeartbeats 4000000 in
theorem coord_ask (c : Cfg) (base : Nat) (ρ : Nat → Own) (I : CoIds) (blk : Int → Nat) (S : Co) (s : Nat) (y : Qy) (sh : Nat) (turn : Int) (w : World) (h : CoAt c base ρ I blk S w) (hm : c.May) (hs : s < 4) (hy : S.Q s = some y) (hsh : sh ≤ c.cuts.length) (hshl : sh < y.m.sh.length) (ht : 0 ≤ turn) :
    Calls Tryz.prog 121 #[.pointer (some ⟨I.x, 0, none⟩), .pointer (some ⟨blk y.id, 0, none⟩), .int .i64 sh, .int .i64 turn] w fun e w' => (∃ v, e = .returned v ∧ Kd.R kLet 51 w' w.heap.size (fun _ => True) v (askOf c S s y sh turn)) ∧ Below w.heap.size w w' := by
  obtain ⟨⟨hw1, hw2⟩, ⟨hp1, hp2, _⟩, _⟩ := hm.nums
  obtain ⟨hto1, hto2⟩ := toOf_in hm sh (turn := turn)
  obtain ⟨dv, hco, _⟩ := h.co
  obtain ⟨g, gs, cap, tv, hQ⟩ := h.qat s y hs hy
  obtain ⟨ad, cc, A2, c2, hcv, hcell, hcap2, hC2⟩ := h.copies_at sh hsh
  have hl := copies_len c sh
  obtain ⟨L, hL⟩ : ∃ L, L = (c.copies sh).length := ⟨_, rfl⟩
  have ha := Int.emod_nonneg turn (show (L : Int) ≠ 0 by omega)
  have hb := Int.emod_lt_of_pos turn (show (0 : Int) < (L : Int) by omega)
  obtain ⟨ad2, hA2, hx2⟩ := Kd.at_int hC2 (turn % (L : Int)) ha (by rw [← hL]; exact hb)
  have hto : Go.Proofs.YthbngidbfhcdaaaGreatW.PrintWords.rd (c.copies sh) (turn % (L : Int)) = toOf c sh turn := by rw [hL]; rfl
  rw [hto] at hx2
  subst hA2
  rw [← hL] at hcell hcap2
  rw [hcv] at hco
  have HX : Aside0 (∀ W, Below w.heap.size w W → W.heap[I.x]? = some (CoB (c.bare I.A1 I.c1) (.slice (some ad) (c.cuts.length + 1) cc) S.now (.pointer (some ⟨I.l, 0, none⟩)) (.pointer (some ⟨I.s, 0, none⟩)) (.pointer (some ⟨I.t, 0, none⟩)) (.map (some I.m)) dv) ∧ W.heap[blk y.id]? = some (QyB s y g) ∧ W.heap[I.l]? = some (Tab c.wk c.le S.L)) :=
    ⟨fun W hb => ⟨blk_below hco hb, blk_below hQ.box hb, blk_below h.tab hb⟩⟩
  have HM := Aside0.mk hQ.mg
  have hx0 := HX.out w (Below.refl _ _)
  have c12 : w.cell? ⟨I.x, 12, none⟩ = some (.slice (some ad) (c.cuts.length + 1) cc) := (blk_cell hx0.1 12).trans rfl
  have c14 : w.cell? ⟨I.x, 14, none⟩ = some (.pointer (some ⟨I.l, 0, none⟩)) := (blk_cell hx0.1 14).trans rfl
  have y5 : w.cell? ⟨blk y.id, 5, none⟩ = some (.pointer (some ⟨g, 0, none⟩)) := (blk_cell hx0.2.1 5).trans rfl
  have hsh1 : sh < c.cuts.length + 1 := by omega
  have hsh0 : (0 : Int) ≤ (sh : Int) ∧ (sh : Int) < y.m.sh.length := by omega
  have HT := Aside0.mk hx0.2.2
  clear hco hQ hC2 hcv h hL hl hx0 hto hcap2
  obtain ⟨d, hto⟩ : ∃ d, d = toOf c sh turn := ⟨_, rfl⟩
  rw [← hto] at hto1 hto2 hx2
  obtain ⟨ls, hls⟩ : ∃ ls, ls = askOf c S s y sh turn := ⟨_, rfl⟩
  rw [← hls]
  unfold askOf at hls
  rw [← hto] at hls
  clear hto
  obtain ⟨ep, hep⟩ : ∃ ep, ep = (S.L d.toNat).epoch := ⟨_, rfl⟩
  have HEP := Aside0.mk hep
  rw [← hep] at hls
  have HLS := Aside0.mk hls
  clear hep hls
  rcases Mem.bool_or (ep == 0) with he | he
  · have he0 : ep = 0 := by simpa using he
    go_enter Tryz.func121, Tryz.ntmps121
    go_wp2_with (go_at_call 77; refine (lease_Epoch I.l c.wk c.le d S.L _ HT.out hto1 hto2 hw2).mono ?_; rintro e w1 ⟨rfl, hw⟩; obtain rfl := hw.symm; rw [← HEP.out])
    go_ret
    refine ⟨⟨_, rfl, ?_⟩, Below.refl _ _⟩
    rw [HLS.out, if_pos he0]
    exact Kd.R_nil _ _ _ _ _
  · have he0 : ¬ ep = 0 := by simpa using he
    go_enter Tryz.func121, Tryz.ntmps121
    go_upto_region 7 with (first
      | (go_at_call 77; refine (lease_Epoch I.l c.wk c.le d S.L _ HT.out hto1 hto2 hw2).mono ?_; rintro e w1 ⟨rfl, hw⟩; obtain rfl := hw.symm; rw [← HEP.out])
      | (go_at_call 171; refine (merge_After base _ _ g gs cap tv y.m sh _ HM.out hsh0.1 hsh0.2).mono ?_; rintro e w2 ⟨rfl, hb⟩; have HB2 := Aside0.mk hb; clear hb))
    refine Rd.gen_wp (R := fun V => Below w.heap.size w V ∧ V.heap[w2.heap.size]? = some (.cells #[.int .i64 (rd_T172 y.m.sh sh).f4.f0, .string (rd_T172 y.m.sh sh).f4.f1] 46 (0, 0))) (by
      first
      | exact ⟨below_step HB2.out (below_alloc (Below.refl _ _) _), blk_new _ _⟩) ?_
    clear y5 c12 c14 hcell hx2
    rintro V ⟨hbV, hpV⟩
    generalize w2.heap.size = p at *
    have hxV := HX.out V hbV
    have HMV := Aside0.mk (HM.out.fresh hbV)
    have HBV := Aside0.mk hbV
    (refine Mem.still_tail 37 (by kernel_rfl) (by kernel_rfl) (R := (fun W => Below w.heap.size w W ∧ MgAt W base (fun k => ρ k = .q y.id) (fun k => ρ k = .imm) g gs cap tv y.m ∧ W.cell? ⟨p, 0, none⟩ = some (.int .i64 (rd_T172 y.m.sh sh).f4.f0) ∧ W.cell? ⟨p, 1, none⟩ = some (.string (rd_T172 y.m.sh sh).f4.f1) ∧ W.cell? ⟨blk y.id, 0, none⟩ = some (.int .i64 y.id) ∧ W.cell? ⟨blk y.id, 1, none⟩ = some (.int .i64 s) ∧ W.cell? ⟨blk y.id, 2, none⟩ = some (.string y.q.f0) ∧ W.cell? ⟨blk y.id, 3, none⟩ = some (.int .i64 y.q.f1) ∧ W.cell? ⟨blk y.id, 5, none⟩ = some (.pointer (some ⟨g, 0, none⟩)) ∧ W.cell? ⟨I.x, 5, none⟩ = some (.int .i64 c.ba))) ⟨below_drew1 hbV, HMV.out.fresh (below_drew1 (Below.refl _ _)), (blk_cell hpV 0).trans rfl, (blk_cell hpV 1).trans rfl, (blk_cell hxV.2.1 0).trans rfl, (blk_cell hxV.2.1 1).trans rfl, (blk_cell hxV.2.1 2).trans rfl, (blk_cell hxV.2.1 3).trans rfl, (blk_cell hxV.2.1 5).trans rfl, (blk_cell hxV.1 5).trans rfl⟩ ?_)
    clear hbV hpV hxV HB2
    rintro W ⟨hbW, hmW, p0, p1, y0, y1, y2, y3, y5, x5⟩
    have HBW := Aside0.mk hbW
    have HMW := Aside0.mk hmW
    clear hbW hmW
    (simp only [List.take_succ_cons, List.take_zero, List.drop_succ_cons, List.drop_zero]; repeat still_step)
    still_call (merge_Seq g y.m.n ⟨gs, 0, none⟩ cap y.m.sh tv sh W HMW.out.box HMW.out.reads hsh0.1 hsh0.2)
    repeat still_step
    refine wpStill_nil ?_
    go_wp2
    go_ret
    refine ⟨⟨_, rfl, ?_⟩, below_step HBW.out (below_alloc (Below.refl _ _) _)⟩
    rw [HLS.out, if_neg he0]
    exact RL_one _ (blk_new _ _) HBW.out.size
end Go.Proofs.YthbngidbfhcdaaaGreat.C
/- Which of a shard's copies lives. -/
namespace Go.Proofs.YthbngidbfhcdaaaGreat.C
open Go.RowKit Go.Maps Go.Proofs.YthbngidbfhcdaaaGreat.Mem Go.Proofs.YthbngidbfhcdaaaGreatW.PrintWords Go.Proofs.YthbngidbfhcdaaaGreat.PCoordScript
set_option linter.unusedVariables false
set_option linter.unusedSimpArgs false
def liveB (L : Nat → Ls) (now k : Int) : Bool := decide (0 < (L k.toNat).epoch) && decide (now ≤ (L k.toNat).till)
/-- The first place from k on where a worker lives; -1: none. -/
def liveFrom (L : Nat → Ls) (now : Int) (l : List Int) : Nat → Int → Int
  | 0, _ => -1
  | b + 1, k => if k < l.length then (if liveB L now (Go.Proofs.YthbngidbfhcdaaaGreatW.PrintWords.rd l k) = true then k else liveFrom L now l b (k + 1)) else -1
def liveIx (L : Nat → Ls) (now : Int) (l : List Int) : Int := liveFrom L now l l.length 0
theorem liveFrom_range (L : Nat → Ls) (now : Int) (l : List Int) : ∀ (b : Nat) (k : Int), 0 ≤ k → liveFrom L now l b k = -1 ∨ (k ≤ liveFrom L now l b k ∧ liveFrom L now l b k < l.length)
  | 0, k, h => .inl rfl
  | b + 1, k, h => by
    unfold liveFrom
    split
    · split
      · exact .inr ⟨Int.le_refl _, by assumption⟩
      · rcases liveFrom_range L now l b (k + 1) (by omega) with h1 | h1
        · exact .inl h1
        · exact .inr ⟨by omega, h1.2⟩
    · exact .inl rfl
theorem rd_mem {l : List Int} {k : Int} (h0 : 0 ≤ k) (h1 : k < l.length) : Go.Proofs.YthbngidbfhcdaaaGreatW.PrintWords.rd l k ∈ l := by
  have hlt : k.toNat < l.length := by omega
  have : Go.Proofs.YthbngidbfhcdaaaGreatW.PrintWords.rd l k = l[k.toNat] := by simp [Go.Proofs.YthbngidbfhcdaaaGreatW.PrintWords.rd, List.getD_eq_getElem?_getD, List.getElem?_eq_getElem hlt]
  rw [this]
  exact List.getElem_mem hlt
set_option maxRecDepth 100000 in
theorem live_pred (p x lb : Nat) (n t now k : Int) (L : Nat → Ls) (w : World) (hp : w.cell? ⟨p, 0, none⟩ = some (.pointer (some ⟨x, 0, none⟩))) (h13 : w.cell? ⟨x, 13, none⟩ = some (.int .i64 now)) (h14 : w.cell? ⟨x, 14, none⟩ = some (.pointer (some ⟨lb, 0, none⟩))) (hb : w.heap[lb]? = some (Tab n t L)) (h1 : 1 ≤ k) (h2 : k ≤ n) (h3 : n ≤ 5) :
    Calls Tryz.prog 118 #[.int .i64 k, .pointer (some ⟨p, 0, none⟩)] w fun e w' => e = .returned (.bool (liveB L now k)) ∧ Below w.heap.size w w' := by
  have hdd : liveB L now k = (decide (0 < (L k.toNat).epoch) && decide (now ≤ (L k.toNat).till)) := rfl
  rw [hdd]
  have HB := Aside0.mk hb
  clear hb hdd
  generalize hq : (decide (0 < (L k.toNat).epoch) && decide (now ≤ (L k.toNat).till)) = q
  have hc : Aside0 (∀ W : World, W.heap[lb]? = some (Tab n t L) → Calls Tryz.prog 119 #[.pointer (some ⟨lb, 0, none⟩), .int .i64 k, .int .i64 now] W fun e w' => e = .returned (.bool q) ∧ w' = W) := ⟨fun W hW => by
    rw [← hq]
    exact lease_Live lb n t k now L W hW h1 h2 h3⟩
  clear hq
  go_enter Tryz.func118, Tryz.ntmps118
  go_upto_region 1 with fail
  (refine Mem.still_tail 9 (by kernel_rfl) (by kernel_rfl) (R := (fun W => Below w.heap.size w W ∧ W.heap[lb]? = some (Tab n t L) ∧ W.cell? ⟨p, 0, none⟩ = some (.pointer (some ⟨x, 0, none⟩)) ∧ W.cell? ⟨x, 13, none⟩ = some (.int .i64 now) ∧ W.cell? ⟨x, 14, none⟩ = some (.pointer (some ⟨lb, 0, none⟩)))) ⟨below_drew1 (Below.refl _ _), HB.out, hp, h13, h14⟩ ?_)
  rintro W ⟨hbW, hT, hp', h13', h14'⟩
  have HW := Aside0.mk hbW
  have HT := Aside0.mk hT
  clear hbW hT
  (simp only [List.take_succ_cons, List.take_zero, List.drop_succ_cons, List.drop_zero]; repeat still_step)
  refine wpStill_nil ?_
  go_wp2_with (go_at_call 119; refine (hc.out _ HT.out).mono ?_; rintro e w1 ⟨rfl, hw⟩; obtain rfl := hw.symm)
  go_ret
  exact ⟨rfl, HW.out⟩
set_option maxRecDepth 100000 in
theorem live_index (A : Option Addr) (c : Nat) (l : List Int) (p x lb : Nat) (n t now : Int) (L : Nat → Ls) (w : World) (hc : Kd.C (Kd.int .i64) w A l.length l) (hn : l.length ≤ c) (hl : l.length ≤ 24) (hin : ∀ k ∈ l, 1 ≤ k ∧ k ≤ n) (h3 : n ≤ 5)
    (hp : w.cell? ⟨p, 0, none⟩ = some (.pointer (some ⟨x, 0, none⟩))) (h13 : w.cell? ⟨x, 13, none⟩ = some (.int .i64 now)) (h14 : w.cell? ⟨x, 14, none⟩ = some (.pointer (some ⟨lb, 0, none⟩))) (hb : w.heap[lb]? = some (Tab n t L)) :
    Calls Tryz.prog 117 #[.slice A l.length c, .func (.func 118) #[] #[.pointer (some ⟨p, 0, none⟩)]] w fun e w' => e = .returned (.int .i64 (liveIx L now l)) ∧ Below w.heap.size w w' := by
  have HC := Aside0.mk hc
  have HP : Aside0 (∀ W, Below w.heap.size w W → W.cell? ⟨p, 0, none⟩ = some (.pointer (some ⟨x, 0, none⟩)) ∧ W.cell? ⟨x, 13, none⟩ = some (.int .i64 now) ∧ W.cell? ⟨x, 14, none⟩ = some (.pointer (some ⟨lb, 0, none⟩)) ∧ W.heap[lb]? = some (Tab n t L)) := ⟨fun W h => ⟨pw_cell_below h hp, pw_cell_below h h13, pw_cell_below h h14, blk_below hb h⟩⟩
  have HIN := Aside0.mk hin
  clear hc hp h13 h14 hb hin
  go_enter Tryz.func117, Tryz.ntmps117
  go_wp2
  go_loopw [8] (fun v wr => ∃ (k : Int) (b : Nat), v = .int .i64 k ∧ 0 ≤ k ∧ k ≤ l.length ∧ l.length ≤ k + b ∧ liveFrom L now l b k = liveIx L now l ∧ Aside0 (Below w.heap.size w wr)) (fun v _ => l.length - (intOf v).toNat)
  case atStart => exact ⟨0, l.length, rfl, by omega, by omega, by omega, rfl, ⟨Below.refl _ _⟩⟩
  case round =>
    obtain ⟨k, b, rfl, hk0, hk, hkb, hf, HB⟩ := hrel
    have HF := Aside0.mk hf
    clear hf
    rcases Mem.dec_or (k < (l.length : Int)) with hlt | hlt
    · have hlt' : k < (l.length : Int) := of_decide_eq_true hlt
      obtain ⟨b, rfl⟩ : ∃ q, b = q + 1 := ⟨b - 1, by omega⟩
      obtain ⟨ad, rfl, hx0⟩ := Kd.at_int HC.out k hk0 hlt'
      replace hx0 := (HB.out.cell (World.block_lt_of_cell? w _ hx0)).trans hx0
      obtain ⟨k1, k2⟩ := HIN.out _ (rd_mem hk0 hlt')
      have HP' := Aside0.mk (HP.out _ HB.out)
      rcases Mem.bool_or (liveB L now (Go.Proofs.YthbngidbfhcdaaaGreatW.PrintWords.rd l k)) with hq | hq
      all_goals
        go_wp2_with (go_at_call 118; refine (live_pred p x lb n t now _ L _ HP'.out.1 HP'.out.2.1 HP'.out.2.2.1 HP'.out.2.2.2 k1 k2 h3).mono ?_; rintro e w1 ⟨rfl, hb⟩; have HB1 := Aside0.mk (below_step HB.out hb); clear hb)
      · go_ret
        refine ⟨?_, HB1.out⟩
        rw [← HF.out]
        simp [liveFrom, hlt', hq]
      · go_roundw
        case rel =>
          refine ⟨k + 1, b, rfl, by omega, by omega, by omega, ?_, HB1⟩
          rw [← HF.out]
          simp [liveFrom, hlt', hq]
        case measure =>
          simp [intOf]
          omega
    · go_wp2
      go_ret
      refine ⟨?_, HB.out⟩
      rw [← HF.out]
      simp at hlt
      cases b with
      | zero => rfl
      | succ b => simp [liveFrom]; omega
end Go.Proofs.YthbngidbfhcdaaaGreat.C
/- What the backoff's functions come to, in numbers. -/
namespace Go.Proofs.YthbngidbfhcdaaaGreat.C
open Go.RowKit Go.Maps Go.Proofs.YthbngidbfhcdaaaGreat.Mem Go.Proofs.YthbngidbfhcdaaaGreatW.PrintWords Go.Proofs.YthbngidbfhcdaaaGreatW.PrintLast Go.Proofs.YthbngidbfhcdaaaGreatW.PrintMore Go.Proofs.YthbngidbfhcdaaaGreat.PCoordScript
set_option linter.unusedVariables false
set_option linter.unusedSimpArgs false
/-! ### what Wait, Try and Most come to -/
theorem wrap_small {n : Int} (h0 : -9223372036854775808 ≤ n) (h1 : n < 9223372036854775808) : wrap64 n = n := by
  unfold wrap64
  omega
theorem u64_small {n : Int} (h0 : 0 ≤ n) (h1 : n < 18446744073709551616) : IntKind.u64.wrap n = n := by
  simp [IntKind.wrap, IntKind.signed, IntKind.bits]
  omega
theorem u64_range (n : Int) : 0 ≤ IntKind.u64.wrap n ∧ IntKind.u64.wrap n < 18446744073709551616 := by
  simp [IntKind.wrap, IntKind.signed, IntKind.bits]
  omega
theorem u64_id {n : Int} (h0 : 0 ≤ n) (h1 : n < 4611686018427387904) : IntKind.u64.wrap n = n := u64_small h0 (by omega)
def cl (x : Int) : Int := mn (mx x 0) 1000
theorem cl_range (x : Int) : 0 ≤ cl x ∧ cl x ≤ 1000 := by unfold cl mn mx; (repeat' split) <;> omega
def tr (x : Int) : Int := mn (mx x 0) 6
theorem tr_range (x : Int) : 0 ≤ tr x ∧ tr x ≤ 6 := by unfold tr mn mx; (repeat' split) <;> omega
theorem mn_le (a b : Int) : mn a b ≤ a ∧ mn a b ≤ b := by unfold mn; split <;> omega
theorem mn_pos {a b : Int} (h0 : 0 ≤ a) (h1 : 0 ≤ b) : 0 ≤ mn a b := by unfold mn; split <;> omega
theorem pow_pos2 (d : Nat) : (1 : Int) ≤ 2 ^ d := by
  have := @Int.pow_pos 2 d (by omega)
  omega
theorem mn_mul {n C p : Int} (hn : 0 ≤ n) (hC : 0 ≤ C) (hp : 1 ≤ p) : mn (mn (2 * n) C * p) C = mn (n * (2 * p)) C := by
  have e : n * (2 * p) = 2 * n * p := by rw [← Int.mul_assoc, Int.mul_comm n 2]
  rw [e]
  by_cases h : C < 2 * n
  · have e1 : mn (2 * n) C = C := by unfold mn; rw [if_pos h]
    have h1 : C * 1 ≤ C * p := Int.mul_le_mul_of_nonneg_left hp hC
    have h2 : 2 * n * 1 ≤ 2 * n * p := Int.mul_le_mul_of_nonneg_left hp (by omega)
    rw [e1]
    unfold mn
    (repeat' split) <;> omega
  · have e1 : mn (2 * n) C = 2 * n := by unfold mn; rw [if_neg h]
    rw [e1]
/-- what is left of a draw -/
def left_ (draw J : Int) : Int := IntKind.u64.wrap draw % (cl J + 1)
theorem left_range (draw J : Int) : 0 ≤ left_ draw J ∧ left_ draw J ≤ cl J := by
  have h := cl_range J
  unfold left_
  have h1 := Int.emod_nonneg (IntKind.u64.wrap draw) (b := cl J + 1) (by omega)
  have h2 := Int.emod_lt_of_pos (IntKind.u64.wrap draw) (b := cl J + 1) (by omega)
  omega
def wt (F C J m draw : Int) : Int := mn (cl F * 2 ^ m.toNat) (cl C) + left_ draw J
theorem wt_range (F C J m draw : Int) : 0 ≤ wt F C J m draw ∧ wt F C J m draw ≤ cl C + cl J := by
  have h := left_range draw J
  have h1 := cl_range C
  have h2 := cl_range F
  have h3 := mn_le (cl F * 2 ^ m.toNat) (cl C)
  have h4 : 0 ≤ mn (cl F * 2 ^ m.toNat) (cl C) := mn_pos (Int.mul_nonneg h2.1 (by have := pow_pos2 m.toNat; omega)) h1.1
  unfold wt
  omega
theorem end_eq (n C J draw : Int) (hn : 0 ≤ n) : wrap64 (mn n (cl C) + wrap64 (Int.tmod (IntKind.u64.wrap draw) (IntKind.u64.wrap (wrap64 (cl J + 1))))) = mn n (cl C) + left_ draw J := by
  have h := cl_range J
  have h1 := cl_range C
  have h2 := mn_le n (cl C)
  have h3 : 0 ≤ mn n (cl C) := mn_pos hn h1.1
  have h4 := left_range draw J
  have h5 := u64_range draw
  rw [wrap_small (n := cl J + 1) (by omega) (by omega), u64_id (n := cl J + 1) (by omega) (by omega), Int.tmod_eq_emod_of_nonneg h5.1]
  have e : IntKind.u64.wrap draw % (cl J + 1) = left_ draw J := rfl
  rw [e, wrap_small (n := left_ draw J) (by omega) (by omega), wrap_small (by omega) (by omega)]
theorem clip_eq (x : Int) : backoff_clip.f x = some (cl x) := rfl
theorem wait_l0 (draw m : Int) (l0 : List ByteArray) (l1 : List (S107)) (a2 a3 a4 a5 a6 a7 F C J a11 : Int) (d : Nat) : ∀ (k : Nat) (n i : Int), 0 ≤ n → n ≤ 1000 → 0 ≤ i → m ≤ 6 → m - i = d → d < k →
    backoff_Wait.l0 k draw n m i l0 l1 a2 a3 a4 a5 a6 a7 F C J a11 = some (mn (n * 2 ^ d) (cl C) + left_ draw J) := by
  induction d with
  | zero =>
    intro k n i h0 h1 hi hm hd hk
    obtain ⟨k, rfl⟩ : ∃ q, k = q + 1 := ⟨k - 1, by omega⟩
    have hJ := cl_range J
    simp only [backoff_Wait.l0]
    rw [if_neg (by omega), clip_eq, clip_eq]
    simp only [Option.bind_some]
    rw [if_neg, end_eq n C J draw h0]
    · simp
    · rw [wrap_small (by omega) (by omega), u64_id (by omega) (by omega)]; omega
  | succ d ih =>
    intro k n i h0 h1 hi hm hd hk
    obtain ⟨k, rfl⟩ : ∃ q, k = q + 1 := ⟨k - 1, by omega⟩
    have hC := cl_range C
    simp only [backoff_Wait.l0]
    rw [if_pos (by omega), clip_eq]
    simp only [Option.bind_some]
    rw [wrap_small (n := 2 * n) (by omega) (by omega), wrap_small (n := i + 1) (by omega) (by omega)]
    rw [ih k (mn (2 * n) (cl C)) (i + 1) (mn_pos (by omega) hC.1) (by have := mn_le (2 * n) (cl C); omega) (by omega) hm (by omega) (by omega)]
    rw [mn_mul h0 hC.1 (pow_pos2 d), Int.pow_succ, Int.mul_comm (2 ^ d) 2]
theorem wait_f (k : Nat) (hk : 7 ≤ k) (l0 : List ByteArray) (l1 : List (S107)) (a2 a3 a4 a5 a6 a7 F C J a11 try_ draw : Int) :
    backoff_Wait.f k l0 l1 a2 a3 a4 a5 a6 a7 F C J a11 try_ draw = some (wt F C J (tr try_) draw) := by
  have h := tr_range try_
  have hF := cl_range F
  unfold backoff_Wait.f
  rw [clip_eq]
  simp only [Option.bind_some]
  exact wait_l0 draw (tr try_) l0 l1 a2 a3 a4 a5 a6 a7 F C J a11 (tr try_).toNat k (cl F) 0 hF.1 hF.2 (by omega) h.2 (by omega) (by omega)
theorem try_f (x : Int) : backoff_Try.f x = some (mn (tr x + 1) 6) := rfl
theorem back_Try (t : Int) (w : World) : Calls Tryz.prog 120 #[.int .i64 t] w fun e w' => e = .returned (.int .i64 (mn (tr t + 1) 6)) ∧ Below w.heap.size w w' := backoff_Try.calls t _ w (try_f t)
set_option maxRecDepth 100000 in
theorem back_Wait (c : Cfg) (t draw : Int) (w : World) (h1 : Kd.C Kd.string w c.A0 c.words.length c.words) (h2 : c.words.length ≤ c.c0) (h3 : Kd.C k107 w c.A1 c.cuts.length c.cuts) (h4 : c.cuts.length ≤ c.c1) : Calls Tryz.prog 123 #[c.val, .int .i64 t, .int .i64 draw] w fun e w' => e = .returned (.int .i64 (wt c.fi c.ca c.ji (tr t) draw)) ∧ Below w.heap.size w w' :=
  backoff_Wait.calls 7 c.A0 c.c0 c.words c.A1 c.c1 c.cuts c.wk c.cp c.sl c.ba c.le c.he c.fi c.ca c.ji c.ne t draw _ w h1 h2 h3 h4 (wait_f 7 (by omega) _ _ _ _ _ _ _ _ _ _ _ _ _ _)
end Go.Proofs.YthbngidbfhcdaaaGreat.C
/- coord.wants, walked. -/
namespace Go.Proofs.YthbngidbfhcdaaaGreat.C
open Go.RowKit Go.Maps Go.Proofs.YthbngidbfhcdaaaGreat.Mem Go.Proofs.YthbngidbfhcdaaaGreatW.PrintWords Go.Proofs.YthbngidbfhcdaaaGreat.PCoordScript
set_option linter.unusedVariables false
set_option linter.unusedSimpArgs false
/-- What a call leaves that makes no query: the queries' blocks stay. -/
structure CoResB (c : Cfg) (base : Nat) (ρ : Nat → Own) (I : CoIds) (blk : Int → Nat) (S' : Co) (ls : List LetD) (w w' : World) (v : Value) : Prop where
  co : ∃ ρ', Ext ρ ρ' w ∧ CoAt c base ρ' I blk S' w' ∧ Kd.R kLet 51 w' w.heap.size (fun k => ρ' k = .z) v ls
  only : Only (fun k => ρ k ≠ .z) w w'
theorem CoResB.after {c : Cfg} {base : Nat} {ρ ρ' : Nat → Own} {I : CoIds} {blk : Int → Nat} {S' : Co} {ls : List LetD} {w X w' : World} {v : Value} (hE : Ext ρ ρ' w) (hO : Only (fun k => ρ k ≠ .z) w X) (h : CoResB c base ρ' I blk S' ls X w' v) : CoResB c base ρ I blk S' ls w w' v := by
  obtain ⟨⟨ρ2, e1, e2, e3⟩, e4⟩ := h
  exact ⟨⟨ρ2, hE.trans e1 hO.size, e2, Kd.R_lower e3 hO.size⟩, hO.trans e4 fun k hk e => (hE.new k e).elim (fun h => h) fun h => absurd hk (Nat.not_lt.2 h)⟩
theorem timer_At' (base : Nat) (ok : Nat → Prop) (t : Nat) (f : Int → Option Int) (id : Int) (w : World) (h : TmF w base ok t f) (hb : InT f) :
    Calls Tryz.prog 116 #[.pointer (some ⟨t, 0, none⟩), .int .i64 id] w fun e w' => e = .returned (.tuple #[.int .i64 ((f id).getD 0), .bool (f id).isSome]) ∧ Below w.heap.size w w' := by
  obtain ⟨l, ⟨v, hb0, hr0⟩, hs⟩ := h
  have h24 := hs.few hb
  obtain ⟨A, c, rfl⟩ := Kd.R_slice hr0
  obtain ⟨_, hc, hC⟩ := Kd.R_reads' hr0
  rw [← (atT_says hs id).1, ← (atT_says hs id).2]
  exact timer_At t 24 A c l id w hb0 hC hc h24
def tidOf (s sh : Nat) : Int := 6 * (s : Int) + sh
def hedgeB (c : Cfg) (S : Co) (t : Tn) : Bool := !t.hedged && decide (c.he ≤ S.now - t.first)
def wantT (c : Cfg) (S : Co) (s : Nat) (y : Qy) (sh : Nat) : Tn := match S.T (tidOf s sh) with
  | none => ⟨max (liveIx S.L S.now (c.copies sh)) 0, 0, S.now, false⟩
  | some a => if a ≤ S.now then { y.t sh with turn := (y.t sh).turn + 1, tries := mn (tr (y.t sh).tries + 1) 6 } else if hedgeB c S (y.t sh) = true then { y.t sh with hedged := true } else y.t sh
def updN (t : Nat → Tn) (sh : Nat) (u : Tn) : Nat → Tn := fun i => if i = sh then u else t i
def Co.turn (S : Co) (s : Nat) (y : Qy) (sh : Nat) (u : Tn) : Co := { S with Q := updQ S.Q s (some { y with t := updN y.t sh u }) }
def dueB (S : Co) (s sh : Nat) : Bool := match S.T (tidOf s sh) with
  | none => true
  | some a => decide (a ≤ S.now)
def Co.wants (c : Cfg) (S : Co) (s : Nat) (y : Qy) (sh : Nat) (draw : Int) : Co :=
  if dueB S s sh = true then { S.turn s y sh (wantT c S s y sh) with T := updT S.T (tidOf s sh) (some (min (S.now + wt c.fi c.ca c.ji (tr (wantT c S s y sh).tries) draw) 1099511627776)) }
  else S.turn s y sh (wantT c S s y sh)
def wantL (c : Cfg) (S : Co) (s : Nat) (y : Qy) (sh : Nat) : List LetD :=
  if dueB S s sh = true then askOf c S s y sh (wantT c S s y sh).turn
  else if hedgeB c S (y.t sh) = true then askOf c S s y sh ((y.t sh).turn + 1) else []
/-- Bounds of a turn. -/
structure TnOk (t : Tn) : Prop where
  turn : 0 ≤ t.turn ∧ t.turn ≤ 1099511627776
  first : 0 ≤ t.first ∧ t.first ≤ 1099511627776
/-- A cell of a query's turn, in its box. -/
theorem qy_turn {s : Nat} {y : Qy} {g sh i : Nat} (hsh : sh < 6) (hi : i < 4) : (qyV s y g)[6 + sh * 4 + i]? = some ((tnV (y.t sh)).getD i (.bool false)) := by
  have h6 : sh = 0 ∨ sh = 1 ∨ sh = 2 ∨ sh = 3 ∨ sh = 4 ∨ sh = 5 := by omega
  have h4 : i = 0 ∨ i = 1 ∨ i = 2 ∨ i = 3 := by omega
  rcases h6 with rfl | rfl | rfl | rfl | rfl | rfl <;> rcases h4 with rfl | rfl | rfl | rfl <;> rfl
theorem put4 {W : World} {b : Nat} {t : TypeId} {cs cs' : Array Value} (h : W.heap[b]? = some (.cells cs t (0, 0))) {i1 i2 i3 i4 : Nat} {v1 v2 v3 v4 : Value} (e : (((cs.setIfInBounds i1 v1).setIfInBounds i2 v2).setIfInBounds i3 v3).setIfInBounds i4 v4 = cs') :
    ((((W.setCell ⟨b, i1, none⟩ v1).setCell ⟨b, i2, none⟩ v2).setCell ⟨b, i3, none⟩ v3).setCell ⟨b, i4, none⟩ v4).heap[b]? = some (.cells cs' t (0, 0)) := blk_put (blk_put (blk_put (blk_put h i1 v1 rfl) i2 v2 rfl) i3 v3 rfl) i4 v4 e
theorem put2 {W : World} {b : Nat} {t : TypeId} {cs cs' : Array Value} (h : W.heap[b]? = some (.cells cs t (0, 0))) {i1 i2 : Nat} {v1 v2 : Value} (e : (cs.setIfInBounds i1 v1).setIfInBounds i2 v2 = cs') :
    ((W.setCell ⟨b, i1, none⟩ v1).setCell ⟨b, i2, none⟩ v2).heap[b]? = some (.cells cs' t (0, 0)) := blk_put (blk_put h i1 v1 rfl) i2 v2 e
theorem qy_put4 {s : Nat} {y : Qy} {g sh : Nat} (hsh : sh < 6) (u : Tn) :
    ((((qyV s y g).setIfInBounds (6 + sh * 4) (.int .i64 u.turn)).setIfInBounds (6 + sh * 4 + 1) (.int .i64 u.tries)).setIfInBounds (6 + sh * 4 + 2) (.int .i64 u.first)).setIfInBounds (6 + sh * 4 + 3) (.bool u.hedged) = qyV s { y with t := updN y.t sh u } g := by
  have h6 : sh = 0 ∨ sh = 1 ∨ sh = 2 ∨ sh = 3 ∨ sh = 4 ∨ sh = 5 := by omega
  rcases h6 with rfl | rfl | rfl | rfl | rfl | rfl <;> rfl
theorem qy_tries {s : Nat} {y : Qy} {g sh : Nat} (hsh : sh < 6) (a b : Int) :
    ((qyV s y g).setIfInBounds (6 + sh * 4 + 1) (.int .i64 a)).setIfInBounds (6 + sh * 4) (.int .i64 b) = qyV s { y with t := updN y.t sh { y.t sh with tries := a, turn := b } } g := by
  have h6 : sh = 0 ∨ sh = 1 ∨ sh = 2 ∨ sh = 3 ∨ sh = 4 ∨ sh = 5 := by omega
  rcases h6 with rfl | rfl | rfl | rfl | rfl | rfl <;> rfl
theorem qy_hedge {s : Nat} {y : Qy} {g sh : Nat} (hsh : sh < 6) (a : Bool) :
    (qyV s y g).setIfInBounds (6 + sh * 4 + 3) (.bool a) = qyV s { y with t := updN y.t sh { y.t sh with hedged := a } } g := by
  have h6 : sh = 0 ∨ sh = 1 ∨ sh = 2 ∨ sh = 3 ∨ sh = 4 ∨ sh = 5 := by omega
  rcases h6 with rfl | rfl | rfl | rfl | rfl | rfl <;> rfl
theorem only4 {W : World} {b i1 i2 i3 i4 : Nat} {v1 v2 v3 v4 : Value} : Only (fun k => k = b) W ((((W.setCell ⟨b, i1, none⟩ v1).setCell ⟨b, i2, none⟩ v2).setCell ⟨b, i3, none⟩ v3).setCell ⟨b, i4, none⟩ v4) :=
  (((Only.setB _ _ _ _).set (p := ⟨b, i2, none⟩) (fun _ => rfl) v2).set (p := ⟨b, i3, none⟩) (fun _ => rfl) v3).set (p := ⟨b, i4, none⟩) (fun _ => rfl) v4
theorem only2 {W : World} {b i1 i2 : Nat} {v1 v2 : Value} : Only (fun k => k = b) W ((W.setCell ⟨b, i1, none⟩ v1).setCell ⟨b, i2, none⟩ v2) :=
  (Only.setB _ _ _ _).set (p := ⟨b, i2, none⟩) (fun _ => rfl) v2
theorem box_of {W : World} {b s g : Nat} {y : Qy} {A : Array Value} (e : A = qyV s y g) (h : W.heap[b]? = some (.cells A 141 (0, 0))) : W.heap[b]? = some (QyB s y g) := by
  rw [e] at h
  exact h
theorem box_to {W : World} {b s g : Nat} {y : Qy} (h : W.heap[b]? = some (QyB s y g)) : ∃ A, A = qyV s y g ∧ W.heap[b]? = some (.cells A 141 (0, 0)) := ⟨_, rfl, h⟩
theorem qy_box4 {W : World} {b s g sh : Nat} {y : Qy} (hsh : sh < 6) (u : Tn) (h : W.heap[b]? = some (QyB s y g)) :
    ((((W.setCell ⟨b, 6 + sh * 4, none⟩ (.int .i64 u.turn)).setCell ⟨b, 6 + sh * 4 + 1, none⟩ (.int .i64 u.tries)).setCell ⟨b, 6 + sh * 4 + 2, none⟩ (.int .i64 u.first)).setCell ⟨b, 6 + sh * 4 + 3, none⟩ (.bool u.hedged)).heap[b]? = some (QyB s { y with t := updN y.t sh u } g) := by
  obtain ⟨A, hA, h'⟩ := box_to h
  have e := qy_put4 (s := s) (y := y) (g := g) hsh u
  rw [← hA] at e
  exact box_of e (put4 h' rfl)
theorem qy_box2 {W : World} {b s g sh : Nat} {y : Qy} (hsh : sh < 6) (a d : Int) (h : W.heap[b]? = some (QyB s y g)) :
    ((W.setCell ⟨b, 6 + sh * 4 + 1, none⟩ (.int .i64 a)).setCell ⟨b, 6 + sh * 4, none⟩ (.int .i64 d)).heap[b]? = some (QyB s { y with t := updN y.t sh { y.t sh with tries := a, turn := d } } g) := by
  obtain ⟨A, hA, h'⟩ := box_to h
  have e := qy_tries (s := s) (y := y) (g := g) hsh a d
  rw [← hA] at e
  exact box_of e (put2 h' rfl)
theorem qy_box1 {W : World} {b s g sh : Nat} {y : Qy} (hsh : sh < 6) (a : Bool) (h : W.heap[b]? = some (QyB s y g)) :
    (W.setCell ⟨b, 6 + sh * 4 + 3, none⟩ (.bool a)).heap[b]? = some (QyB s { y with t := updN y.t sh { y.t sh with hedged := a } } g) := by
  obtain ⟨A, hA, h'⟩ := box_to h
  have e := qy_hedge (s := s) (y := y) (g := g) hsh a
  rw [← hA] at e
  exact box_of e (blk_put h' _ _ rfl)
theorem CoAt.turn4 {c : Cfg} {base : Nat} {ρ : Nat → Own} {I : CoIds} {blk : Int → Nat} {S : Co} {W : World} {s sh : Nat} {y : Qy} (h : CoAt c base ρ I blk S W) (hs : s < 4) (hy : S.Q s = some y) (hsh : sh < 6) (u : Tn) :
    CoAt c base ρ I blk (S.turn s y sh u) ((((W.setCell ⟨blk y.id, 6 + sh * 4, none⟩ (.int .i64 u.turn)).setCell ⟨blk y.id, 6 + sh * 4 + 1, none⟩ (.int .i64 u.tries)).setCell ⟨blk y.id, 6 + sh * 4 + 2, none⟩ (.int .i64 u.first)).setCell ⟨blk y.id, 6 + sh * 4 + 3, none⟩ (.bool u.hedged)) :=
  CoAt.turned h hs hy (updN y.t sh u) only4 fun g hg => qy_box4 hsh u hg
theorem CoAt.turn2 {c : Cfg} {base : Nat} {ρ : Nat → Own} {I : CoIds} {blk : Int → Nat} {S : Co} {W : World} {s sh : Nat} {y : Qy} (h : CoAt c base ρ I blk S W) (hs : s < 4) (hy : S.Q s = some y) (hsh : sh < 6) (a d : Int) :
    CoAt c base ρ I blk (S.turn s y sh { y.t sh with tries := a, turn := d }) ((W.setCell ⟨blk y.id, 6 + sh * 4 + 1, none⟩ (.int .i64 a)).setCell ⟨blk y.id, 6 + sh * 4, none⟩ (.int .i64 d)) :=
  CoAt.turned h hs hy (updN y.t sh _) only2 fun g hg => qy_box2 hsh a d hg
theorem CoAt.turn1 {c : Cfg} {base : Nat} {ρ : Nat → Own} {I : CoIds} {blk : Int → Nat} {S : Co} {W : World} {s sh : Nat} {y : Qy} (h : CoAt c base ρ I blk S W) (hs : s < 4) (hy : S.Q s = some y) (hsh : sh < 6) (a : Bool) :
    CoAt c base ρ I blk (S.turn s y sh { y.t sh with hedged := a }) (W.setCell ⟨blk y.id, 6 + sh * 4 + 3, none⟩ (.bool a)) :=
  CoAt.turned h hs hy (updN y.t sh _) (Only.setB _ _ _ _) fun g hg => qy_box1 hsh a hg
set_option maxRecDepth 100000 in
set_option maxHeartbeats 600000 in
theorem coord_wants_first (c : Cfg) (base : Nat) (ρ : Nat → Own) (I : CoIds) (blk : Int → Nat) (S : Co) (s : Nat) (y : Qy) (sh : Nat) (draw : Int) (w : World) (h : CoAt c base ρ I blk S w) (hm : c.May) (hs : s < 4) (hy : S.Q s = some y) (hsh : sh ≤ c.cuts.length) (hshl : sh < y.m.sh.length) (hnow : 0 ≤ S.now ∧ S.now ≤ 549755813888) (hT : S.T (tidOf s sh) = none) :
    Calls Tryz.prog 70 #[.pointer (some ⟨I.x, 0, none⟩), .pointer (some ⟨blk y.id, 0, none⟩), .int .i64 sh, .int .i64 draw] w fun e w' => ∃ v, e = .returned v ∧ CoResB c base ρ I blk (S.wants c s y sh draw) (wantL c S s y sh) w w' v := by
  obtain ⟨⟨hw1, hw2⟩, ⟨hp1, hp2, _⟩, _⟩ := hm.nums
  have h5 := hm.2.1.1
  obtain ⟨dv, hco, _⟩ := h.co
  obtain ⟨g, gs, cap, tv, hQ⟩ := h.qat s y hs hy
  obtain ⟨ad, cc, A2, c2, hcv, hcell, hcap2, hC2⟩ := h.copies_at sh hsh
  have hl := copies_len c sh
  have hs0 : (0 : Int) ≤ s ∧ (s : Int) ≤ 1000 := by omega
  have hk0 : (0 : Int) ≤ sh ∧ (sh : Int) ≤ 1000 := by omega
  have hsh6 : sh < 6 := by omega
  have hsh1 : sh < c.cuts.length + 1 := by omega
  rw [hcv] at hco
  have HX : Aside0 (∀ W, Below w.heap.size w W → W.heap[I.x]? = some (CoB (c.bare I.A1 I.c1) (.slice (some ad) (c.cuts.length + 1) cc) S.now (.pointer (some ⟨I.l, 0, none⟩)) (.pointer (some ⟨I.s, 0, none⟩)) (.pointer (some ⟨I.t, 0, none⟩)) (.map (some I.m)) dv) ∧ W.heap[blk y.id]? = some (QyB s y g) ∧ W.heap[I.l]? = some (Tab c.wk c.le S.L)) :=
    ⟨fun W hb => ⟨blk_below hco hb, blk_below hQ.box hb, blk_below h.tab hb⟩⟩
  have y1 : w.cell? ⟨blk y.id, 1, none⟩ = some (.int .i64 s) := (blk_cell hQ.box 1).trans rfl
  have hly := World.block_lt_of_cell? w _ y1
  have H := Aside0.mk h
  have HC2 := Aside0.mk hC2
  have HCELL := Aside0.mk hcell
  have HT := Aside0.mk hT
  have hl24 : (c.copies sh).length ≤ 24 := by omega
  clear h hco hQ hcv hcell hC2 hT hl
  go_enter Tryz.func70, Tryz.ntmps70
  go_upto_region 3 with (go_at_call 112; refine (coord_timerID _ _ _ hs0 hk0).mono ?_; rintro e w1 ⟨rfl, hw⟩; obtain rfl := hw.symm)
  refine Rd.gen_wp (R := fun V => Below w.heap.size w V ∧ V.cell? ⟨w.heap.size, 0, none⟩ = some (.pointer (some ⟨I.x, 0, none⟩))) ⟨below_alloc (Below.refl _ _) _, (blk_cell (blk_new _ _) 0).trans rfl⟩ ?_
  clear y1
  rintro V ⟨hbV, hpV⟩
  have HBV := Aside0.mk hbV
  have HPV := Aside0.mk hpV
  have htid : 6 * (s : Int) + (sh : Int) = tidOf s sh := rfl
  rw [htid]
  generalize htq : tidOf s sh = tid at *
  have x16 : V.cell? ⟨I.x, 16, none⟩ = some (.pointer (some ⟨I.t, 0, none⟩)) := (blk_cell (HX.out V hbV).1 16).trans rfl
  have hnn : (S.T tid).isSome = false := by rw [HT.out]; rfl
  go_upto_region 5 with (go_at_call 116; refine (timer_At' base (fun k => ρ k = .co 3) I.t S.T tid _ (H.out.fresh HBV.out).tim H.out.tin).mono ?_; rintro e w2 ⟨rfl, hb⟩; rw [hnn]; have HB2 := Aside0.mk (below_step HBV.out hb); have HP2 := Aside0.mk (pw_cell_below hb HPV.out); clear hb)
  have hx2 := HX.out w2 HB2.out
  have p2 := HP2.out
  have x12 : w2.cell? ⟨I.x, 12, none⟩ = some (.slice (some ad) (c.cuts.length + 1) cc) := (blk_cell hx2.1 12).trans rfl
  have hcl : w2.cell? (ad.add sh) = some (.slice A2 (c.copies sh).length c2) := pw_cell_below HB2.out HCELL.out
  have hcin : ∀ k ∈ c.copies sh, 1 ≤ k ∧ k ≤ c.wk := fun k hk => copies_in hm (by omega) hk
  have HCI := Aside0.mk hcin
  clear x16 hpV hbV hx2 hcin
  go_upto_region 7 with (go_at_call 117; refine (live_index A2 c2 (c.copies sh) w.heap.size I.x I.l c.wk c.le S.now S.L _ (Kd.C_below HC2.out HB2.out) hcap2 hl24 HCI.out hw2 HP2.out ((blk_cell (HX.out _ HB2.out).1 13).trans rfl) ((blk_cell (HX.out _ HB2.out).1 14).trans rfl) (HX.out _ HB2.out).2.2).mono ?_; rintro e w3 ⟨rfl, hb⟩; have HB3 := Aside0.mk (below_step HB2.out hb); have HP3 := Aside0.mk (pw_cell_below hb HP2.out); clear hb)
  have hx3 := HX.out w3 HB3.out
  have HX3 := Aside0.mk hx3
  have p3 := HP3.out
  have x13 : w3.cell? ⟨I.x, 13, none⟩ = some (.int .i64 S.now) := (blk_cell hx3.1 13).trans rfl
  have fz : ∀ i, w3.frozen? ⟨blk y.id, i, none⟩ = false := fun i => blk_frozen hx3.2.1 i
  have hz0 : w3.cell? ⟨blk y.id, 6 + sh * 4, none⟩ = some (.int .i64 (y.t sh).turn) := (blk_cell hx3.2.1 _).trans (qy_turn hsh6 (i := 0) (by omega))
  have hz1 : w3.cell? ⟨blk y.id, 6 + sh * 4 + 1, none⟩ = some (.int .i64 (y.t sh).tries) := (blk_cell hx3.2.1 _).trans (qy_turn hsh6 (i := 1) (by omega))
  have hz2 : w3.cell? ⟨blk y.id, 6 + sh * 4 + 2, none⟩ = some (.int .i64 (y.t sh).first) := (blk_cell hx3.2.1 _).trans (qy_turn hsh6 (i := 2) (by omega))
  have hz3 : w3.cell? ⟨blk y.id, 6 + sh * 4 + 3, none⟩ = some (.bool (y.t sh).hedged) := (blk_cell hx3.2.1 _).trans (qy_turn hsh6 (i := 3) (by omega))
  clear p2 x12 hcl hx3
  go_upto_region 14 with fail
  obtain ⟨u, hu⟩ : ∃ u : Tn, u = ⟨max (liveIx S.L S.now (c.copies sh)) 0, 0, S.now, false⟩ := ⟨_, rfl⟩
  have hCT : CoAt c base ρ I blk (S.turn s y sh u) ((((w3.setCell ⟨blk y.id, 6 + sh * 4, none⟩ (.int .i64 u.turn)).setCell ⟨blk y.id, 6 + sh * 4 + 1, none⟩ (.int .i64 u.tries)).setCell ⟨blk y.id, 6 + sh * 4 + 2, none⟩ (.int .i64 u.first)).setCell ⟨blk y.id, 6 + sh * 4 + 3, none⟩ (.bool u.hedged)) :=
    CoAt.turn4 (H.out.fresh HB3.out) hs hy hsh6 u
  have HCT := Aside0.mk hCT
  clear hCT
  have HU := Aside0.mk hu
  clear hu
  have hO4 : Only (fun k => k = blk y.id) w ((((w3.setCell ⟨blk y.id, 6 + sh * 4, none⟩ (.int .i64 u.turn)).setCell ⟨blk y.id, 6 + sh * 4 + 1, none⟩ (.int .i64 u.tries)).setCell ⟨blk y.id, 6 + sh * 4 + 2, none⟩ (.int .i64 u.first)).setCell ⟨blk y.id, 6 + sh * 4 + 3, none⟩ (.bool u.hedged)) := (Only.fresh HB3.out _).next only4
  have hP4 : ((((w3.setCell ⟨blk y.id, 6 + sh * 4, none⟩ (.int .i64 u.turn)).setCell ⟨blk y.id, 6 + sh * 4 + 1, none⟩ (.int .i64 u.tries)).setCell ⟨blk y.id, 6 + sh * 4 + 2, none⟩ (.int .i64 u.first)).setCell ⟨blk y.id, 6 + sh * 4 + 3, none⟩ (.bool u.hedged)).cell? ⟨w.heap.size, 0, none⟩ = some (.pointer (some ⟨I.x, 0, none⟩)) := by
    have hne : w.heap.size ≠ blk y.id := by omega
    refine (World.cell?_of_block ?_).trans HP3.out
    rw [Below.heap_setCell _ _ _ _ hne, Below.heap_setCell _ _ _ _ hne, Below.heap_setCell _ _ _ _ hne, Below.heap_setCell _ _ _ _ hne]
  have HO4 := Aside0.mk hO4
  have HP4 := Aside0.mk hP4
  clear hO4 hP4
  refine Rd.gen_wp (R := fun V => CoAt c base ρ I blk (S.turn s y sh u) V ∧ Only (fun k => k = blk y.id) w V ∧ V.cell? ⟨w.heap.size, 0, none⟩ = some (.pointer (some ⟨I.x, 0, none⟩))) (by
    have a1 := HCT.out
    have a2 := HO4.out
    have a3 := HP4.out
    rw [HU.out] at a1 a2 a3
    rw [HU.out]
    exact ⟨a1, a2, a3⟩) ?_
  clear HCT HO4 HP4 hz0 hz1 hz2 hz3 fz p3 x13 HP3 HX3 HP2 HB3 HB2 HPV HBV
  rintro W ⟨hC, hO, hP⟩
  obtain ⟨S1, hS1⟩ : ∃ S1, S1 = S.turn s y sh u := ⟨_, rfl⟩
  obtain ⟨yy, hyy⟩ : ∃ yy : Qy, yy = { y with t := updN y.t sh u } := ⟨_, rfl⟩
  have hyid : yy.id = y.id := by rw [hyy]
  have hut : yy.t sh = u := by
    rw [hyy]
    show (if sh = sh then u else _) = u
    rw [if_pos rfl]
  have hQ1 : S1.Q s = some yy := by
    rw [hS1, hyy]
    show updQ S.Q s _ s = _
    unfold updQ
    rw [if_pos rfl]
  have hn1 : S1.now = S.now := by rw [hS1]; rfl
  have hL1 : S1.L = S.L := by rw [hS1]; rfl
  have hT1 : S1.T = S.T := by rw [hS1]; rfl
  have hm1 : yy.m = y.m := by rw [hyy]
  rw [← hS1] at hC
  have HS1 := Aside0.mk hS1
  have HYY := Aside0.mk hyy
  obtain ⟨dv1, hco1, _⟩ := hC.co
  obtain ⟨g1, gs1, cap1, tv1, hQA1⟩ := hC.qat s yy hs hQ1
  rw [hn1] at hco1
  rw [hyid] at hQA1
  have hbox1 := hQA1.box
  have hcuts := Kd.R_reads' hC.cuts
  have hbas : base ≤ W.heap.size := by have := hC.own I.x (by rw [hC.roles.1]; simp); omega
  have hwr : 0 ≤ wt c.fi c.ca c.ji (tr u.tries) draw ∧ wt c.fi c.ca c.ji (tr u.tries) draw ≤ 2000 := by
    have := wt_range c.fi c.ca c.ji (tr u.tries) draw
    have := cl_range c.ca
    have := cl_range c.ji
    omega
  obtain ⟨dd, hdd⟩ : ∃ dd, dd = wt c.fi c.ca c.ji (tr u.tries) draw := ⟨_, rfl⟩
  rw [← hdd] at hwr
  have HDD := Aside0.mk hdd
  have htidr : 0 ≤ tid ∧ tid < 24 := by rw [← htq]; unfold tidOf; omega
  have HF : Aside0 (∀ W' : World, W'.heap[I.x]? = W.heap[I.x]? → W'.heap[w.heap.size]? = W.heap[w.heap.size]? → W'.heap[blk y.id]? = W.heap[blk y.id]? →
      W'.heap[I.x]? = some (CoB (c.bare I.A1 I.c1) I.cv S.now (.pointer (some ⟨I.l, 0, none⟩)) (.pointer (some ⟨I.s, 0, none⟩)) (.pointer (some ⟨I.t, 0, none⟩)) (.map (some I.m)) dv1) ∧ W'.cell? ⟨w.heap.size, 0, none⟩ = some (.pointer (some ⟨I.x, 0, none⟩)) ∧ W'.cell? ⟨blk y.id, 6 + sh * 4 + 1, none⟩ = some (.int .i64 u.tries) ∧ W'.cell? ⟨blk y.id, 6 + sh * 4, none⟩ = some (.int .i64 u.turn)) :=
    ⟨fun W' e1 e2 e3 => ⟨e1.trans hco1, (World.cell?_of_block e2).trans hP, (blk_cell (e3.trans hbox1) _).trans (by rw [← hut]; exact qy_turn hsh6 (i := 1) (by omega)), (blk_cell (e3.trans hbox1) _).trans (by rw [← hut]; exact qy_turn hsh6 (i := 0) (by omega))⟩⟩
  have HWT : Aside0 (∀ W' : World, Below W.heap.size W W' → Calls Tryz.prog 123 #[.agg #[.slice none 0 0, .slice I.A1 c.cuts.length I.c1, .int .i64 c.wk, .int .i64 c.cp, .int .i64 c.sl, .int .i64 c.ba, .int .i64 c.le, .int .i64 c.he, .int .i64 c.fi, .int .i64 c.ca, .int .i64 c.ji, .int .i64 c.ne], .int .i64 u.tries, .int .i64 draw] W' fun e w' => e = .returned (.int .i64 dd) ∧ Below W.heap.size W w') :=
    ⟨fun W' hb => (back_Wait (c.bare I.A1 I.c1) u.tries draw W' (Kd.C_nil _ _) (Nat.le_refl _) (Kd.C_below hcuts.2.2 hb) hcuts.2.1).mono fun e w' ⟨he, hb'⟩ => ⟨by rw [he, hdd]; rfl, below_step hb hb'⟩⟩
  have HC := Aside0.mk hC
  have HO := Aside0.mk hO
  have hwrap : IntKind.i64.wrap (S.now + dd) = S.now + dd := IntWalk.i64_in _ (by omega)
  have HCU := Aside0.mk hcuts
  have HP := Aside0.mk hP
  have hlp := World.block_lt_of_cell? W _ hP
  have HQB := Aside0.mk hbox1
  have hlx : I.x < W.heap.size := (hC.own I.x (by rw [hC.roles.1]; simp)).2
  have hlb := blk_lt hbox1
  have HQO := Aside0.mk hQA1.bo
  have hrx : Aside0 (ρ I.x = .co 0) := ⟨hC.roles.1⟩
  have hrt : Aside0 (ρ I.t = .co 3) := ⟨hC.roles.2.2.2.1⟩
  have HT1 : Aside0 (TmF W base (fun k => ρ k = .co 3) I.t S.T) := ⟨by rw [← hT1]; exact hC.tim⟩
  have hrp : Aside0 (ρ w.heap.size = .z) := ⟨by
    cases e : ρ w.heap.size with
    | z => rfl
    | _ => exact absurd (H.out.own w.heap.size (by rw [e]; simp)).2 (Nat.lt_irrefl _)⟩
  have HST : Aside0 (∀ W' : World, Below W.heap.size W W' → Calls Tryz.prog 122 #[.pointer (some ⟨I.t, 0, none⟩), .int .i64 tid, .int .i64 (min (S.now + dd) 1099511627776)] W' fun e w6 => e = .returned (.int .i64 0) ∧ TmF w6 base (fun k => ρ k = .co 3 ∨ W.heap.size ≤ k) I.t (updT S.T tid (some (min (S.now + dd) 1099511627776))) ∧ Only (fun k => k = I.t ∨ ρ k = .co 3) W w6 ∧ _) :=
    ⟨fun W' hb => (timer_Set base (fun k => ρ k = .co 3) I.t S.T tid (min (S.now + dd) 1099511627776) W' (HT1.out.move (hb.block _ (HC.out.own I.t (by rw [hrt.out]; simp)).2) fun k hk _ => hb.block k hk) H.out.tin htidr (by omega) (Nat.le_trans hbas hb.size)).mono fun e w6 ⟨he, hT, hO⟩ => by
      have hO6 : Only (fun k => k = I.t ∨ ρ k = .co 3) W w6 := (Only.fresh hb _).next hO
      have key : ∀ {k : Nat} {r : Own}, k < W.heap.size → ρ k = r → r ≠ .co 3 → w6.heap[k]? = W.heap[k]? := fun {k r} hk hr hne => hO6.block k hk (by rintro (e | e); exact hne (by rw [e] at hr; exact hr.symm.trans hrt.out); exact hne (hr.symm.trans e))
      obtain ⟨l, ⟨v, q1, q2⟩, q3⟩ := hT
      exact ⟨he, ⟨l, ⟨v, q1, ⟨fun k hk => (q2.1 k hk).imp (fun h => h) fun h => Nat.le_trans hb.size h, q2.2.imp_ fun _ _ hp => hp⟩⟩, q3⟩, hO6, HF.out w6 (key hlx hrx.out (by simp)) (key hlp hrp.out (by simp)) (key hlb HQO.out (by simp))⟩⟩
  clear hC hO hcuts hP hbox1 hQA1 hco1 hS1 hyy hdd hQ1 hn1 hL1 hT1 hut
  go_region_held3 (fun W' => W'.heap[I.x]? = some (CoB (c.bare I.A1 I.c1) I.cv S.now (.pointer (some ⟨I.l, 0, none⟩)) (.pointer (some ⟨I.s, 0, none⟩)) (.pointer (some ⟨I.t, 0, none⟩)) (.map (some I.m)) dv1) ∧ W'.cell? ⟨w.heap.size, 0, none⟩ = some (.pointer (some ⟨I.x, 0, none⟩)) ∧ W'.cell? ⟨blk y.id, 6 + sh * 4 + 1, none⟩ = some (.int .i64 u.tries) ∧ W'.cell? ⟨I.x, 0, none⟩ = some (.slice none 0 0) ∧ W'.cell? ⟨I.x, 1, none⟩ = some (.slice I.A1 c.cuts.length I.c1) ∧ W'.cell? ⟨I.x, 2, none⟩ = some (.int .i64 c.wk) ∧ W'.cell? ⟨I.x, 3, none⟩ = some (.int .i64 c.cp) ∧ W'.cell? ⟨I.x, 4, none⟩ = some (.int .i64 c.sl) ∧ W'.cell? ⟨I.x, 5, none⟩ = some (.int .i64 c.ba) ∧ W'.cell? ⟨I.x, 6, none⟩ = some (.int .i64 c.le) ∧ W'.cell? ⟨I.x, 7, none⟩ = some (.int .i64 c.he) ∧ W'.cell? ⟨I.x, 8, none⟩ = some (.int .i64 c.fi) ∧ W'.cell? ⟨I.x, 9, none⟩ = some (.int .i64 c.ca) ∧ W'.cell? ⟨I.x, 10, none⟩ = some (.int .i64 c.ji) ∧ W'.cell? ⟨I.x, 11, none⟩ = some (.int .i64 c.ne) ∧ W'.cell? ⟨I.x, 13, none⟩ = some (.int .i64 S.now) ∧ W'.cell? ⟨I.x, 16, none⟩ = some (.pointer (some ⟨I.t, 0, none⟩)))
    (first
      | exact ⟨(HF.out _ rfl rfl rfl).1, (HF.out _ rfl rfl rfl).2.1, (HF.out _ rfl rfl rfl).2.2.1, (blk_cell (HF.out _ rfl rfl rfl).1 0).trans rfl, (blk_cell (HF.out _ rfl rfl rfl).1 1).trans rfl, (blk_cell (HF.out _ rfl rfl rfl).1 2).trans rfl, (blk_cell (HF.out _ rfl rfl rfl).1 3).trans rfl, (blk_cell (HF.out _ rfl rfl rfl).1 4).trans rfl, (blk_cell (HF.out _ rfl rfl rfl).1 5).trans rfl, (blk_cell (HF.out _ rfl rfl rfl).1 6).trans rfl, (blk_cell (HF.out _ rfl rfl rfl).1 7).trans rfl, (blk_cell (HF.out _ rfl rfl rfl).1 8).trans rfl, (blk_cell (HF.out _ rfl rfl rfl).1 9).trans rfl, (blk_cell (HF.out _ rfl rfl rfl).1 10).trans rfl, (blk_cell (HF.out _ rfl rfl rfl).1 11).trans rfl, (blk_cell (HF.out _ rfl rfl rfl).1 13).trans rfl, (blk_cell (HF.out _ rfl rfl rfl).1 16).trans rfl⟩
      | exact ⟨HF5.out.1, HF5.out.2.1, HF5.out.2.2.1, (blk_cell HF5.out.1 0).trans rfl, (blk_cell HF5.out.1 1).trans rfl, (blk_cell HF5.out.1 2).trans rfl, (blk_cell HF5.out.1 3).trans rfl, (blk_cell HF5.out.1 4).trans rfl, (blk_cell HF5.out.1 5).trans rfl, (blk_cell HF5.out.1 6).trans rfl, (blk_cell HF5.out.1 7).trans rfl, (blk_cell HF5.out.1 8).trans rfl, (blk_cell HF5.out.1 9).trans rfl, (blk_cell HF5.out.1 10).trans rfl, (blk_cell HF5.out.1 11).trans rfl, (blk_cell HF5.out.1 13).trans rfl, (blk_cell HF5.out.1 16).trans rfl⟩
      | exact ⟨HF6.out.1, HF6.out.2.1, HF6.out.2.2.1, (blk_cell HF6.out.1 0).trans rfl, (blk_cell HF6.out.1 1).trans rfl, (blk_cell HF6.out.1 2).trans rfl, (blk_cell HF6.out.1 3).trans rfl, (blk_cell HF6.out.1 4).trans rfl, (blk_cell HF6.out.1 5).trans rfl, (blk_cell HF6.out.1 6).trans rfl, (blk_cell HF6.out.1 7).trans rfl, (blk_cell HF6.out.1 8).trans rfl, (blk_cell HF6.out.1 9).trans rfl, (blk_cell HF6.out.1 10).trans rfl, (blk_cell HF6.out.1 11).trans rfl, (blk_cell HF6.out.1 13).trans rfl, (blk_cell HF6.out.1 16).trans rfl⟩
      | go_keep)
    ((first
| (go_simp; go_at_call 123; with_reducible refine (HWT.out _ ?hw5).mono ?_; (case hw5 => first | exact below_drew1 (Below.refl _ _) | exact Below.refl _ _); rintro e w5 ⟨rfl, hb⟩; have HB5 : Aside0 (Below W.heap.size W w5) := ⟨hb⟩; have HF5 := Aside0.mk (HF.out w5 (hb.block _ hlx) (hb.block _ hlp) (hb.block _ hlb)); clear hb)
      | (go_simp; go_at_call 122; with_reducible refine (HST.out _ HB5.out).mono ?_; rintro e w6 ⟨rfl, hT6, hO6, hF6⟩; have HT6 := Aside0.mk hT6; have HO6 := Aside0.mk hO6; have HF6 := Aside0.mk hF6; clear hT6 hO6 hF6)))
  all_goals
    go_upto_region 15 with fail
    have hdone := CoAt.timed (T' := updT S.T tid (some (min (S.now + dd) 1099511627776))) HC.out HT6.out HO6.out (fun id a ha => by
      unfold updT at ha
      split at ha
      · rename_i e
        rw [e]
        exact htidr
      · exact H.out.tin id a ha)
    have hO' : Only (fun k => ρ k ≠ .z) w w6 := (HO.out.mono fun k _ e => by rw [e, HQO.out]; simp).next (HO6.out.mono fun k _ e => by rcases e with e | e <;> (rw [e]; first | (rw [hrt.out]; simp) | simp))
    have HO' := Aside0.mk hO'
    obtain ⟨ρ', hE, hC2⟩ := hdone
    have HE := Aside0.mk hE
    have hp6 := HF6.out.2.1
    have hb6 := HF6.out.2.2.2
    have HC2 := Aside0.mk hC2
    clear hO' hE hC2
    (refine Mem.still_tail 7 (by kernel_rfl) (by kernel_rfl) (R := (fun X => Below w6.heap.size w6 X ∧ X.cell? ⟨w.heap.size, 0, none⟩ = some (.pointer (some ⟨I.x, 0, none⟩)) ∧ X.cell? ⟨blk y.id, 6 + sh * 4, none⟩ = some (.int .i64 u.turn))) ⟨below_drew1 (Below.refl _ _), hp6, hb6⟩ ?_)
    clear hp6 hb6
    rintro X ⟨hbX, hpX, htX⟩
    have HBX := Aside0.mk hbX
    clear hbX
    (simp only [List.take_succ_cons, List.take_zero, List.drop_succ_cons, List.drop_zero]; repeat still_step)
    refine wpStill_nil ?_
    have hask := coord_ask c base ρ' I blk _ s yy sh u.turn X (HC2.out.fresh HBX.out) hm hs (by rw [HS1.out, HYY.out]; show updQ S.Q s _ s = _; unfold updQ; rw [if_pos rfl]) hsh (by rw [hm1]; exact hshl) (by rw [HU.out]; exact Int.le_max_right _ _)
    rw [hyid] at hask
    have HASK := Aside0.mk hask
    clear hask
    go_wp2_with (go_at_call 121; with_reducible refine HASK.out.mono ?_; rintro e w8 ⟨⟨v8, rfl, hR8⟩, hb8⟩; have HR8 := Aside0.mk hR8; have HB8 := Aside0.mk hb8; clear hR8 hb8)
    go_ret
    have hwT : wantT c S s y sh = u := by
      unfold wantT
      rw [htq, HT.out]
      exact HU.out.symm
    have hdue : dueB S s sh = true := by
      unfold dueB
      rw [htq, HT.out]
    refine ⟨v8, rfl, CoResB.after (Ext.trans (Ext.refl _ _) HE.out HO.out.size) (HO'.out.next (Only.fresh HBX.out _)) ⟨⟨ρ', Ext.refl _ _, ?_, ?_⟩, Only.fresh HB8.out _⟩⟩
    · have := (HC2.out.fresh HBX.out).fresh HB8.out
      unfold Co.wants
      rw [if_pos hdue, hwT, htq, ← HDD.out, ← HS1.out]
      exact this
    · unfold wantL
      rw [if_pos hdue, hwT]
      have hls : askOf c S s y sh u.turn = askOf c { S1 with T := updT S.T tid (some (min (S.now + dd) 1099511627776)) } s yy sh u.turn := by rw [HS1.out, HYY.out]; rfl
      rw [hls]
      refine RL_ok HR8.out fun k hk => ?_
      obtain ⟨inner, hown⟩ := Kd.R_own HR8.out
      have hk6 := own_base hown k hk
      cases e : ρ' k with
      | z => rfl
      | _ => exact absurd ((HC2.out.fresh HBX.out).own k (by rw [e]; simp)).2 (Nat.not_lt.2 hk6)
end Go.Proofs.YthbngidbfhcdaaaGreat.C
/- coord.wants, walked: a further time. -/
namespace Go.Proofs.YthbngidbfhcdaaaGreat.C
open Go.RowKit Go.Maps Go.Proofs.YthbngidbfhcdaaaGreat.Mem Go.Proofs.YthbngidbfhcdaaaGreatW.PrintWords Go.Proofs.YthbngidbfhcdaaaGreat.PCoordScript
set_option linter.unusedVariables false
set_option linter.unusedSimpArgs false
set_option maxRecDepth 100000 in
set_option maxHeartbeats 600000 in
theorem coord_wants_again (c : Cfg) (base : Nat) (ρ : Nat → Own) (I : CoIds) (blk : Int → Nat) (S : Co) (s : Nat) (y : Qy) (sh : Nat) (draw : Int) (w : World) (h : CoAt c base ρ I blk S w) (hm : c.May) (hs : s < 4) (hy : S.Q s = some y) (hsh : sh ≤ c.cuts.length) (hshl : sh < y.m.sh.length) (hnow : 0 ≤ S.now ∧ S.now ≤ 549755813888) (a : Int) (hT : S.T (tidOf s sh) = some a) (hle : a ≤ S.now) (hok : TnOk (y.t sh)) :
    Calls Tryz.prog 70 #[.pointer (some ⟨I.x, 0, none⟩), .pointer (some ⟨blk y.id, 0, none⟩), .int .i64 sh, .int .i64 draw] w fun e w' => ∃ v, e = .returned v ∧ CoResB c base ρ I blk (S.wants c s y sh draw) (wantL c S s y sh) w w' v := by
  obtain ⟨⟨hw1, hw2⟩, ⟨hp1, hp2, _⟩, _⟩ := hm.nums
  have h5 := hm.2.1.1
  obtain ⟨dv, hco, _⟩ := h.co
  obtain ⟨g, gs, cap, tv, hQ⟩ := h.qat s y hs hy
  obtain ⟨ad, cc, A2, c2, hcv, hcell, hcap2, hC2⟩ := h.copies_at sh hsh
  have hl := copies_len c sh
  have hs0 : (0 : Int) ≤ s ∧ (s : Int) ≤ 1000 := by omega
  have hk0 : (0 : Int) ≤ sh ∧ (sh : Int) ≤ 1000 := by omega
  have hsh6 : sh < 6 := by omega
  have hsh1 : sh < c.cuts.length + 1 := by omega
  rw [hcv] at hco
  have HX : Aside0 (∀ W, Below w.heap.size w W → W.heap[I.x]? = some (CoB (c.bare I.A1 I.c1) (.slice (some ad) (c.cuts.length + 1) cc) S.now (.pointer (some ⟨I.l, 0, none⟩)) (.pointer (some ⟨I.s, 0, none⟩)) (.pointer (some ⟨I.t, 0, none⟩)) (.map (some I.m)) dv) ∧ W.heap[blk y.id]? = some (QyB s y g) ∧ W.heap[I.l]? = some (Tab c.wk c.le S.L)) :=
    ⟨fun W hb => ⟨blk_below hco hb, blk_below hQ.box hb, blk_below h.tab hb⟩⟩
  have y1 : w.cell? ⟨blk y.id, 1, none⟩ = some (.int .i64 s) := (blk_cell hQ.box 1).trans rfl
  have hly := World.block_lt_of_cell? w _ y1
  have H := Aside0.mk h
  have HC2 := Aside0.mk hC2
  have HCELL := Aside0.mk hcell
  have HT := Aside0.mk hT
  have hl24 : (c.copies sh).length ≤ 24 := by omega
  clear h hco hQ hcv hcell hC2 hT hl
  go_enter Tryz.func70, Tryz.ntmps70
  go_upto_region 3 with (go_at_call 112; refine (coord_timerID _ _ _ hs0 hk0).mono ?_; rintro e w1 ⟨rfl, hw⟩; obtain rfl := hw.symm)
  refine Rd.gen_wp (R := fun V => Below w.heap.size w V ∧ V.cell? ⟨w.heap.size, 0, none⟩ = some (.pointer (some ⟨I.x, 0, none⟩))) ⟨below_alloc (Below.refl _ _) _, (blk_cell (blk_new _ _) 0).trans rfl⟩ ?_
  clear y1
  rintro V ⟨hbV, hpV⟩
  have HBV := Aside0.mk hbV
  have HPV := Aside0.mk hpV
  have htid : 6 * (s : Int) + (sh : Int) = tidOf s sh := rfl
  rw [htid]
  generalize htq : tidOf s sh = tid at *
  have x16 : V.cell? ⟨I.x, 16, none⟩ = some (.pointer (some ⟨I.t, 0, none⟩)) := (blk_cell (HX.out V hbV).1 16).trans rfl
  obtain ⟨ok1, ok2⟩ := hok.turn
  have hq : S.T tid = some a := HT.out
  have hg : (S.T tid).getD 0 = a := by rw [hq]; rfl
  have hi : (S.T tid).isSome = true := by rw [hq]; rfl
  have hled : decide (a ≤ S.now) = true := decide_eq_true hle
  clear hq
  go_upto_region 5 with (go_at_call 116; refine (timer_At' base (fun k => ρ k = .co 3) I.t S.T tid _ (H.out.fresh HBV.out).tim H.out.tin).mono ?_; rintro e w2 ⟨rfl, hb⟩; rw [hg, hi]; have HB2 := Aside0.mk (below_step HBV.out hb); have HP2 := Aside0.mk (pw_cell_below hb HPV.out); clear hb)
  have hx2 := HX.out w2 HB2.out
  have p2 := HP2.out
  have x13 : w2.cell? ⟨I.x, 13, none⟩ = some (.int .i64 S.now) := (blk_cell hx2.1 13).trans rfl
  have hz1 : w2.cell? ⟨blk y.id, 6 + sh * 4 + 1, none⟩ = some (.int .i64 (y.t sh).tries) := (blk_cell hx2.2.1 _).trans (qy_turn hsh6 (i := 1) (by omega))
  clear x16 hpV hbV hx2 hg hi
  go_upto_region 9 with fail
  refine Rd.gen_wp (R := fun W => Below w.heap.size w W ∧ W.cell? ⟨w.heap.size, 0, none⟩ = some (.pointer (some ⟨I.x, 0, none⟩))) ⟨by first | exact HB2.out | exact below_drew1 HB2.out, by exact HP2.out⟩ ?_
  clear x13 hz1 p2
  rintro w3 ⟨hb3, hp3⟩
  have HB3 := Aside0.mk hb3
  have HP3 := Aside0.mk hp3
  have hx3 := HX.out w3 hb3
  have hz1 : w3.cell? ⟨blk y.id, 6 + sh * 4 + 1, none⟩ = some (.int .i64 (y.t sh).tries) := (blk_cell hx3.2.1 _).trans (qy_turn hsh6 (i := 1) (by omega))
  have hwp : IntKind.i64.wrap ((y.t sh).turn + 1) = (y.t sh).turn + 1 := IntWalk.i64_in _ (by omega)
  clear hb3 hp3 hx3
  go_upto_region 14 with (go_at_call 120; refine (back_Try (y.t sh).tries _).mono ?_; rintro e w4 ⟨rfl, hb⟩; have HB4 := Aside0.mk (below_step HB3.out hb); have HP4 := Aside0.mk (pw_cell_below hb HP3.out); have hx4 := HX.out w4 HB4.out; have hzz0 : w4.cell? ⟨blk y.id, 6 + sh * 4, none⟩ = some (.int .i64 (y.t sh).turn) := (blk_cell hx4.2.1 _).trans (qy_turn hsh6 (i := 0) (by omega)); have hzz1 : w4.cell? ⟨blk y.id, 6 + sh * 4 + 1, none⟩ = some (.int .i64 (y.t sh).tries) := (blk_cell hx4.2.1 _).trans (qy_turn hsh6 (i := 1) (by omega)); have fz0 := blk_frozen hx4.2.1 (6 + sh * 4); have fz1 := blk_frozen hx4.2.1 (6 + sh * 4 + 1); clear hb hx4)
  obtain ⟨u, hu⟩ : ∃ u : Tn, u = { y.t sh with tries := mn (tr (y.t sh).tries + 1) 6, turn := (y.t sh).turn + 1 } := ⟨_, rfl⟩
  have hCT := CoAt.turn2 (H.out.fresh HB4.out) hs hy hsh6 (mn (tr (y.t sh).tries + 1) 6) ((y.t sh).turn + 1)
  rw [← hu] at hCT
  have HCT := Aside0.mk hCT
  have HU := Aside0.mk hu
  have hO4 : Only (fun k => k = blk y.id) w ((w4.setCell ⟨blk y.id, 6 + sh * 4 + 1, none⟩ (.int .i64 (mn (tr (y.t sh).tries + 1) 6))).setCell ⟨blk y.id, 6 + sh * 4, none⟩ (.int .i64 ((y.t sh).turn + 1))) := (Only.fresh HB4.out _).next only2
  have hP4 : ((w4.setCell ⟨blk y.id, 6 + sh * 4 + 1, none⟩ (.int .i64 (mn (tr (y.t sh).tries + 1) 6))).setCell ⟨blk y.id, 6 + sh * 4, none⟩ (.int .i64 ((y.t sh).turn + 1))).cell? ⟨w.heap.size, 0, none⟩ = some (.pointer (some ⟨I.x, 0, none⟩)) := by
    have hne : w.heap.size ≠ blk y.id := by omega
    refine (World.cell?_of_block ?_).trans HP4.out
    rw [Below.heap_setCell _ _ _ _ hne, Below.heap_setCell _ _ _ _ hne]
  have HO4 := Aside0.mk hO4
  have HPP4 := Aside0.mk hP4
  clear hO4 hP4 hCT hu
  refine Rd.gen_wp (R := fun V => CoAt c base ρ I blk (S.turn s y sh u) V ∧ Only (fun k => k = blk y.id) w V ∧ V.cell? ⟨w.heap.size, 0, none⟩ = some (.pointer (some ⟨I.x, 0, none⟩))) ⟨HCT.out, HO4.out, HPP4.out⟩ ?_
  clear HCT HO4 HP4 HPP4 hzz0 hzz1 fz0 fz1 hwp hz1 HP3 HP2 HB3 HB4 HB2 HPV HBV
  rintro W ⟨hC, hO, hP⟩
  obtain ⟨S1, hS1⟩ : ∃ S1, S1 = S.turn s y sh u := ⟨_, rfl⟩
  obtain ⟨yy, hyy⟩ : ∃ yy : Qy, yy = { y with t := updN y.t sh u } := ⟨_, rfl⟩
  have hyid : yy.id = y.id := by rw [hyy]
  have hut : yy.t sh = u := by
    rw [hyy]
    show (if sh = sh then u else _) = u
    rw [if_pos rfl]
  have hQ1 : S1.Q s = some yy := by
    rw [hS1, hyy]
    show updQ S.Q s _ s = _
    unfold updQ
    rw [if_pos rfl]
  have hn1 : S1.now = S.now := by rw [hS1]; rfl
  have hL1 : S1.L = S.L := by rw [hS1]; rfl
  have hT1 : S1.T = S.T := by rw [hS1]; rfl
  have hm1 : yy.m = y.m := by rw [hyy]
  rw [← hS1] at hC
  have HS1 := Aside0.mk hS1
  have HYY := Aside0.mk hyy
  obtain ⟨dv1, hco1, _⟩ := hC.co
  obtain ⟨g1, gs1, cap1, tv1, hQA1⟩ := hC.qat s yy hs hQ1
  rw [hn1] at hco1
  rw [hyid] at hQA1
  have hbox1 := hQA1.box
  have hcuts := Kd.R_reads' hC.cuts
  have hbas : base ≤ W.heap.size := by have := hC.own I.x (by rw [hC.roles.1]; simp); omega
  have hwr : 0 ≤ wt c.fi c.ca c.ji (tr u.tries) draw ∧ wt c.fi c.ca c.ji (tr u.tries) draw ≤ 2000 := by
    have := wt_range c.fi c.ca c.ji (tr u.tries) draw
    have := cl_range c.ca
    have := cl_range c.ji
    omega
  obtain ⟨dd, hdd⟩ : ∃ dd, dd = wt c.fi c.ca c.ji (tr u.tries) draw := ⟨_, rfl⟩
  rw [← hdd] at hwr
  have HDD := Aside0.mk hdd
  have htidr : 0 ≤ tid ∧ tid < 24 := by rw [← htq]; unfold tidOf; omega
  have HF : Aside0 (∀ W' : World, W'.heap[I.x]? = W.heap[I.x]? → W'.heap[w.heap.size]? = W.heap[w.heap.size]? → W'.heap[blk y.id]? = W.heap[blk y.id]? →
      W'.heap[I.x]? = some (CoB (c.bare I.A1 I.c1) I.cv S.now (.pointer (some ⟨I.l, 0, none⟩)) (.pointer (some ⟨I.s, 0, none⟩)) (.pointer (some ⟨I.t, 0, none⟩)) (.map (some I.m)) dv1) ∧ W'.cell? ⟨w.heap.size, 0, none⟩ = some (.pointer (some ⟨I.x, 0, none⟩)) ∧ W'.cell? ⟨blk y.id, 6 + sh * 4 + 1, none⟩ = some (.int .i64 u.tries) ∧ W'.cell? ⟨blk y.id, 6 + sh * 4, none⟩ = some (.int .i64 u.turn)) :=
    ⟨fun W' e1 e2 e3 => ⟨e1.trans hco1, (World.cell?_of_block e2).trans hP, (blk_cell (e3.trans hbox1) _).trans (by rw [← hut]; exact qy_turn hsh6 (i := 1) (by omega)), (blk_cell (e3.trans hbox1) _).trans (by rw [← hut]; exact qy_turn hsh6 (i := 0) (by omega))⟩⟩
  have HWT : Aside0 (∀ W' : World, Below W.heap.size W W' → Calls Tryz.prog 123 #[.agg #[.slice none 0 0, .slice I.A1 c.cuts.length I.c1, .int .i64 c.wk, .int .i64 c.cp, .int .i64 c.sl, .int .i64 c.ba, .int .i64 c.le, .int .i64 c.he, .int .i64 c.fi, .int .i64 c.ca, .int .i64 c.ji, .int .i64 c.ne], .int .i64 u.tries, .int .i64 draw] W' fun e w' => e = .returned (.int .i64 dd) ∧ Below W.heap.size W w') :=
    ⟨fun W' hb => (back_Wait (c.bare I.A1 I.c1) u.tries draw W' (Kd.C_nil _ _) (Nat.le_refl _) (Kd.C_below hcuts.2.2 hb) hcuts.2.1).mono fun e w' ⟨he, hb'⟩ => ⟨by rw [he, hdd]; rfl, below_step hb hb'⟩⟩
  have HC := Aside0.mk hC
  have HO := Aside0.mk hO
  have hwrap : IntKind.i64.wrap (S.now + dd) = S.now + dd := IntWalk.i64_in _ (by omega)
  have HCU := Aside0.mk hcuts
  have HP := Aside0.mk hP
  have hlp := World.block_lt_of_cell? W _ hP
  have HQB := Aside0.mk hbox1
  have hlx : I.x < W.heap.size := (hC.own I.x (by rw [hC.roles.1]; simp)).2
  have hlb := blk_lt hbox1
  have HQO := Aside0.mk hQA1.bo
  have hrx : Aside0 (ρ I.x = .co 0) := ⟨hC.roles.1⟩
  have hrt : Aside0 (ρ I.t = .co 3) := ⟨hC.roles.2.2.2.1⟩
  have HT1 : Aside0 (TmF W base (fun k => ρ k = .co 3) I.t S.T) := ⟨by rw [← hT1]; exact hC.tim⟩
  have hrp : Aside0 (ρ w.heap.size = .z) := ⟨by
    cases e : ρ w.heap.size with
    | z => rfl
    | _ => exact absurd (H.out.own w.heap.size (by rw [e]; simp)).2 (Nat.lt_irrefl _)⟩
  have HST : Aside0 (∀ W' : World, Below W.heap.size W W' → Calls Tryz.prog 122 #[.pointer (some ⟨I.t, 0, none⟩), .int .i64 tid, .int .i64 (min (S.now + dd) 1099511627776)] W' fun e w6 => e = .returned (.int .i64 0) ∧ TmF w6 base (fun k => ρ k = .co 3 ∨ W.heap.size ≤ k) I.t (updT S.T tid (some (min (S.now + dd) 1099511627776))) ∧ Only (fun k => k = I.t ∨ ρ k = .co 3) W w6 ∧ _) :=
    ⟨fun W' hb => (timer_Set base (fun k => ρ k = .co 3) I.t S.T tid (min (S.now + dd) 1099511627776) W' (HT1.out.move (hb.block _ (HC.out.own I.t (by rw [hrt.out]; simp)).2) fun k hk _ => hb.block k hk) H.out.tin htidr (by omega) (Nat.le_trans hbas hb.size)).mono fun e w6 ⟨he, hT, hO⟩ => by
      have hO6 : Only (fun k => k = I.t ∨ ρ k = .co 3) W w6 := (Only.fresh hb _).next hO
      have key : ∀ {k : Nat} {r : Own}, k < W.heap.size → ρ k = r → r ≠ .co 3 → w6.heap[k]? = W.heap[k]? := fun {k r} hk hr hne => hO6.block k hk (by rintro (e | e); exact hne (by rw [e] at hr; exact hr.symm.trans hrt.out); exact hne (hr.symm.trans e))
      obtain ⟨l, ⟨v, q1, q2⟩, q3⟩ := hT
      exact ⟨he, ⟨l, ⟨v, q1, ⟨fun k hk => (q2.1 k hk).imp (fun h => h) fun h => Nat.le_trans hb.size h, q2.2.imp_ fun _ _ hp => hp⟩⟩, q3⟩, hO6, HF.out w6 (key hlx hrx.out (by simp)) (key hlp hrp.out (by simp)) (key hlb HQO.out (by simp))⟩⟩
  clear hC hO hcuts hP hbox1 hQA1 hco1 hS1 hyy hdd hQ1 hn1 hL1 hT1 hut
  go_region_held3 (fun W' => W'.heap[I.x]? = some (CoB (c.bare I.A1 I.c1) I.cv S.now (.pointer (some ⟨I.l, 0, none⟩)) (.pointer (some ⟨I.s, 0, none⟩)) (.pointer (some ⟨I.t, 0, none⟩)) (.map (some I.m)) dv1) ∧ W'.cell? ⟨w.heap.size, 0, none⟩ = some (.pointer (some ⟨I.x, 0, none⟩)) ∧ W'.cell? ⟨blk y.id, 6 + sh * 4 + 1, none⟩ = some (.int .i64 u.tries) ∧ W'.cell? ⟨I.x, 0, none⟩ = some (.slice none 0 0) ∧ W'.cell? ⟨I.x, 1, none⟩ = some (.slice I.A1 c.cuts.length I.c1) ∧ W'.cell? ⟨I.x, 2, none⟩ = some (.int .i64 c.wk) ∧ W'.cell? ⟨I.x, 3, none⟩ = some (.int .i64 c.cp) ∧ W'.cell? ⟨I.x, 4, none⟩ = some (.int .i64 c.sl) ∧ W'.cell? ⟨I.x, 5, none⟩ = some (.int .i64 c.ba) ∧ W'.cell? ⟨I.x, 6, none⟩ = some (.int .i64 c.le) ∧ W'.cell? ⟨I.x, 7, none⟩ = some (.int .i64 c.he) ∧ W'.cell? ⟨I.x, 8, none⟩ = some (.int .i64 c.fi) ∧ W'.cell? ⟨I.x, 9, none⟩ = some (.int .i64 c.ca) ∧ W'.cell? ⟨I.x, 10, none⟩ = some (.int .i64 c.ji) ∧ W'.cell? ⟨I.x, 11, none⟩ = some (.int .i64 c.ne) ∧ W'.cell? ⟨I.x, 13, none⟩ = some (.int .i64 S.now) ∧ W'.cell? ⟨I.x, 16, none⟩ = some (.pointer (some ⟨I.t, 0, none⟩)))
    (first
      | exact ⟨(HF.out _ rfl rfl rfl).1, (HF.out _ rfl rfl rfl).2.1, (HF.out _ rfl rfl rfl).2.2.1, (blk_cell (HF.out _ rfl rfl rfl).1 0).trans rfl, (blk_cell (HF.out _ rfl rfl rfl).1 1).trans rfl, (blk_cell (HF.out _ rfl rfl rfl).1 2).trans rfl, (blk_cell (HF.out _ rfl rfl rfl).1 3).trans rfl, (blk_cell (HF.out _ rfl rfl rfl).1 4).trans rfl, (blk_cell (HF.out _ rfl rfl rfl).1 5).trans rfl, (blk_cell (HF.out _ rfl rfl rfl).1 6).trans rfl, (blk_cell (HF.out _ rfl rfl rfl).1 7).trans rfl, (blk_cell (HF.out _ rfl rfl rfl).1 8).trans rfl, (blk_cell (HF.out _ rfl rfl rfl).1 9).trans rfl, (blk_cell (HF.out _ rfl rfl rfl).1 10).trans rfl, (blk_cell (HF.out _ rfl rfl rfl).1 11).trans rfl, (blk_cell (HF.out _ rfl rfl rfl).1 13).trans rfl, (blk_cell (HF.out _ rfl rfl rfl).1 16).trans rfl⟩
      | exact ⟨HF5.out.1, HF5.out.2.1, HF5.out.2.2.1, (blk_cell HF5.out.1 0).trans rfl, (blk_cell HF5.out.1 1).trans rfl, (blk_cell HF5.out.1 2).trans rfl, (blk_cell HF5.out.1 3).trans rfl, (blk_cell HF5.out.1 4).trans rfl, (blk_cell HF5.out.1 5).trans rfl, (blk_cell HF5.out.1 6).trans rfl, (blk_cell HF5.out.1 7).trans rfl, (blk_cell HF5.out.1 8).trans rfl, (blk_cell HF5.out.1 9).trans rfl, (blk_cell HF5.out.1 10).trans rfl, (blk_cell HF5.out.1 11).trans rfl, (blk_cell HF5.out.1 13).trans rfl, (blk_cell HF5.out.1 16).trans rfl⟩
      | exact ⟨HF6.out.1, HF6.out.2.1, HF6.out.2.2.1, (blk_cell HF6.out.1 0).trans rfl, (blk_cell HF6.out.1 1).trans rfl, (blk_cell HF6.out.1 2).trans rfl, (blk_cell HF6.out.1 3).trans rfl, (blk_cell HF6.out.1 4).trans rfl, (blk_cell HF6.out.1 5).trans rfl, (blk_cell HF6.out.1 6).trans rfl, (blk_cell HF6.out.1 7).trans rfl, (blk_cell HF6.out.1 8).trans rfl, (blk_cell HF6.out.1 9).trans rfl, (blk_cell HF6.out.1 10).trans rfl, (blk_cell HF6.out.1 11).trans rfl, (blk_cell HF6.out.1 13).trans rfl, (blk_cell HF6.out.1 16).trans rfl⟩
      | go_keep)
    ((first
| (go_simp; go_at_call 123; with_reducible refine (HWT.out _ ?hw5).mono ?_; (case hw5 => first | exact below_drew1 (Below.refl _ _) | exact Below.refl _ _); rintro e w5 ⟨rfl, hb⟩; have HB5 : Aside0 (Below W.heap.size W w5) := ⟨hb⟩; have HF5 := Aside0.mk (HF.out w5 (hb.block _ hlx) (hb.block _ hlp) (hb.block _ hlb)); clear hb)
      | (go_simp; go_at_call 122; with_reducible refine (HST.out _ HB5.out).mono ?_; rintro e w6 ⟨rfl, hT6, hO6, hF6⟩; have HT6 := Aside0.mk hT6; have HO6 := Aside0.mk hO6; have HF6 := Aside0.mk hF6; clear hT6 hO6 hF6)))
  all_goals
    go_upto_region 15 with fail
    have hdone := CoAt.timed (T' := updT S.T tid (some (min (S.now + dd) 1099511627776))) HC.out HT6.out HO6.out (fun id a ha => by
      unfold updT at ha
      split at ha
      · rename_i e
        rw [e]
        exact htidr
      · exact H.out.tin id a ha)
    have hO' : Only (fun k => ρ k ≠ .z) w w6 := (HO.out.mono fun k _ e => by rw [e, HQO.out]; simp).next (HO6.out.mono fun k _ e => by rcases e with e | e <;> (rw [e]; first | (rw [hrt.out]; simp) | simp))
    have HO' := Aside0.mk hO'
    obtain ⟨ρ', hE, hC2⟩ := hdone
    have HE := Aside0.mk hE
    have hp6 := HF6.out.2.1
    have hb6 := HF6.out.2.2.2
    have HC2 := Aside0.mk hC2
    clear hO' hE hC2
    (refine Mem.still_tail 7 (by kernel_rfl) (by kernel_rfl) (R := (fun X => Below w6.heap.size w6 X ∧ X.cell? ⟨w.heap.size, 0, none⟩ = some (.pointer (some ⟨I.x, 0, none⟩)) ∧ X.cell? ⟨blk y.id, 6 + sh * 4, none⟩ = some (.int .i64 u.turn))) ⟨below_drew1 (Below.refl _ _), hp6, hb6⟩ ?_)
    clear hp6 hb6
    rintro X ⟨hbX, hpX, htX⟩
    have HBX := Aside0.mk hbX
    clear hbX
    (simp only [List.take_succ_cons, List.take_zero, List.drop_succ_cons, List.drop_zero]; repeat still_step)
    refine wpStill_nil ?_
    have hask := coord_ask c base ρ' I blk _ s yy sh u.turn X (HC2.out.fresh HBX.out) hm hs (by rw [HS1.out, HYY.out]; show updQ S.Q s _ s = _; unfold updQ; rw [if_pos rfl]) hsh (by rw [hm1]; exact hshl) (by rw [HU.out]; show 0 ≤ (y.t sh).turn + 1; omega)
    rw [hyid] at hask
    have HASK := Aside0.mk hask
    clear hask
    go_wp2_with (go_at_call 121; with_reducible refine HASK.out.mono ?_; rintro e w8 ⟨⟨v8, rfl, hR8⟩, hb8⟩; have HR8 := Aside0.mk hR8; have HB8 := Aside0.mk hb8; clear hR8 hb8)
    go_ret
    have hwT : wantT c S s y sh = u := by
      unfold wantT
      rw [htq, HT.out]
      show (if a ≤ S.now then _ else _) = u
      rw [if_pos hle]
      exact HU.out.symm
    have hdue : dueB S s sh = true := by
      unfold dueB
      rw [htq, HT.out]
      exact decide_eq_true hle
    refine ⟨v8, rfl, CoResB.after (Ext.trans (Ext.refl _ _) HE.out HO.out.size) (HO'.out.next (Only.fresh HBX.out _)) ⟨⟨ρ', Ext.refl _ _, ?_, ?_⟩, Only.fresh HB8.out _⟩⟩
    · have := (HC2.out.fresh HBX.out).fresh HB8.out
      unfold Co.wants
      rw [if_pos hdue, hwT, htq, ← HDD.out, ← HS1.out]
      exact this
    · unfold wantL
      rw [if_pos hdue, hwT]
      have hls : askOf c S s y sh u.turn = askOf c { S1 with T := updT S.T tid (some (min (S.now + dd) 1099511627776)) } s yy sh u.turn := by rw [HS1.out, HYY.out]; rfl
      rw [hls]
      refine RL_ok HR8.out fun k hk => ?_
      obtain ⟨inner, hown⟩ := Kd.R_own HR8.out
      have hk6 := own_base hown k hk
      cases e : ρ' k with
      | z => rfl
      | _ => exact absurd ((HC2.out.fresh HBX.out).own k (by rw [e]; simp)).2 (Nat.not_lt.2 hk6)
end Go.Proofs.YthbngidbfhcdaaaGreat.C
/- coord.wants, walked: a second copy is asked. -/
namespace Go.Proofs.YthbngidbfhcdaaaGreat.C
open Go.RowKit Go.Maps Go.Proofs.YthbngidbfhcdaaaGreat.Mem Go.Proofs.YthbngidbfhcdaaaGreatW.PrintWords Go.Proofs.YthbngidbfhcdaaaGreat.PCoordScript
set_option linter.unusedVariables false
set_option linter.unusedSimpArgs false
set_option maxRecDepth 100000 in
set_option maxHeartbeats 600000 in
theorem coord_wants_hedge (c : Cfg) (base : Nat) (ρ : Nat → Own) (I : CoIds) (blk : Int → Nat) (S : Co) (s : Nat) (y : Qy) (sh : Nat) (draw : Int) (w : World) (h : CoAt c base ρ I blk S w) (hm : c.May) (hs : s < 4) (hy : S.Q s = some y) (hsh : sh ≤ c.cuts.length) (hshl : sh < y.m.sh.length) (hnow : 0 ≤ S.now ∧ S.now ≤ 549755813888) (a : Int) (hT : S.T (tidOf s sh) = some a) (hle : S.now < a) (hok : TnOk (y.t sh)) (hhg : (y.t sh).hedged = false) (hlt : decide (c.he ≤ S.now - (y.t sh).first) = true) :
    Calls Tryz.prog 70 #[.pointer (some ⟨I.x, 0, none⟩), .pointer (some ⟨blk y.id, 0, none⟩), .int .i64 sh, .int .i64 draw] w fun e w' => ∃ v, e = .returned v ∧ CoResB c base ρ I blk (S.wants c s y sh draw) (wantL c S s y sh) w w' v := by
  obtain ⟨⟨hw1, hw2⟩, ⟨hp1, hp2, _⟩, _⟩ := hm.nums
  have h5 := hm.2.1.1
  obtain ⟨dv, hco, _⟩ := h.co
  obtain ⟨g, gs, cap, tv, hQ⟩ := h.qat s y hs hy
  obtain ⟨ad, cc, A2, c2, hcv, hcell, hcap2, hC2⟩ := h.copies_at sh hsh
  have hl := copies_len c sh
  have hs0 : (0 : Int) ≤ s ∧ (s : Int) ≤ 1000 := by omega
  have hk0 : (0 : Int) ≤ sh ∧ (sh : Int) ≤ 1000 := by omega
  have hsh6 : sh < 6 := by omega
  have hsh1 : sh < c.cuts.length + 1 := by omega
  rw [hcv] at hco
  have HX : Aside0 (∀ W, Below w.heap.size w W → W.heap[I.x]? = some (CoB (c.bare I.A1 I.c1) (.slice (some ad) (c.cuts.length + 1) cc) S.now (.pointer (some ⟨I.l, 0, none⟩)) (.pointer (some ⟨I.s, 0, none⟩)) (.pointer (some ⟨I.t, 0, none⟩)) (.map (some I.m)) dv) ∧ W.heap[blk y.id]? = some (QyB s y g) ∧ W.heap[I.l]? = some (Tab c.wk c.le S.L)) :=
    ⟨fun W hb => ⟨blk_below hco hb, blk_below hQ.box hb, blk_below h.tab hb⟩⟩
  have y1 : w.cell? ⟨blk y.id, 1, none⟩ = some (.int .i64 s) := (blk_cell hQ.box 1).trans rfl
  have hly := World.block_lt_of_cell? w _ y1
  have H := Aside0.mk h
  have HC2 := Aside0.mk hC2
  have HCELL := Aside0.mk hcell
  have HT := Aside0.mk hT
  have hl24 : (c.copies sh).length ≤ 24 := by omega
  clear h hco hQ hcv hcell hC2 hT hl
  go_enter Tryz.func70, Tryz.ntmps70
  go_upto_region 3 with (go_at_call 112; refine (coord_timerID _ _ _ hs0 hk0).mono ?_; rintro e w1 ⟨rfl, hw⟩; obtain rfl := hw.symm)
  refine Rd.gen_wp (R := fun V => Below w.heap.size w V ∧ V.cell? ⟨w.heap.size, 0, none⟩ = some (.pointer (some ⟨I.x, 0, none⟩))) ⟨below_alloc (Below.refl _ _) _, (blk_cell (blk_new _ _) 0).trans rfl⟩ ?_
  clear y1
  rintro V ⟨hbV, hpV⟩
  have HBV := Aside0.mk hbV
  have HPV := Aside0.mk hpV
  have htid : 6 * (s : Int) + (sh : Int) = tidOf s sh := rfl
  rw [htid]
  generalize htq : tidOf s sh = tid at *
  have x16 : V.cell? ⟨I.x, 16, none⟩ = some (.pointer (some ⟨I.t, 0, none⟩)) := (blk_cell (HX.out V hbV).1 16).trans rfl
  have HHB : Aside0 (hedgeB c S (y.t sh) = true) := ⟨by unfold hedgeB; rw [hhg, hlt]; rfl⟩
  obtain ⟨ok1, ok2⟩ := hok.turn
  obtain ⟨ok3, ok4⟩ := hok.first
  have hq : S.T tid = some a := HT.out
  have hg : (S.T tid).getD 0 = a := by rw [hq]; rfl
  have hi : (S.T tid).isSome = true := by rw [hq]; rfl
  have hled : decide (a ≤ S.now) = false := decide_eq_false (show ¬ a ≤ S.now by omega)
  clear hq
  go_upto_region 5 with (go_at_call 116; refine (timer_At' base (fun k => ρ k = .co 3) I.t S.T tid _ (H.out.fresh HBV.out).tim H.out.tin).mono ?_; rintro e w2 ⟨rfl, hb⟩; rw [hg, hi]; have HB2 := Aside0.mk (below_step HBV.out hb); have HP2 := Aside0.mk (pw_cell_below hb HPV.out); clear hb)
  have hx2 := HX.out w2 HB2.out
  have p2 := HP2.out
  have x13 : w2.cell? ⟨I.x, 13, none⟩ = some (.int .i64 S.now) := (blk_cell hx2.1 13).trans rfl
  clear x16 hpV hbV hx2 hg hi
  go_upto_region 11 with fail
  refine Rd.gen_wp (R := fun W => Below w.heap.size w W ∧ W.cell? ⟨w.heap.size, 0, none⟩ = some (.pointer (some ⟨I.x, 0, none⟩))) ⟨by first | exact HB2.out | exact below_drew1 HB2.out, by exact HP2.out⟩ ?_
  clear x13 p2
  rintro w3 ⟨hb3, p3⟩
  have HB3 := Aside0.mk hb3
  have HP3 := Aside0.mk p3
  have hx3 := HX.out w3 hb3
  have x13 : w3.cell? ⟨I.x, 13, none⟩ = some (.int .i64 S.now) := (blk_cell hx3.1 13).trans rfl
  have x7 : w3.cell? ⟨I.x, 7, none⟩ = some (.int .i64 c.he) := (blk_cell hx3.1 7).trans rfl
  have hz2 : w3.cell? ⟨blk y.id, 6 + sh * 4 + 2, none⟩ = some (.int .i64 (y.t sh).first) := (blk_cell hx3.2.1 _).trans (qy_turn hsh6 (i := 2) (by omega))
  have hz3 : w3.cell? ⟨blk y.id, 6 + sh * 4 + 3, none⟩ = some (.bool false) := (blk_cell hx3.2.1 _).trans ((qy_turn hsh6 (i := 3) (by omega)).trans (by show some (Value.bool (y.t sh).hedged) = _; rw [hhg]))
  have hwp : IntKind.i64.wrap (S.now - (y.t sh).first) = S.now - (y.t sh).first := IntWalk.i64_in _ (by omega)
  clear hb3 hx3
  clear hhg
  go_quiet (fail)
  have hbN : Below w.heap.size w (w3.drewN nq) := ⟨HB3.out.os, HB3.out.tape, HB3.out.output, HB3.out.size, HB3.out.block⟩
  have HBN := Aside0.mk hbN
  have HCT := Aside0.mk (CoAt.turn1 (H.out.fresh hbN) hs hy hsh6 true)
  have HO4 : Aside0 (Only (fun k => k = blk y.id) w ((w3.drewN nq).setCell ⟨blk y.id, 6 + sh * 4 + 3, none⟩ (.bool true))) := ⟨(Only.fresh hbN _).next (Only.setB _ _ _ _)⟩
  have HP4 : Aside0 (((w3.drewN nq).setCell ⟨blk y.id, 6 + sh * 4 + 3, none⟩ (.bool true)).cell? ⟨w.heap.size, 0, none⟩ = some (.pointer (some ⟨I.x, 0, none⟩))) := ⟨by
    have hne : w.heap.size ≠ blk y.id := by omega
    refine (World.cell?_of_block ?_).trans (show (w3.drewN nq).cell? ⟨w.heap.size, 0, none⟩ = _ from HP3.out)
    rw [Below.heap_setCell _ _ _ _ hne]⟩
  have hzN : (w3.drewN nq).cell? ⟨blk y.id, 6 + sh * 4 + 3, none⟩ = some (.bool false) := hz3
  have fz : (w3.drewN nq).frozen? ⟨blk y.id, 6 + sh * 4 + 3, none⟩ = false := blk_frozen (HX.out _ hbN).2.1 _
  clear hbN
  go_upto_region 13 with fail
  obtain ⟨u, hu⟩ : ∃ u : Tn, u = { y.t sh with hedged := true } := ⟨_, rfl⟩
  have hut0 : u.turn = (y.t sh).turn := by rw [hu]
  have HU := Aside0.mk hu
  refine Rd.gen_wp (R := fun V => CoAt c base ρ I blk (S.turn s y sh u) V ∧ Only (fun k => k = blk y.id) w V ∧ V.cell? ⟨w.heap.size, 0, none⟩ = some (.pointer (some ⟨I.x, 0, none⟩))) (by rw [HU.out]; exact ⟨HCT.out, HO4.out, HP4.out⟩) ?_
  clear HCT HO4 HP4 hzN fz hz2 hz3 x7 x13 p3 hwp HP3 HB3 HBN HP2 HB2 HPV HBV hu
  rintro W ⟨hC, hO, hP⟩
  obtain ⟨S1, hS1⟩ : ∃ S1, S1 = S.turn s y sh u := ⟨_, rfl⟩
  obtain ⟨yy, hyy⟩ : ∃ yy : Qy, yy = { y with t := updN y.t sh u } := ⟨_, rfl⟩
  have hyid : yy.id = y.id := by rw [hyy]
  have hut : yy.t sh = u := by
    rw [hyy]
    show (if sh = sh then u else _) = u
    rw [if_pos rfl]
  have hQ1 : S1.Q s = some yy := by
    rw [hS1, hyy]
    show updQ S.Q s _ s = _
    unfold updQ
    rw [if_pos rfl]
  have hm1 : yy.m = y.m := by rw [hyy]
  rw [← hS1] at hC
  have HS1 := Aside0.mk hS1
  have HYY := Aside0.mk hyy
  have HQ1 := Aside0.mk hQ1
  have HM1 := Aside0.mk hm1
  obtain ⟨g1, gs1, cap1, tv1, hQA1⟩ := hC.qat s yy hs hQ1
  rw [hyid] at hQA1
  have ht0 : W.cell? ⟨blk y.id, 6 + sh * 4, none⟩ = some (.int .i64 (y.t sh).turn) := (blk_cell hQA1.box _).trans (by rw [← hut0, ← hut]; exact qy_turn hsh6 (i := 0) (by omega))
  have HQO := Aside0.mk hQA1.bo
  have HC := Aside0.mk hC
  have HO := Aside0.mk hO
  clear hC hO hQA1 hS1 hyy hQ1 hm1 hut hut0
  have hwp : IntKind.i64.wrap ((y.t sh).turn + 1) = (y.t sh).turn + 1 := IntWalk.i64_in _ (by omega)
  (refine Mem.still_tail 8 (by kernel_rfl) (by kernel_rfl) (R := (fun X => Below W.heap.size W X ∧ X.cell? ⟨w.heap.size, 0, none⟩ = some (.pointer (some ⟨I.x, 0, none⟩)) ∧ X.cell? ⟨blk y.id, 6 + sh * 4, none⟩ = some (.int .i64 (y.t sh).turn))) ⟨below_drew1 (Below.refl _ _), hP, ht0⟩ ?_)
  clear hP ht0
  rintro X ⟨hbX, hpX, htX⟩
  have HBX := Aside0.mk hbX
  clear hbX
  (simp only [List.take_succ_cons, List.take_zero, List.drop_succ_cons, List.drop_zero]; repeat still_step)
  refine wpStill_nil ?_
  have hask := coord_ask c base ρ I blk S1 s yy sh ((y.t sh).turn + 1) X (HC.out.fresh HBX.out) hm hs HQ1.out hsh (by rw [HM1.out]; exact hshl) (by omega)
  rw [hyid] at hask
  have HASK := Aside0.mk hask
  clear hask
  go_wp2_with (go_at_call 121; with_reducible refine HASK.out.mono ?_; rintro e w8 ⟨⟨v8, rfl, hR8⟩, hb8⟩; have HR8 := Aside0.mk hR8; have HB8 := Aside0.mk hb8; clear hR8 hb8)
  go_ret
  have hdue : dueB S s sh = false := by
    unfold dueB
    rw [htq, HT.out]
    exact decide_eq_false (show ¬ a ≤ S.now by omega)
  have hwT : wantT c S s y sh = u := by
    unfold wantT
    rw [htq, HT.out]
    show (if a ≤ S.now then _ else _) = _
    rw [if_neg (show ¬ a ≤ S.now by omega), if_pos HHB.out]
    exact HU.out.symm
  refine ⟨v8, rfl, CoResB.after (Ext.refl _ _) ((HO.out.mono fun k _ e => by rw [e, HQO.out]; simp).next (Only.fresh HBX.out _)) ⟨⟨ρ, Ext.refl _ _, ?_, ?_⟩, Only.fresh HB8.out _⟩⟩
  · have := (HC.out.fresh HBX.out).fresh HB8.out
    unfold Co.wants
    rw [if_neg (by rw [hdue]; simp), hwT, ← HS1.out]
    exact this
  · unfold wantL
    rw [if_neg (by rw [hdue]; simp), if_pos HHB.out]
    have hls : askOf c S s y sh ((y.t sh).turn + 1) = askOf c S1 s yy sh ((y.t sh).turn + 1) := by rw [HS1.out, HYY.out]; rfl
    rw [hls]
    refine RL_ok HR8.out fun k hk => ?_
    obtain ⟨inner, hown⟩ := Kd.R_own HR8.out
    have hk6 := own_base hown k hk
    cases e : ρ k with
    | z => rfl
    | _ => exact absurd ((HC.out.fresh HBX.out).own k (by rw [e]; simp)).2 (Nat.not_lt.2 hk6)
end Go.Proofs.YthbngidbfhcdaaaGreat.C
/- coord.wants, walked: not due. -/
namespace Go.Proofs.YthbngidbfhcdaaaGreat.C
open Go.RowKit Go.Maps Go.Proofs.YthbngidbfhcdaaaGreat.Mem Go.Proofs.YthbngidbfhcdaaaGreatW.PrintWords Go.Proofs.YthbngidbfhcdaaaGreat.PCoordScript
set_option linter.unusedVariables false
set_option linter.unusedSimpArgs false
theorem turn_same {S : Co} {s : Nat} {y : Qy} (hy : S.Q s = some y) (sh : Nat) : S.turn s y sh (y.t sh) = S := by
  have e : updN y.t sh (y.t sh) = y.t := by
    funext i
    unfold updN
    split
    · rename_i h
      rw [h]
    · rfl
  have e2 : updQ S.Q s (some { y with t := updN y.t sh (y.t sh) }) = S.Q := by
    rw [e]
    funext i
    unfold updQ
    split
    · rename_i h
      rw [h, hy]
    · rfl
  unfold Co.turn
  rw [e2]
set_option maxRecDepth 100000 in
set_option maxHeartbeats 600000 in
theorem coord_wants_hedged (c : Cfg) (base : Nat) (ρ : Nat → Own) (I : CoIds) (blk : Int → Nat) (S : Co) (s : Nat) (y : Qy) (sh : Nat) (draw : Int) (w : World) (h : CoAt c base ρ I blk S w) (hm : c.May) (hs : s < 4) (hy : S.Q s = some y) (hsh : sh ≤ c.cuts.length) (hshl : sh < y.m.sh.length) (hnow : 0 ≤ S.now ∧ S.now ≤ 549755813888) (a : Int) (hT : S.T (tidOf s sh) = some a) (hle : S.now < a) (hok : TnOk (y.t sh)) (hhg : (y.t sh).hedged = true) :
    Calls Tryz.prog 70 #[.pointer (some ⟨I.x, 0, none⟩), .pointer (some ⟨blk y.id, 0, none⟩), .int .i64 sh, .int .i64 draw] w fun e w' => ∃ v, e = .returned v ∧ CoResB c base ρ I blk (S.wants c s y sh draw) (wantL c S s y sh) w w' v := by
  obtain ⟨⟨hw1, hw2⟩, ⟨hp1, hp2, _⟩, _⟩ := hm.nums
  have h5 := hm.2.1.1
  obtain ⟨dv, hco, _⟩ := h.co
  obtain ⟨g, gs, cap, tv, hQ⟩ := h.qat s y hs hy
  obtain ⟨ad, cc, A2, c2, hcv, hcell, hcap2, hC2⟩ := h.copies_at sh hsh
  have hl := copies_len c sh
  have hs0 : (0 : Int) ≤ s ∧ (s : Int) ≤ 1000 := by omega
  have hk0 : (0 : Int) ≤ sh ∧ (sh : Int) ≤ 1000 := by omega
  have hsh6 : sh < 6 := by omega
  have hsh1 : sh < c.cuts.length + 1 := by omega
  rw [hcv] at hco
  have HX : Aside0 (∀ W, Below w.heap.size w W → W.heap[I.x]? = some (CoB (c.bare I.A1 I.c1) (.slice (some ad) (c.cuts.length + 1) cc) S.now (.pointer (some ⟨I.l, 0, none⟩)) (.pointer (some ⟨I.s, 0, none⟩)) (.pointer (some ⟨I.t, 0, none⟩)) (.map (some I.m)) dv) ∧ W.heap[blk y.id]? = some (QyB s y g) ∧ W.heap[I.l]? = some (Tab c.wk c.le S.L)) :=
    ⟨fun W hb => ⟨blk_below hco hb, blk_below hQ.box hb, blk_below h.tab hb⟩⟩
  have y1 : w.cell? ⟨blk y.id, 1, none⟩ = some (.int .i64 s) := (blk_cell hQ.box 1).trans rfl
  have hly := World.block_lt_of_cell? w _ y1
  have H := Aside0.mk h
  have HC2 := Aside0.mk hC2
  have HCELL := Aside0.mk hcell
  have HT := Aside0.mk hT
  have hl24 : (c.copies sh).length ≤ 24 := by omega
  clear h hco hQ hcv hcell hC2 hT hl
  go_enter Tryz.func70, Tryz.ntmps70
  go_upto_region 3 with (go_at_call 112; refine (coord_timerID _ _ _ hs0 hk0).mono ?_; rintro e w1 ⟨rfl, hw⟩; obtain rfl := hw.symm)
  refine Rd.gen_wp (R := fun V => Below w.heap.size w V ∧ V.cell? ⟨w.heap.size, 0, none⟩ = some (.pointer (some ⟨I.x, 0, none⟩))) ⟨below_alloc (Below.refl _ _) _, (blk_cell (blk_new _ _) 0).trans rfl⟩ ?_
  clear y1
  rintro V ⟨hbV, hpV⟩
  have HBV := Aside0.mk hbV
  have HPV := Aside0.mk hpV
  have htid : 6 * (s : Int) + (sh : Int) = tidOf s sh := rfl
  rw [htid]
  generalize htq : tidOf s sh = tid at *
  have x16 : V.cell? ⟨I.x, 16, none⟩ = some (.pointer (some ⟨I.t, 0, none⟩)) := (blk_cell (HX.out V hbV).1 16).trans rfl
  have HHB : Aside0 (hedgeB c S (y.t sh) = false) := ⟨by unfold hedgeB; rw [hhg]; rfl⟩
  obtain ⟨ok1, ok2⟩ := hok.turn
  obtain ⟨ok3, ok4⟩ := hok.first
  have hq : S.T tid = some a := HT.out
  have hg : (S.T tid).getD 0 = a := by rw [hq]; rfl
  have hi : (S.T tid).isSome = true := by rw [hq]; rfl
  have hled : decide (a ≤ S.now) = false := decide_eq_false (show ¬ a ≤ S.now by omega)
  clear hq
  go_upto_region 5 with (go_at_call 116; refine (timer_At' base (fun k => ρ k = .co 3) I.t S.T tid _ (H.out.fresh HBV.out).tim H.out.tin).mono ?_; rintro e w2 ⟨rfl, hb⟩; rw [hg, hi]; have HB2 := Aside0.mk (below_step HBV.out hb); have HP2 := Aside0.mk (pw_cell_below hb HPV.out); clear hb)
  have hx2 := HX.out w2 HB2.out
  have p2 := HP2.out
  have x13 : w2.cell? ⟨I.x, 13, none⟩ = some (.int .i64 S.now) := (blk_cell hx2.1 13).trans rfl
  clear x16 hpV hbV hx2 hg hi
  go_upto_region 11 with fail
  refine Rd.gen_wp (R := fun W => Below w.heap.size w W ∧ W.cell? ⟨w.heap.size, 0, none⟩ = some (.pointer (some ⟨I.x, 0, none⟩))) ⟨by first | exact HB2.out | exact below_drew1 HB2.out, by exact HP2.out⟩ ?_
  clear x13 p2
  rintro w3 ⟨hb3, p3⟩
  have HB3 := Aside0.mk hb3
  have HP3 := Aside0.mk p3
  have hx3 := HX.out w3 hb3
  have x13 : w3.cell? ⟨I.x, 13, none⟩ = some (.int .i64 S.now) := (blk_cell hx3.1 13).trans rfl
  have x7 : w3.cell? ⟨I.x, 7, none⟩ = some (.int .i64 c.he) := (blk_cell hx3.1 7).trans rfl
  have hz2 : w3.cell? ⟨blk y.id, 6 + sh * 4 + 2, none⟩ = some (.int .i64 (y.t sh).first) := (blk_cell hx3.2.1 _).trans (qy_turn hsh6 (i := 2) (by omega))
  have hz3 : w3.cell? ⟨blk y.id, 6 + sh * 4 + 3, none⟩ = some (.bool true) := (blk_cell hx3.2.1 _).trans ((qy_turn hsh6 (i := 3) (by omega)).trans (by show some (Value.bool (y.t sh).hedged) = _; rw [hhg]))
  have hwp : IntKind.i64.wrap (S.now - (y.t sh).first) = S.now - (y.t sh).first := IntWalk.i64_in _ (by omega)
  clear hb3 hx3
  clear hhg
  go_quiet (fail)
  go_wp2
  go_ret
  have hdue : dueB S s sh = false := by
    unfold dueB
    rw [htq, HT.out]
    exact decide_eq_false (show ¬ a ≤ S.now by omega)
  have hwT : wantT c S s y sh = y.t sh := by
    unfold wantT
    rw [htq, HT.out]
    show (if a ≤ S.now then _ else _) = _
    rw [if_neg (show ¬ a ≤ S.now by omega), if_neg (by rw [HHB.out]; simp)]
  have hS : S.wants c s y sh draw = S := by
    unfold Co.wants
    rw [if_neg (by rw [hdue]; simp), hwT]
    exact turn_same hy sh
  have hbN : Below w.heap.size w (w3.drewN nq) := ⟨HB3.out.os, HB3.out.tape, HB3.out.output, HB3.out.size, HB3.out.block⟩
  refine ⟨_, rfl, ⟨⟨ρ, Ext.refl _ _, ?_, ?_⟩, Only.fresh hbN _⟩⟩
  · rw [hS]
    exact H.out.fresh hbN
  · unfold wantL
    rw [if_neg (by rw [hdue]; simp), if_neg (by rw [HHB.out]; simp)]
    exact Kd.R_nil _ _ _ _ _
set_option maxRecDepth 100000 in
set_option maxHeartbeats 600000 in
theorem coord_wants_early (c : Cfg) (base : Nat) (ρ : Nat → Own) (I : CoIds) (blk : Int → Nat) (S : Co) (s : Nat) (y : Qy) (sh : Nat) (draw : Int) (w : World) (h : CoAt c base ρ I blk S w) (hm : c.May) (hs : s < 4) (hy : S.Q s = some y) (hsh : sh ≤ c.cuts.length) (hshl : sh < y.m.sh.length) (hnow : 0 ≤ S.now ∧ S.now ≤ 549755813888) (a : Int) (hT : S.T (tidOf s sh) = some a) (hle : S.now < a) (hok : TnOk (y.t sh)) (hhg : (y.t sh).hedged = false) (hlt : decide (c.he ≤ S.now - (y.t sh).first) = false) :
    Calls Tryz.prog 70 #[.pointer (some ⟨I.x, 0, none⟩), .pointer (some ⟨blk y.id, 0, none⟩), .int .i64 sh, .int .i64 draw] w fun e w' => ∃ v, e = .returned v ∧ CoResB c base ρ I blk (S.wants c s y sh draw) (wantL c S s y sh) w w' v := by
  obtain ⟨⟨hw1, hw2⟩, ⟨hp1, hp2, _⟩, _⟩ := hm.nums
  have h5 := hm.2.1.1
  obtain ⟨dv, hco, _⟩ := h.co
  obtain ⟨g, gs, cap, tv, hQ⟩ := h.qat s y hs hy
  obtain ⟨ad, cc, A2, c2, hcv, hcell, hcap2, hC2⟩ := h.copies_at sh hsh
  have hl := copies_len c sh
  have hs0 : (0 : Int) ≤ s ∧ (s : Int) ≤ 1000 := by omega
  have hk0 : (0 : Int) ≤ sh ∧ (sh : Int) ≤ 1000 := by omega
  have hsh6 : sh < 6 := by omega
  have hsh1 : sh < c.cuts.length + 1 := by omega
  rw [hcv] at hco
  have HX : Aside0 (∀ W, Below w.heap.size w W → W.heap[I.x]? = some (CoB (c.bare I.A1 I.c1) (.slice (some ad) (c.cuts.length + 1) cc) S.now (.pointer (some ⟨I.l, 0, none⟩)) (.pointer (some ⟨I.s, 0, none⟩)) (.pointer (some ⟨I.t, 0, none⟩)) (.map (some I.m)) dv) ∧ W.heap[blk y.id]? = some (QyB s y g) ∧ W.heap[I.l]? = some (Tab c.wk c.le S.L)) :=
    ⟨fun W hb => ⟨blk_below hco hb, blk_below hQ.box hb, blk_below h.tab hb⟩⟩
  have y1 : w.cell? ⟨blk y.id, 1, none⟩ = some (.int .i64 s) := (blk_cell hQ.box 1).trans rfl
  have hly := World.block_lt_of_cell? w _ y1
  have H := Aside0.mk h
  have HC2 := Aside0.mk hC2
  have HCELL := Aside0.mk hcell
  have HT := Aside0.mk hT
  have hl24 : (c.copies sh).length ≤ 24 := by omega
  clear h hco hQ hcv hcell hC2 hT hl
  go_enter Tryz.func70, Tryz.ntmps70
  go_upto_region 3 with (go_at_call 112; refine (coord_timerID _ _ _ hs0 hk0).mono ?_; rintro e w1 ⟨rfl, hw⟩; obtain rfl := hw.symm)
  refine Rd.gen_wp (R := fun V => Below w.heap.size w V ∧ V.cell? ⟨w.heap.size, 0, none⟩ = some (.pointer (some ⟨I.x, 0, none⟩))) ⟨below_alloc (Below.refl _ _) _, (blk_cell (blk_new _ _) 0).trans rfl⟩ ?_
  clear y1
  rintro V ⟨hbV, hpV⟩
  have HBV := Aside0.mk hbV
  have HPV := Aside0.mk hpV
  have htid : 6 * (s : Int) + (sh : Int) = tidOf s sh := rfl
  rw [htid]
  generalize htq : tidOf s sh = tid at *
  have x16 : V.cell? ⟨I.x, 16, none⟩ = some (.pointer (some ⟨I.t, 0, none⟩)) := (blk_cell (HX.out V hbV).1 16).trans rfl
  have HHB : Aside0 (hedgeB c S (y.t sh) = false) := ⟨by unfold hedgeB; rw [hhg, hlt]; rfl⟩
  obtain ⟨ok1, ok2⟩ := hok.turn
  obtain ⟨ok3, ok4⟩ := hok.first
  have hq : S.T tid = some a := HT.out
  have hg : (S.T tid).getD 0 = a := by rw [hq]; rfl
  have hi : (S.T tid).isSome = true := by rw [hq]; rfl
  have hled : decide (a ≤ S.now) = false := decide_eq_false (show ¬ a ≤ S.now by omega)
  clear hq
  go_upto_region 5 with (go_at_call 116; refine (timer_At' base (fun k => ρ k = .co 3) I.t S.T tid _ (H.out.fresh HBV.out).tim H.out.tin).mono ?_; rintro e w2 ⟨rfl, hb⟩; rw [hg, hi]; have HB2 := Aside0.mk (below_step HBV.out hb); have HP2 := Aside0.mk (pw_cell_below hb HPV.out); clear hb)
  have hx2 := HX.out w2 HB2.out
  have p2 := HP2.out
  have x13 : w2.cell? ⟨I.x, 13, none⟩ = some (.int .i64 S.now) := (blk_cell hx2.1 13).trans rfl
  clear x16 hpV hbV hx2 hg hi
  go_upto_region 11 with fail
  refine Rd.gen_wp (R := fun W => Below w.heap.size w W ∧ W.cell? ⟨w.heap.size, 0, none⟩ = some (.pointer (some ⟨I.x, 0, none⟩))) ⟨by first | exact HB2.out | exact below_drew1 HB2.out, by exact HP2.out⟩ ?_
  clear x13 p2
  rintro w3 ⟨hb3, p3⟩
  have HB3 := Aside0.mk hb3
  have HP3 := Aside0.mk p3
  have hx3 := HX.out w3 hb3
  have x13 : w3.cell? ⟨I.x, 13, none⟩ = some (.int .i64 S.now) := (blk_cell hx3.1 13).trans rfl
  have x7 : w3.cell? ⟨I.x, 7, none⟩ = some (.int .i64 c.he) := (blk_cell hx3.1 7).trans rfl
  have hz2 : w3.cell? ⟨blk y.id, 6 + sh * 4 + 2, none⟩ = some (.int .i64 (y.t sh).first) := (blk_cell hx3.2.1 _).trans (qy_turn hsh6 (i := 2) (by omega))
  have hz3 : w3.cell? ⟨blk y.id, 6 + sh * 4 + 3, none⟩ = some (.bool false) := (blk_cell hx3.2.1 _).trans ((qy_turn hsh6 (i := 3) (by omega)).trans (by show some (Value.bool (y.t sh).hedged) = _; rw [hhg]))
  have hwp : IntKind.i64.wrap (S.now - (y.t sh).first) = S.now - (y.t sh).first := IntWalk.i64_in _ (by omega)
  clear hb3 hx3
  clear hhg
  go_quiet (fail)
  go_wp2
  go_ret
  have hdue : dueB S s sh = false := by
    unfold dueB
    rw [htq, HT.out]
    exact decide_eq_false (show ¬ a ≤ S.now by omega)
  have hwT : wantT c S s y sh = y.t sh := by
    unfold wantT
    rw [htq, HT.out]
    show (if a ≤ S.now then _ else _) = _
    rw [if_neg (show ¬ a ≤ S.now by omega), if_neg (by rw [HHB.out]; simp)]
  have hS : S.wants c s y sh draw = S := by
    unfold Co.wants
    rw [if_neg (by rw [hdue]; simp), hwT]
    exact turn_same hy sh
  have hbN : Below w.heap.size w (w3.drewN nq) := ⟨HB3.out.os, HB3.out.tape, HB3.out.output, HB3.out.size, HB3.out.block⟩
  refine ⟨_, rfl, ⟨⟨ρ, Ext.refl _ _, ?_, ?_⟩, Only.fresh hbN _⟩⟩
  · rw [hS]
    exact H.out.fresh hbN
  · unfold wantL
    rw [if_neg (by rw [hdue]; simp), if_neg (by rw [HHB.out]; simp)]
    exact Kd.R_nil _ _ _ _ _
end Go.Proofs.YthbngidbfhcdaaaGreat.C
/- coord.wants, in all. -/
namespace Go.Proofs.YthbngidbfhcdaaaGreat.C
open Go.RowKit Go.Maps Go.Proofs.YthbngidbfhcdaaaGreat.Mem Go.Proofs.YthbngidbfhcdaaaGreatW.PrintWords Go.Proofs.YthbngidbfhcdaaaGreat.PCoordScript
set_option linter.unusedVariables false
theorem coord_wants (c : Cfg) (base : Nat) (ρ : Nat → Own) (I : CoIds) (blk : Int → Nat) (S : Co) (s : Nat) (y : Qy) (sh : Nat) (draw : Int) (w : World) (h : CoAt c base ρ I blk S w) (hm : c.May) (hs : s < 4) (hy : S.Q s = some y) (hsh : sh ≤ c.cuts.length) (hshl : sh < y.m.sh.length) (hnow : 0 ≤ S.now ∧ S.now ≤ 549755813888) (hok : TnOk (y.t sh)) :
    Calls Tryz.prog 70 #[.pointer (some ⟨I.x, 0, none⟩), .pointer (some ⟨blk y.id, 0, none⟩), .int .i64 sh, .int .i64 draw] w fun e w' => ∃ v, e = .returned v ∧ CoResB c base ρ I blk (S.wants c s y sh draw) (wantL c S s y sh) w w' v := by
  cases hT : S.T (tidOf s sh) with
  | none => exact coord_wants_first c base ρ I blk S s y sh draw w h hm hs hy hsh hshl hnow hT
  | some a =>
    by_cases hle : a ≤ S.now
    · exact coord_wants_again c base ρ I blk S s y sh draw w h hm hs hy hsh hshl hnow a hT hle hok
    · have hlt : S.now < a := by omega
      cases hhg : (y.t sh).hedged with
      | true => exact coord_wants_hedged c base ρ I blk S s y sh draw w h hm hs hy hsh hshl hnow a hT hlt hok hhg
      | false =>
        cases hd : decide (c.he ≤ S.now - (y.t sh).first) with
        | false => exact coord_wants_early c base ρ I blk S s y sh draw w h hm hs hy hsh hshl hnow a hT hlt hok hhg hd
        | true => exact coord_wants_hedge c base ρ I blk S s y sh draw w h hm hs hy hsh hshl hnow a hT hlt hok hhg hd
end Go.Proofs.YthbngidbfhcdaaaGreat.C
/- What a wake comes to. -/
namespace Go.Proofs.YthbngidbfhcdaaaGreat.C
open Go.RowKit Go.Maps Go.Proofs.YthbngidbfhcdaaaGreat.Mem Go.Proofs.YthbngidbfhcdaaaGreatW.PrintWords Go.Proofs.YthbngidbfhcdaaaGreat.PCoordScript
set_option linter.unusedVariables false
/-- One shard of the query in slot s is wanted. -/
def wantStep (c : Cfg) (s : Nat) (draw : Int) (st : Co × List LetD) (k : Int) : Co × List LetD := match st.1.Q s with
  | none => st
  | some y => (st.1.wants c s y k.toNat draw, st.2 ++ wantL c st.1 s y k.toNat)
def wantAll (c : Cfg) (s : Nat) (draw : Int) (l : List Int) (st : Co × List LetD) : Co × List LetD := l.foldl (wantStep c s draw) st
def wakeStep (c : Cfg) (draw : Int) (st : Co × List LetD) (k : Nat) : Co × List LetD := match st.1.Q k with
  | none => st
  | some y => wantAll c k draw y.m.wants st
def wakeN (c : Cfg) (draw : Int) (n : Nat) (S : Co) : Co × List LetD := (List.range n).foldl (wakeStep c draw) (S, [])
theorem wakeN_succ (c : Cfg) (draw : Int) (n : Nat) (S : Co) : wakeN c draw (n + 1) S = wakeStep c draw (wakeN c draw n S) n := by
  unfold wakeN
  rw [List.range_succ, List.foldl_append]
  rfl
theorem wantAll_succ (c : Cfg) (s : Nat) (draw : Int) (l : List Int) (st : Co × List LetD) (j : Nat) (hj : j < l.length) : wantAll c s draw (l.take (j + 1)) st = wantStep c s draw (wantAll c s draw (l.take j) st) l[j] := by
  unfold wantAll
  rw [List.take_succ_eq_append_getElem hj, List.foldl_append]
  rfl
/-- What holds of a coordinator's queries at each moment: as many shards as there are; turns within bounds. -/
def CoOk (c : Cfg) (N : Int) (S : Co) : Prop := ∀ s y, S.Q s = some y → y.m.sh.length = c.cuts.length + 1 ∧ ∀ sh, 0 ≤ (y.t sh).turn ∧ (y.t sh).turn ≤ N ∧ 0 ≤ (y.t sh).first ∧ (y.t sh).first ≤ 1099511627776
theorem CoOk.tn {c : Cfg} {N : Int} {S : Co} (h : CoOk c N S) (hN : N ≤ 1099511627776) {s : Nat} {y : Qy} (hy : S.Q s = some y) (sh : Nat) : TnOk (y.t sh) := by
  obtain ⟨_, h2⟩ := h s y hy
  obtain ⟨a, b, c, d⟩ := h2 sh
  exact ⟨⟨a, by omega⟩, ⟨c, d⟩⟩
theorem CoOk.mono {c : Cfg} {N M : Int} {S : Co} (h : CoOk c N S) (hN : N ≤ M) : CoOk c M S := fun s y hy => ⟨(h s y hy).1, fun sh => by
  obtain ⟨a, b, c, d⟩ := (h s y hy).2 sh
  exact ⟨a, by omega, c, d⟩⟩
theorem wants_Q (c : Cfg) (S : Co) (s : Nat) (y : Qy) (sh : Nat) (draw : Int) : (S.wants c s y sh draw).Q = updQ S.Q s (some { y with t := updN y.t sh (wantT c S s y sh) }) ∧ (S.wants c s y sh draw).now = S.now ∧ (S.wants c s y sh draw).L = S.L ∧ (S.wants c s y sh draw).told = S.told ∧ (S.wants c s y sh draw).last = S.last := by
  unfold Co.wants
  split <;> exact ⟨rfl, rfl, rfl, rfl, rfl⟩
theorem wantT_ok {c : Cfg} (hm : c.May) {N : Int} {S : Co} {s : Nat} {y : Qy} {sh : Nat} (hn : 0 ≤ S.now ∧ S.now ≤ 1099511627776) (hN : 3 ≤ N) (h : 0 ≤ (y.t sh).turn ∧ (y.t sh).turn ≤ N ∧ 0 ≤ (y.t sh).first ∧ (y.t sh).first ≤ 1099511627776) :
    0 ≤ (wantT c S s y sh).turn ∧ (wantT c S s y sh).turn ≤ N + 1 ∧ 0 ≤ (wantT c S s y sh).first ∧ (wantT c S s y sh).first ≤ 1099511627776 := by
  obtain ⟨_, ⟨h1, h2, _⟩, _⟩ := hm.nums
  have hl := copies_len c sh
  have hr := liveFrom_range S.L S.now (c.copies sh) (c.copies sh).length 0 (by omega)
  have hix : liveIx S.L S.now (c.copies sh) = -1 ∨ (0 ≤ liveIx S.L S.now (c.copies sh) ∧ liveIx S.L S.now (c.copies sh) < (c.copies sh).length) := hr
  unfold wantT
  split
  · refine ⟨Int.le_max_right _ _, ?_, hn.1, hn.2⟩
    show max _ 0 ≤ N + 1
    omega
  · split
    · exact ⟨by show 0 ≤ (y.t sh).turn + 1; omega, by show (y.t sh).turn + 1 ≤ N + 1; omega, h.2.2⟩
    · split
      · exact ⟨h.1, by show (y.t sh).turn ≤ N + 1; omega, h.2.2⟩
      · exact ⟨h.1, by omega, h.2.2⟩
theorem CoOk.wants {c : Cfg} (hm : c.May) {N : Int} {S : Co} (h : CoOk c N S) (hn : 0 ≤ S.now ∧ S.now ≤ 1099511627776) (hN : 3 ≤ N) {s : Nat} {y : Qy} (hy : S.Q s = some y) (sh : Nat) (draw : Int) : CoOk c (N + 1) (S.wants c s y sh draw) := by
  intro s' y' hy'
  rw [(wants_Q c S s y sh draw).1] at hy'
  unfold updQ at hy'
  split at hy'
  · cases hy'
    refine ⟨(h s y hy).1, fun i => ?_⟩
    show 0 ≤ (updN y.t sh _ i).turn ∧ (updN y.t sh _ i).turn ≤ N + 1 ∧ 0 ≤ (updN y.t sh _ i).first ∧ (updN y.t sh _ i).first ≤ _
    unfold updN
    split
    · rename_i e
      exact wantT_ok hm hn hN ((h s y hy).2 sh)
    · obtain ⟨a, b, c, d⟩ := (h s y hy).2 i
      exact ⟨a, by omega, c, d⟩
  · exact (h.mono (by omega)) s' y' hy'
end Go.Proofs.YthbngidbfhcdaaaGreat.C
