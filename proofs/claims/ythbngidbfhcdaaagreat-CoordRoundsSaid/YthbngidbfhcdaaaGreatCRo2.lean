/- Texts of this proof, joined: part 2. -/
import Derived.Deep.RegionLaw
import Derived.WideKeyEntry
import Derived.BigRegion
import Derived.Outline
import Derived.Test.YthbngidbfhcdaaaGreatPCoordScriptx0
import Derived.Test.YthbngidbfhcdaaaGreatCRo1
set_option linter.unusedVariables false
set_option linter.unusedSimpArgs false
/- container/heap's Fix, Push, Remove over the moments. -/
namespace Go.Proofs.YthbngidbfhcdaaaGreat.C
open Go.RowKit Go.Maps Go.Proofs.YthbngidbfhcdaaaGreat.Mem Go.Proofs.YthbngidbfhcdaaaGreatW.PrintWords Go.Proofs.YthbngidbfhcdaaaGreat.PCoordScript
set_option linter.unusedVariables false
set_option linter.unusedSimpArgs false
set_option maxRecDepth 100000 in
theorem heap_Fix (base : Nat) (ok : Nat → Prop) (t : Nat) (most : Int) (g cap : Nat) (l : List (Int × Int)) (i : Int) (w : World) (hb : w.heap[t]? = some (TimB most (momV g l.length cap))) (hr : Kd.R kone 265 w base ok (momV g l.length cap) l) (hi0 : 0 ≤ i) (hi : i < l.length) (hl : l.length ≤ 24) :
    Calls Tryz.prog 173 #[momI t, .int .i64 i] w fun e w' => e = .returned (.tuple #[]) ∧ ∃ l', Hp base ok t most g cap l l.length w l' w' := by
  have HB := Aside0.mk hb
  have HR := Aside0.mk hr
  have c0 : w.cell? ⟨t, 1, none⟩ = some (momV g l.length cap) := (blk_cell hb 1).trans rfl
  clear hb hr
  have hm1 := meth_Len
  go_enter Tryz.func173, Tryz.ntmps173
  go_wp2_with (first
    | (go_at_call 232; refine (mom_Len _ _ _ _).mono ?_; rintro e w1 ⟨rfl, rfl⟩)
    | (go_at_call 198; refine (heap_down base ok t most g cap l i l.length _ HB.out HR.out hi0 hi (by omega) (by omega) hl).mono ?_; rintro e w2 ⟨⟨b, rfl⟩, l', hh⟩; have H2 := Aside0.mk hh; clear hh)
    | (go_at_call 199; refine (heap_up base ok t most g cap l' i _ (by rw [H2.out.len]; exact H2.out.box) H2.out.row' hi0 (by rw [H2.out.len]; exact hi) (by rw [H2.out.len]; exact hl)).mono ?_; rintro e w3 ⟨rfl, l2, hh⟩; have H3 := Aside0.mk (H2.out.trans (hh.weaken (m' := l.length) (by omega))); clear hh))
  all_goals
    go_end0
    first | exact ⟨rfl, _, H3.out⟩ | exact ⟨rfl, _, H2.out⟩
theorem infoOne : (Tryz.prog.info? 265).map (fun i => (i.zero, i.size, i.bytes)) = some (some (.agg #[.int .i64 0, .int .i64 0]), 2, 16) := by kernel_rfl
theorem assert_one (v : Value) (xT : TypeId) (W : World) : (Instr.typeAssert (.iface 265 v) xT 265 true).run Tryz.prog W = .ok (.tuple #[v, .bool true]) W := by
  simp [Instr.typeAssert, run_underlying Tryz.underlying265]
/-- Timers: where they lie, which they are. -/
def TmAt (W : World) (base : Nat) (ok : Nat → Prop) (t : Nat) (most : Int) (l : List (Int × Int)) : Prop := ∃ v, W.heap[t]? = some (TimB most v) ∧ Kd.R kone 265 W base ok v l
set_option maxRecDepth 100000 in
set_option maxHeartbeats 1000000 in
theorem mom_Push (base : Nat) (ok : Nat → Prop) (t : Nat) (most : Int) (v : Value) (l : List (Int × Int)) (a i : Int) (w : World) (hb : w.heap[t]? = some (TimB most v)) (hr : Kd.R kone 265 w base ok v l) (hl : l.length ≤ 24) (hba : base ≤ w.heap.size) :
    Calls Tryz.prog 236 #[.pointer (some ⟨t, 1, none⟩), .iface 265 (.agg #[.int .i64 a, .int .i64 i])] w fun e w' => e = .returned (.tuple #[]) ∧ TmAt w' base (fun k => ok k ∨ w.heap.size ≤ k) t most (l ++ [(a, i)]) ∧ Only (fun k => k = t ∨ some k = v.ownBlock) w w' := by
  have hta := assert_one
  have HB0 := Aside0.mk hb
  have HR0 := Aside0.mk hr
  clear hb hr
  go_enter Tryz.func236, Tryz.ntmps236
  go_upto_region 2 with fail
  refine Rd.gen_wp (R := fun W => W.heap[t]? = some (TimB most v) ∧ Kd.R kone 265 W base (fun k => ok k ∨ w.heap.size ≤ k) v l ∧ W.heap[w.heap.size]? = some (.cells #[.int .i64 a, .int .i64 i] 265 (0, 0)) ∧ Below w.heap.size w W)
    ⟨blk_alloc HB0.out _, Kd.R_alloc (Kd.R_mono HR0.out (fun k hk => .inl hk)) _, blk_new _ _, below_alloc (Below.refl _ _) _⟩ ?_
  obtain ⟨B, hB⟩ : ∃ B, B = w.heap.size := ⟨_, rfl⟩
  rw [← hB]
  have HBB := Aside0.mk hB
  clear hB
  rintro W ⟨hb, hr, ho, hw⟩
  obtain ⟨A, c, rfl⟩ := Kd.R_slice hr
  have HB := Aside0.mk hb
  have HR := Aside0.mk hr
  have HW := Aside0.mk hw
  have hBW : B < W.heap.size := blk_lt ho
  have c0 : W.cell? ⟨t, 1, none⟩ = some (.slice A l.length c) := (blk_cell hb 1).trans rfl
  have o0 : W.cell? ⟨B, 0, none⟩ = some (.int .i64 a) := (blk_cell ho 0).trans rfl
  have o1 : W.cell? ⟨B, 1, none⟩ = some (.int .i64 i) := (blk_cell ho 1).trans rfl
  have hlt := blk_lt hb
  have hbaW : base ≤ W.heap.size := by rw [HBB.out] at hBW; omega
  clear hb hr hw
  have hfr : ∀ k, W.drew.heap.size ≤ k → (ok k ∨ B ≤ k) := fun k hk => .inr (Nat.le_trans (Nat.le_of_lt hBW) hk)
  have hlen : (l.length + 1) * 16 ≤ 140737488355328 := by omega
  go_region_law (go_loud (refine Kd.R_append_step (W := W.drew) kone (w0 := W.drew) base rfl (.tmp 15) (.tmp 17) 222 265 (.agg #[.int .i64 0, .int .i64 0]) 16 rfl Tryz.underlying222 infoOne rfl (by decide) (by decide) (.slice A l.length c) l (a, i) [.int .i64 a, .int .i64 i] (fun k => ok k ∨ B ≤ k) (fun _ => False) rfl rfl ⟨[.int .i64 a], [.int .i64 i], rfl, rfl, rfl⟩ (fun _ h => h.elim) hfr (Kd.R_drew HR.out) (Below.refl _ _) hbaW hlen ?_; intro v1 w4 hr hb4 hg _; have hne := Kd.R_ne HR.out HB.out (by decide); obtain ⟨A1, c1, rfl⟩ := Kd.R_slice hr; have hb1 : w4.heap[t]? = some (TimB most (.slice A l.length c)) := blk_grown (blk_drew HB.out) hg hne; have y4 : w4.cell? ⟨t, 1, none⟩ = some (.slice A l.length c) := (blk_cell hb1 1).trans rfl; have f4 := blk_frozen hb1 1; have HR4 := Aside0.mk hr; have HB4 := Aside0.mk hb1; have HG := Aside0.mk hg; have HNE := Aside0.mk hne; clear hr hb1 hg hb4 hne))
  all_goals
    go_end0
    have hbt : B ≤ W.heap.size := Nat.le_of_lt hBW
    have hs : (w4.setCell ⟨t, 1, none⟩ (.slice A1 (l.length + 1) c1)).heap[t]? = some (TimB most (.slice A1 (l.length + 1) c1)) := blk_put HB4.out 1 _ rfl
    have hr4 := HR4.out
    rw [List.length_append] at hr4
    refine ⟨rfl, ⟨_, hs, Kd.R_mono (Kd.R_set hr4 HB4.out (by decide) 1 _) (fun k hk => by rw [← HBB.out]; exact hk)⟩, ?_⟩
    have o1 : Only (fun k => k = t ∨ some k = (Value.slice A l.length c).ownBlock) w W := Only.of_below HW.out (by rw [HBB.out]; exact Nat.le_refl _) _
    have o2 : Only (fun k => k = t ∨ some k = (Value.slice A l.length c).ownBlock) W w4 := (Only.drew (Only.refl _ W)).next (Only.grown HG.out fun k hk _ => .inr hk.symm)
    exact (o1.next o2).set (p := ⟨t, 1, none⟩) (fun _ => .inl rfl) _
end Go.Proofs.YthbngidbfhcdaaaGreat.C
/- container/heap's Push, Remove over the moments; Timers: Set, Cancel, Len. -/
namespace Go.Proofs.YthbngidbfhcdaaaGreat.C
open Go.RowKit Go.Maps Go.Proofs.YthbngidbfhcdaaaGreat.Mem Go.Proofs.YthbngidbfhcdaaaGreatW.PrintWords Go.Proofs.YthbngidbfhcdaaaGreat.PCoordScript
set_option linter.unusedVariables false
set_option linter.unusedSimpArgs false
theorem own_take {W : World} {base g n cap : Nat} {e : TypeId} {size : Nat} {xs : List Value} (h : W.ownsRow base e size (.slice (some ⟨g, 0, none⟩) n cap) n xs) (m : Nat) (hm : m ≤ n) : W.ownsRow base e size (.slice (some ⟨g, 0, none⟩) m cap) m (xs.take (m * size)) := by
  obtain ⟨h1, h2⟩ := h
  rcases h2 with ⟨h2, _⟩ | ⟨g', cap', cur, he, hb, hh, hn, hx, hc, ht⟩
  · cases h2
  cases he
  have hmn := Nat.mul_le_mul_right size hm
  refine ⟨by rw [List.length_take, h1]; omega, .inr ⟨g, cap, cur, rfl, hb, hh, by omega, hx, hc, ?_⟩⟩
  rw [← ht, List.take_take, Nat.min_eq_left hmn]
theorem Reps.take {α : Type} {R : α → List Value → Prop} {sz : Nat} {ps : List α} {cs : List Value} (h : Reps R sz ps cs) (m : Nat) (hm : m ≤ ps.length) : Reps R sz (ps.take m) (cs.take (m * sz)) := by
  have hmn := Nat.mul_le_mul_right sz hm
  refine ⟨by rw [List.length_take, List.length_take, h.1, Nat.min_eq_left hm, Nat.min_eq_left hmn], fun j p hj => ?_⟩
  have hjm : j < m := by
    have := (List.getElem?_eq_some_iff.1 hj).1
    rw [List.length_take] at this
    omega
  rw [List.getElem?_take_of_lt hjm] at hj
  have h3 := Nat.mul_le_mul_right sz (show j + 1 ≤ m from hjm)
  rw [Nat.add_mul, Nat.one_mul] at h3
  rw [List.drop_take, List.take_take, Nat.min_eq_left (by omega)]
  exact h.2 j p hj
theorem R_take {α : Type} {d : Kd α} {e : Nat} {W : World} {base : Nat} {ok : Nat → Prop} {g n cap : Nat} {xs : List α} (h : d.R e W base ok (.slice (some ⟨g, 0, none⟩) n cap) xs) (m : Nat) (hm : m ≤ xs.length) : d.R e W base ok (.slice (some ⟨g, 0, none⟩) m cap) (xs.take m) := by
  obtain ⟨h0, inner, ho, hr⟩ := h
  obtain ⟨A, c, he⟩ := own_slice ho
  cases he
  have h1 := own_take ho m hm
  have h2 := Reps.take hr m hm
  refine ⟨h0, inner.take (m * d.sz), ?_, h2⟩
  rw [List.length_take, Nat.min_eq_left hm]
  exact h1
set_option maxRecDepth 100000 in
set_option maxHeartbeats 1000000 in
theorem mom_Pop (base : Nat) (ok : Nat → Prop) (t : Nat) (most : Int) (g cap : Nat) (l : List (Int × Int)) (w : World) (hb : w.heap[t]? = some (TimB most (momV g l.length cap))) (hr : Kd.R kone 265 w base ok (momV g l.length cap) l) (hl : 1 ≤ l.length) (hl2 : l.length ≤ 24) :
    Calls Tryz.prog 235 #[.pointer (some ⟨t, 1, none⟩)] w fun e w' => (∃ v, e = .returned v) ∧ w'.heap[t]? = some (TimB most (momV g (l.length - 1) cap)) ∧ Kd.R kone 265 w' base ok (momV g (l.length - 1) cap) (l.take (l.length - 1)) ∧ Only (fun k => k = t) w w' := by
  have HB := Aside0.mk hb
  have HR := Aside0.mk hr
  have hcap : l.length ≤ cap := (Kd.R_reads' hr).2.1
  have hne := blk_lt hb
  have c0 : w.cell? ⟨t, 1, none⟩ = some (momV g l.length cap) := (blk_cell hb 1).trans rfl
  obtain ⟨ad, e, x0, x1⟩ := at_one (Kd.R_reads' hr).2.2 ((l.length : Int) - 1) (by omega) (by omega)
  cases e
  clear hb hr
  obtain ⟨n, hn⟩ : ∃ n, l.length = n + 1 := ⟨l.length - 1, by omega⟩
  have HN := Aside0.mk hn
  rw [hn] at c0 x0 x1 hcap
  have hn24 : n ≤ 23 := by omega
  have e1 : (((n + 1 : Nat) : Int) - 1) = n := by omega
  rw [e1, add_plain, Int.toNat_natCast] at x0 x1
  have hgl := World.block_lt_of_cell? w _ x0
  have hl3 : Aside0 (l.length ≤ 24) := ⟨hl2⟩
  clear hn hl hl2 e1
  go_enter Tryz.func235, Tryz.ntmps235
  go_wp2
  go_region
  go_wp2
  refine Rd.gen_wp (R := fun W => W.heap[t]? = some (TimB most (momV g l.length cap)) ∧ Kd.R kone 265 W base ok (momV g l.length cap) l ∧ W.heap[w.heap.size]? = some (.cells #[.int .i64 (one l n).1, .int .i64 (one l n).2] 265 (0, 0)) ∧ Below w.heap.size w W)
    ⟨blk_drew (blk_alloc HB.out _), Kd.R_drew (Kd.R_alloc HR.out _), blk_new _ _, below_drew1 (below_alloc (Below.refl _ _) _)⟩ ?_
  clear c0 x0 x1
  obtain ⟨B, hB⟩ : ∃ B, B = w.heap.size := ⟨_, rfl⟩
  rw [← hB]
  have HBB := Aside0.mk hB
  clear hB
  rintro W ⟨hb, hr, ho, hw⟩
  have HB1 := Aside0.mk hb
  have HR1 := Aside0.mk hr
  have HW := Aside0.mk hw
  have HO := Aside0.mk ho
  have hBt : B ≠ t := by have := blk_lt HB.out; rw [HBB.out]; omega
  have c0 : W.cell? ⟨t, 1, none⟩ = some (momV g (n + 1) cap) := by rw [← HN.out]; exact (blk_cell hb 1).trans rfl
  have f0 := blk_frozen hb 1
  have o0 : W.cell? ⟨B, 0, none⟩ = some (.int .i64 (one l n).1) := (blk_cell ho 0).trans rfl
  have o1 : W.cell? ⟨B, 1, none⟩ = some (.int .i64 (one l n).2) := (blk_cell ho 1).trans rfl
  clear hb hr ho hw
  go_region
  go_wp2
  go_ret
  have hs : (W.setCell ⟨t, 1, none⟩ (momV g n cap)).heap[t]? = some (TimB most (momV g n cap)) := blk_put HB1.out 1 _ rfl
  have e2 : l.length - 1 = n := by have := HN.out; omega
  rw [e2]
  refine ⟨⟨_, rfl⟩, hs, ?_, ?_⟩
  · exact R_take (Kd.R_step (Kd.R_set HR1.out HB1.out (by decide) 1 _) fun k _ _ => rfl) n (by have := HN.out; omega)
  · have o1 : Only (fun k => k = t) w W := Only.of_below HW.out (by rw [HBB.out]; exact Nat.le_refl _) _
    exact (o1.set (p := ⟨t, 1, none⟩) (fun _ => rfl) _).drew
theorem R_some {α : Type} {d : Kd α} {e : Nat} {W : World} {base : Nat} {ok : Nat → Prop} {v : Value} {xs : List α} (h : d.R e W base ok v xs) (hx : 0 < xs.length) : ∃ g cap, v = .slice (some ⟨g, 0, none⟩) xs.length cap ∧ ok g := by
  obtain ⟨inner, ho⟩ := Kd.R_own h
  rcases ho.2 with ⟨_, h2⟩ | ⟨g, cap, cur, rfl, _⟩
  · omega
  · exact ⟨g, cap, rfl, h.1 g rfl⟩
set_option maxRecDepth 100000 in
set_option maxHeartbeats 1000000 in
theorem heap_Push (base : Nat) (ok : Nat → Prop) (t : Nat) (most : Int) (l : List (Int × Int)) (a i : Int) (w : World) (h : TmAt w base ok t most l) (hl : l.length ≤ 23) (hba : base ≤ w.heap.size) :
    Calls Tryz.prog 174 #[momI t, .iface 265 (.agg #[.int .i64 a, .int .i64 i])] w fun e w' => e = .returned (.tuple #[]) ∧ (∃ l', l'.Perm (l ++ [(a, i)]) ∧ TmAt w' base (fun k => ok k ∨ w.heap.size ≤ k) t most l') ∧ Only (fun k => k = t ∨ ok k) w w' := by
  obtain ⟨v, hb, hr⟩ := h
  have HB := Aside0.mk hb
  have HR := Aside0.mk hr
  clear hb hr
  have hm1 := meth_Len
  have hm2 := meth_Push
  go_enter Tryz.func174, Tryz.ntmps174
  go_wp2_with (first
    | (go_at_call 236; refine (mom_Push base ok t most v l a i _ HB.out HR.out (by omega) hba).mono ?_; rintro e w1 ⟨rfl, ⟨v1, hb1, hr1⟩, ho⟩; obtain ⟨g, cap, rfl, hg⟩ := R_some hr1 (by simp); have HB1 := Aside0.mk hb1; have HR1 := Aside0.mk hr1; have HO1 := Aside0.mk ho; have c1 : w1.cell? ⟨t, 1, none⟩ = some (.slice (some ⟨g, 0, none⟩) (l ++ [(a, i)]).length cap) := (blk_cell hb1 1).trans rfl; clear hb1 hr1 ho)
    | (go_at_call 232; refine (mom_Len _ _ _ _).mono ?_; rintro e w2 ⟨rfl, rfl⟩)
    | (go_at_call 199; refine (heap_up base (fun k => ok k ∨ w.heap.size ≤ k) t most g cap (l ++ [(a, i)]) l.length _ HB1.out HR1.out (by omega) (by simp; omega) (by simp; omega)).mono ?_; rintro e w3 ⟨rfl, l2, hh⟩; have H3 := Aside0.mk hh; clear hh))
  go_end0
  refine ⟨rfl, ⟨l2, H3.out.perm, _, H3.out.box, H3.out.row⟩, ?_⟩
  refine (HO1.out.mono (G := fun k => k = t ∨ ok k) fun k _ hk => hk.imp id fun e => HR.out.1 k e.symm).trans H3.out.only fun k hk e => ?_
  subst e
  exact .inr (hg.elim id fun h => absurd h (Nat.not_le.2 hk))
theorem erase_cons {α : Type} (l : List α) (i : Nat) (hi : i < l.length) : (l[i] :: l.eraseIdx i).Perm l := by
  rw [List.eraseIdx_eq_take_drop_succ]
  have e : l.take i ++ l[i] :: l.drop (i + 1) = l := by
    rw [List.getElem_cons_drop, List.take_append_drop]
  have := (List.perm_middle (a := l[i]) (l₁ := l.take i) (l₂ := l.drop (i + 1))).symm
  rw [e] at this
  exact this
theorem erase_perm (l l' : List (Int × Int)) (i n : Nat) (hn : l.length = n + 1) (hi : i ≤ n) (hp : l'.Perm l) (hlast : l'[n]? = l[i]?) : (l'.take n).Perm (l.eraseIdx i) := by
  have hi' : i < l.length := by omega
  have hl' : l'.length = n + 1 := by rw [hp.length_eq, hn]
  have h1 : l'.take n ++ [l[i]] = l' := by
    have e : l'[n]'(by omega) = l[i] := by
      rw [List.getElem?_eq_getElem (by omega), List.getElem?_eq_getElem hi'] at hlast
      exact Option.some.inj hlast
    rw [← e]
    have := List.take_succ_eq_append_getElem (l := l') (i := n) (by omega)
    rw [← this, ← hl', List.take_length]
  have h2 : (l[i] :: l.eraseIdx i).Perm l := erase_cons l i hi'
  have h3 : (l[i] :: l'.take n).Perm l' := by
    have := (List.perm_append_singleton l[i] (l'.take n)).symm
    rw [h1] at this
    exact this
  exact (List.perm_cons l[i]).1 ((h3.trans hp).trans h2.symm)
set_option maxRecDepth 100000 in
set_option maxHeartbeats 1000000 in
theorem heap_Remove (base : Nat) (ok : Nat → Prop) (t : Nat) (most : Int) (g cap : Nat) (l : List (Int × Int)) (i : Int) (w : World) (hb : w.heap[t]? = some (TimB most (momV g l.length cap))) (hr : Kd.R kone 265 w base ok (momV g l.length cap) l) (hi0 : 0 ≤ i) (hi : i < l.length) (hl : l.length ≤ 24) :
    Calls Tryz.prog 165 #[momI t, .int .i64 i] w fun e w' => (∃ v, e = .returned v) ∧ (∃ l', l'.Perm (l.eraseIdx i.toNat) ∧ TmAt w' base ok t most l') ∧ Only (fun k => k = t ∨ ok k) w w' := by
  have hok : ok g := hr.1 g rfl
  have HS := Aside0.mk (Hp.start hb hr l.length)
  obtain ⟨n, hn⟩ : ∃ n, l.length = n + 1 := ⟨l.length - 1, by omega⟩
  have hnn := Aside0.mk hn
  have c0 : w.cell? ⟨t, 1, none⟩ = some (momV g l.length cap) := (blk_cell hb 1).trans rfl
  clear hb hr
  have hm1 := meth_Len
  have hm2 := meth_Swap
  have hm3 := meth_Pop
  have hlen : (l.length : Int) = n + 1 := by omega
  clear hn
  rcases Mem.dec_or ((n : Int) = i) with d | d
  · have d' : (n : Int) = i := of_decide_eq_true d
    subst d'
    clear d
    go_enter Tryz.func165, Tryz.ntmps165
    go_wp2_with (first
      | (go_at_call 232; refine (mom_Len _ _ _ _).mono ?_; rintro e w1 ⟨rfl, rfl⟩)
      | (go_at_call 235; refine (mom_Pop base ok t most g cap l _ HS.out.box HS.out.row (by omega) hl).mono ?_; rintro e w2 ⟨⟨v, rfl⟩, h1, h2, h3⟩; have H1 := Aside0.mk h1; have H2 := Aside0.mk h2; have H3 := Aside0.mk h3; clear h1 h2 h3))
    go_ret
    have e3 : l.length - 1 = n := by omega
    have h1 := H1.out
    have h2 := H2.out
    rw [e3] at h1 h2
    refine ⟨⟨_, rfl⟩, ⟨_, erase_perm l l n n hnn.out (Nat.le_refl _) (List.Perm.refl _) rfl, _, h1, h2⟩, H3.out.mono fun k _ e => .inl e⟩
  · have d' : ¬ (n : Int) = i := of_decide_eq_false d
    have hin : i < n := by omega
    go_enter Tryz.func165, Tryz.ntmps165
    go_wp2_with (first
      | (go_at_call 232; (with_reducible refine (mom_Len _ _ _ _).mono ?_); rintro e w1 ⟨rfl, rfl⟩)
      | (go_at_call 234; (with_reducible refine (mom_Swap g cap l 265 base ok i n _ HS.out.row hi0 hi (by omega) (by omega) (by omega)).mono ?_); rintro e w2 ⟨rfl, hr, ho⟩; have H2 := Aside0.mk (HS.out.swap i n hi0 hi (by omega) (by omega) (by omega) (by omega) hr ho); clear hr ho)
      | (go_at_call 198; (with_reducible refine (heap_down base ok t most g cap (swapL l i n) i n _ (by rw [H2.out.len]; exact H2.out.box) H2.out.row' hi0 (by rw [H2.out.len]; exact hi) (by omega) (by rw [H2.out.len]; omega) (by rw [H2.out.len]; exact hl)).mono ?_); rintro e w3 ⟨⟨b, rfl⟩, l3, hh⟩; have H3 := Aside0.mk (H2.out.trans (hh.weaken (m' := l.length) (by omega))); have H3' := Aside0.mk hh.rest; clear hh)
      | (go_at_call 199; (with_reducible refine (heap_up base ok t most g cap l3 i _ (by rw [H3.out.len]; exact H3.out.box) H3.out.row' hi0 (by rw [H3.out.len]; exact hi) (by rw [H3.out.len]; exact hl)).mono ?_); rintro e w4 ⟨rfl, l4, hh⟩; have H4 := Aside0.mk (H3.out.trans (hh.weaken (m' := l.length) (by omega))); have H4' := Aside0.mk hh.rest; clear hh)
      | (go_at_call 235; (with_reducible refine (mom_Pop base ok t most g cap l4 _ (by rw [H4.out.len]; exact H4.out.box) H4.out.row' (by rw [H4.out.len]; omega) (by rw [H4.out.len]; exact hl)).mono ?_); rintro e w5 ⟨⟨v, rfl⟩, h1, h2, h3⟩; have H5 := Aside0.mk h1; have H6 := Aside0.mk h2; have H7 := Aside0.mk h3; clear h1 h2 h3)
      | (go_at_call 235; (with_reducible refine (mom_Pop base ok t most g cap l3 _ (by rw [H3.out.len]; exact H3.out.box) H3.out.row' (by rw [H3.out.len]; omega) (by rw [H3.out.len]; exact hl)).mono ?_); rintro e w5 ⟨⟨v, rfl⟩, h1, h2, h3⟩; have H5 := Aside0.mk h1; have H6 := Aside0.mk h2; have H7 := Aside0.mk h3; clear h1 h2 h3))
    all_goals
      go_ret
      have hi' : i.toNat < l.length := by omega
      have hsw : (swapL l i n)[n]? = l[i.toNat]? := by
        unfold swapL
        rw [Int.toNat_natCast, List.getElem?_set_self (by rw [List.length_set]; omega)]
        simp [one, List.getD_eq_getElem?_getD, List.getElem?_eq_getElem hi']
      have g3 : l3[n]? = l[i.toNat]? := (H3'.out n (by omega)).trans hsw
      have e5 : ∀ l' : List (Int × Int), l'.length = l.length → l'.length - 1 = n := fun l' h => by omega
      refine ⟨⟨_, rfl⟩, ?_, ?_⟩
      · first
          | exact ⟨_, erase_perm l l4 i.toNat n hnn.out (by omega) H4.out.perm ((H4'.out n (by omega)).trans g3), _, by have := H5.out; rw [e5 l4 H4.out.len] at this; exact this, by have := H6.out; rw [e5 l4 H4.out.len] at this; exact this⟩
          | exact ⟨_, erase_perm l l3 i.toNat n hnn.out (by omega) H3.out.perm g3, _, by have := H5.out; rw [e5 l3 H3.out.len] at this; exact this, by have := H6.out; rw [e5 l3 H3.out.len] at this; exact this⟩
      · first
          | exact (H4.out.only.mono (G := fun k => k = t ∨ ok k) fun k _ e => .inr (e ▸ hok)).next (H7.out.mono fun k _ e => .inl e)
          | exact (H3.out.only.mono (G := fun k => k = t ∨ ok k) fun k _ e => .inr (e ▸ hok)).next (H7.out.mono fun k _ e => .inl e)
end Go.Proofs.YthbngidbfhcdaaaGreat.C
/- Timers: Set, Cancel, Len. -/
namespace Go.Proofs.YthbngidbfhcdaaaGreat.C
open Go.RowKit Go.Maps Go.Proofs.YthbngidbfhcdaaaGreat.Mem Go.Proofs.YthbngidbfhcdaaaGreatW.PrintWords Go.Proofs.YthbngidbfhcdaaaGreat.PCoordScript
set_option linter.unusedVariables false
set_option linter.unusedSimpArgs false
/-- The timers l are what f says: whose moment is when. -/
def TmSays (l : List (Int × Int)) (f : Int → Option Int) : Prop := (l.map Prod.snd).Nodup ∧ ∀ id a, (a, id) ∈ l ↔ f id = some a
theorem TmSays.perm {l l' : List (Int × Int)} {f : Int → Option Int} (h : TmSays l f) (hp : l'.Perm l) : TmSays l' f :=
  ⟨((hp.map Prod.snd).nodup_iff).2 h.1, fun id a => (hp.mem_iff).trans (h.2 id a)⟩
theorem one_mem {l : List (Int × Int)} {i : Int} (h0 : 0 ≤ i) (h1 : i < l.length) : one l i ∈ l := by
  have : i.toNat < l.length := by omega
  simp [one, List.getD_eq_getElem?_getD, List.getElem?_eq_getElem this]
theorem findFrom_none (l : List (Int × Int)) (id : Int) : ∀ (b : Nat) (k : Int), 0 ≤ k → l.length ≤ k + b → findFrom l id b k = -1 → ∀ j : Int, k ≤ j → j < l.length → (one l j).2 ≠ id
  | 0, k, h, hb, hf, j, hj, hl => by omega
  | b + 1, k, h, hb, hf, j, hj, hl => by
    unfold findFrom at hf
    rw [if_pos (show k < l.length by omega)] at hf
    by_cases he : (one l k).2 = id
    · rw [if_pos he] at hf
      omega
    · rw [if_neg he] at hf
      by_cases hjk : j = k
      · rw [hjk]; exact he
      · exact findFrom_none l id b (k + 1) (by omega) (by omega) hf j (by omega) hl
theorem findT_says {l : List (Int × Int)} {f : Int → Option Int} (h : TmSays l f) (id : Int) : (findT l id < 0 ∧ f id = none) ∨ (0 ≤ findT l id ∧ findT l id < l.length ∧ (one l (findT l id)).2 = id ∧ f id = some (one l (findT l id)).1) := by
  rcases findFrom_range l id l.length 0 (by omega) with h1 | ⟨h1, h2, h3⟩
  · refine .inl ⟨by unfold findT; omega, ?_⟩
    cases hf : f id with
    | none => rfl
    | some a =>
      exfalso
      have hm := (h.2 id a).2 hf
      obtain ⟨j, hj, he⟩ := List.getElem_of_mem hm
      refine findFrom_none l id l.length 0 (by omega) (by omega) h1 j (by omega) (by omega) ?_
      simp [one, List.getD_eq_getElem?_getD, List.getElem?_eq_getElem hj, he]
  · refine .inr ⟨h1, h2, h3, ?_⟩
    refine (h.2 id _).1 ?_
    have := one_mem (l := l) h1 h2
    have e : one l (findT l id) = ((one l (findT l id)).1, id) := Prod.ext rfl h3
    rw [← e]
    exact this
theorem atT_says {l : List (Int × Int)} {f : Int → Option Int} (h : TmSays l f) (id : Int) : atT l id = (f id).getD 0 ∧ isT l id = (f id).isSome := by
  rcases findT_says h id with ⟨h1, h2⟩ | ⟨h1, h2, h3, h4⟩
  · simp [atT, isT, h1, h2]
  · simp [atT, isT, h4, show ¬ findT l id < 0 by omega]; omega
def updT (f : Int → Option Int) (id : Int) (a : Option Int) : Int → Option Int := fun k => if k = id then a else f k
theorem TmSays.erase {l : List (Int × Int)} {f : Int → Option Int} (h : TmSays l f) {i : Nat} (hi : i < l.length) : TmSays (l.eraseIdx i) (updT f (l[i]).2 none) := by
  have hp := erase_cons l i hi
  have h1 := h.perm hp
  have hn := h1.1
  rw [List.map_cons, List.nodup_cons] at hn
  refine ⟨hn.2, fun id a => ?_⟩
  unfold updT
  by_cases e : id = (l[i]).2
  · rw [if_pos e]
    refine ⟨fun hm => ?_, fun hm => by cases hm⟩
    exact absurd (List.mem_map.2 ⟨_, hm, e⟩) hn.1
  · rw [if_neg e, ← h1.2 id a, List.mem_cons]
    refine ⟨.inr, fun hm => hm.elim (fun h => absurd (congrArg Prod.snd h) e) fun h => h⟩
theorem TmSays.add {l : List (Int × Int)} {f : Int → Option Int} (h : TmSays l f) {id a : Int} (hf : f id = none) : TmSays (l ++ [(a, id)]) (updT f id (some a)) := by
  refine ⟨?_, fun i b => ?_⟩
  · rw [List.map_append, List.map_cons, List.map_nil]
    refine List.nodup_append.2 ⟨h.1, by simp, fun x hx y hy => ?_⟩
    rw [List.mem_singleton] at hy
    rintro rfl
    obtain ⟨⟨b, i⟩, hm, he⟩ := List.mem_map.1 hx
    have : i = id := he.trans hy
    subst this
    rw [(h.2 i b).1 hm] at hf
    cases hf
  · unfold updT
    rw [List.mem_append, List.mem_singleton]
    by_cases e : i = id
    · subst e
      rw [if_pos rfl]
      constructor
      · rintro (hm | hm)
        · rw [(h.2 i b).1 hm] at hf
          cases hf
        · cases hm
          rfl
      · intro hm
        cases hm
        exact .inr rfl
    · rw [if_neg e, h.2 i b]
      exact ⟨fun hm => hm.elim (fun h => h) fun h => absurd (congrArg Prod.snd h) e, .inl⟩
theorem TmSays.put {l : List (Int × Int)} {f : Int → Option Int} (h : TmSays l f) {i : Nat} (hi : i < l.length) (a : Int) : TmSays (l.set i (a, (l[i]).2)) (updT f (l[i]).2 (some a)) := by
  have hp := erase_cons l i hi
  have h1 := h.erase hi
  have h2 := h1.add (id := (l[i]).2) (a := a) (by simp [updT])
  have e : updT (updT f (l[i]).2 none) (l[i]).2 (some a) = updT f (l[i]).2 (some a) := by
    funext k
    unfold updT
    split <;> rfl
  rw [e] at h2
  refine h2.perm ?_
  have h3 := erase_cons (l.set i (a, (l[i]).2)) i (by rw [List.length_set]; exact hi)
  rw [List.getElem_set_self, List.eraseIdx_set_eq] at h3
  exact h3.symm.trans (List.perm_append_singleton _ _).symm
theorem nodup_bound : ∀ (m : Nat) (l : List Int), l.Nodup → (∀ x ∈ l, 0 ≤ x ∧ x < m) → l.length ≤ m
  | 0, l, _, hb => by
    cases l with
    | nil => exact Nat.le_refl _
    | cons x l => have := hb x List.mem_cons_self; omega
  | m + 1, l, hn, hb => by
    have h1 := nodup_bound m (l.erase (m : Int)) (hn.erase _) (fun x hx => by
      have h := (hn.mem_erase_iff).1 hx
      have := hb x h.2
      have := h.1
      omega)
    have h2 := @List.length_erase Int _ _ (m : Int) l
    split at h2 <;> omega
theorem TmSays.few {l : List (Int × Int)} {f : Int → Option Int} (h : TmSays l f) (hb : ∀ id a, f id = some a → 0 ≤ id ∧ id < 24) : l.length ≤ 24 := by
  have := nodup_bound 24 (l.map Prod.snd) h.1 (fun x hx => by
    obtain ⟨⟨a, i⟩, hm, rfl⟩ := List.mem_map.1 hx
    exact hb i a ((h.2 i a).1 hm))
  rwa [List.length_map] at this
theorem TmSays.fewer {l : List (Int × Int)} {f : Int → Option Int} (h : TmSays l f) (hb : ∀ id a, f id = some a → 0 ≤ id ∧ id < 24) {id : Int} (h0 : 0 ≤ id ∧ id < 24) (hf : f id = none) : l.length ≤ 23 := by
  have := nodup_bound 24 (id :: l.map Prod.snd) (List.nodup_cons.2 ⟨fun hm => by
    obtain ⟨⟨a, i⟩, hm', he⟩ := List.mem_map.1 hm
    have e : i = id := he
    subst e
    rw [(h.2 i a).1 hm'] at hf
    exact absurd hf (by simp), h.1⟩) (fun x hx => by
    rcases List.mem_cons.1 hx with rfl | hx
    · exact h0
    · obtain ⟨⟨a, i⟩, hm, rfl⟩ := List.mem_map.1 hx
      exact hb i a ((h.2 i a).1 hm))
  rw [List.length_cons, List.length_map] at this
  omega
theorem one_put_at {e : TypeId} {W : World} {base : Nat} {ok : Nat → Prop} {g n cap : Nat} {l : List (Int × Int)} (h : Kd.R kone e W base ok (.slice (some ⟨g, 0, none⟩) n cap) l) (i : Nat) (a : Int) :
    Kd.R kone e (W.setCell ⟨g, i * 2, none⟩ (.int .i64 a)) base ok (.slice (some ⟨g, 0, none⟩) n cap) (l.set i (a, (l.getD i (0, 0)).2)) := by
  obtain ⟨h0, h1⟩ := h
  have h2 := OwnRow.put (p := (a, (l.getD i (0, 0)).2)) h1 i 0 (by decide) (.int .i64 a) (by
    rintro q c hq hcl ⟨c1, c2, rfl, rfl, rfl⟩
    refine ⟨[.int .i64 a], [.int .i64 q.2], rfl, rfl, ?_⟩
    have e : l.getD i (0, 0) = q := by rw [List.getD_eq_getElem?_getD, hq]; rfl
    rw [e]
    rfl)
  rw [Nat.add_zero] at h2
  exact ⟨h0, h2.imp_ fun p c hp => hp⟩
/-- Timers that are what f says. -/
def TmF (W : World) (base : Nat) (ok : Nat → Prop) (t : Nat) (f : Int → Option Int) : Prop := ∃ l, TmAt W base ok t 24 l ∧ TmSays l f
def InT (f : Int → Option Int) : Prop := ∀ id a, f id = some a → 0 ≤ id ∧ id < 24
set_option maxRecDepth 100000 in
set_option maxHeartbeats 1000000 in
theorem timer_Set (base : Nat) (ok : Nat → Prop) (t : Nat) (f : Int → Option Int) (id a : Int) (w : World) (h : TmF w base ok t f) (hb : InT f) (h0 : 0 ≤ id ∧ id < 24) (ha : 0 ≤ a ∧ a ≤ 1099511627776) (hba : base ≤ w.heap.size) :
    Calls Tryz.prog 122 #[.pointer (some ⟨t, 0, none⟩), .int .i64 id, .int .i64 a] w fun e w' => e = .returned (.int .i64 0) ∧ TmF w' base (fun k => ok k ∨ w.heap.size ≤ k) t (updT f id (some a)) ∧ Only (fun k => k = t ∨ ok k) w w' := by
  obtain ⟨l, ⟨v, hb0, hr0⟩, hs⟩ := h
  have h24 := hs.few hb
  have hsay := findT_says hs id
  have d1 : decide (id < 0) = false := by simp; omega
  have d2 : decide (a < 0) = false := by simp; omega
  have d3 : decide (1099511627776 < a) = false := by simp; omega
  obtain ⟨A, c, rfl⟩ := Kd.R_slice hr0
  have hcap := (Kd.R_reads' hr0).2.1
  have HB := Aside0.mk hb0
  have HR := Aside0.mk hr0
  have HS := Aside0.mk hs
  clear hb0 hr0
  rcases hsay with ⟨h1, h2⟩ | ⟨h1, h2, h3, h4⟩
  · have h23 := hs.fewer hb h0 h2
    have d4 : decide (0 ≤ findT l id) = false := by simp; omega
    have d5 : ((l.length : Int) == 24) = false := beq_eq_false_iff_ne.2 (by omega)
    have H2 := Aside0.mk h2
    clear h2 hs hb
    go_enter Tryz.func122, Tryz.ntmps122
    go_wp2_with (go_at_call 164; refine (timer_find t 24 A c l id _ HB.out (Kd.R_reads' HR.out).2.2 hcap h24).mono ?_; rintro e w1 ⟨rfl, hb⟩; have HB1 := Aside0.mk hb; have y0 : w1.cell? ⟨t, 0, none⟩ = some (.int .i64 24) := (blk_cell (blk_below HB.out hb) 0).trans rfl; have y1 : w1.cell? ⟨t, 1, none⟩ = some (.slice A l.length c) := (blk_cell (blk_below HB.out hb) 1).trans rfl; clear hb)
    go_quiet (fail)
    have HTM : Aside0 (∀ n, TmAt (w1.drewN n) base ok t 24 l) := ⟨fun n => ⟨_, blk_drewN (blk_below HB.out HB1.out) n, Kd.R_drewN (Kd.R_below HR.out HB1.out) n⟩⟩
    have hbaW : ∀ n, base ≤ (w1.drewN n).heap.size := fun n => Nat.le_trans hba HB1.out.size
    clear y0 y1
    go_wp2_with (go_at_call 174; (with_reducible refine (heap_Push base ok t 24 l a id _ (HTM.out _) h23 (hbaW _)).mono ?_); rintro e w3 ⟨rfl, ⟨l3, hp, hT3⟩, ho⟩; have HP := Aside0.mk hp; have HT3 := Aside0.mk hT3; have HO := Aside0.mk ho; clear hp hT3 ho)
    go_ret
    obtain ⟨v3, g1, g2⟩ := HT3.out
    refine ⟨rfl, ⟨l3, ⟨v3, g1, Kd.R_mono g2 fun k hk => hk.imp (fun h => h) fun h => Nat.le_trans HB1.out.size h⟩, (HS.out.add H2.out).perm HP.out⟩, ?_⟩
    exact ((Only.fresh HB1.out _).drewN _).trans HO.out fun k _ h => h
  · have d4 : decide (0 ≤ findT l id) = true := by simp; omega
    obtain ⟨g, cap, hv, hok⟩ := R_some HR.out (by omega)
    cases hv
    have hC := (Kd.R_reads' HR.out).2.2
    obtain ⟨ad, e, x0, x1⟩ := at_one hC (findT l id) h1 h2
    cases e
    rw [add_plain] at x0
    obtain ⟨cur, hcur⟩ := R_blk HR.out
    have HX := Aside0.mk x0
    have HC := Aside0.mk hcur
    have H3 := Aside0.mk h3
    have H4 := Aside0.mk h4
    have hi' : (findT l id).toNat < l.length := by omega
    have HF1 : Aside0 (∀ w1, Below w.heap.size w w1 → (w1.setCell ⟨g, (findT l id).toNat * 2, none⟩ (.int .i64 a)).heap[t]? = some (TimB 24 (momV g (l.set (findT l id).toNat (a, id)).length c))) := ⟨fun w1 hb => by
      have hne := blk_ne HB.out hcur (by decide)
      rw [List.length_set, Below.heap_setCell _ _ _ _ hne]
      exact blk_below HB.out hb⟩
    have HF2 : Aside0 (∀ w1, Below w.heap.size w w1 → Kd.R kone 265 (w1.setCell ⟨g, (findT l id).toNat * 2, none⟩ (.int .i64 a)) base ok (momV g (l.set (findT l id).toNat (a, id)).length c) (l.set (findT l id).toNat (a, id))) := ⟨fun w1 hb => by
      rw [List.length_set]
      have := one_put_at (Kd.R_below HR.out hb) (findT l id).toNat a
      rw [show (l.getD (findT l id).toNat (0, 0)).2 = id from h3] at this
      exact this⟩
    have HPUT : Aside0 (TmSays (l.set (findT l id).toNat (a, id)) (updT f id (some a))) := ⟨by
      have h5 := hs.put hi' a
      have e : l[(findT l id).toNat].2 = id := by
        have h6 := h3
        simp only [one, List.getD_eq_getElem?_getD, List.getElem?_eq_getElem hi', Option.getD_some] at h6
        exact h6
      rw [e] at h5
      exact h5⟩
    clear x0 x1 hcur h3 h4 hs hb hC
    go_enter Tryz.func122, Tryz.ntmps122
    go_wp2_with (first
      | (go_at_call 164; refine (timer_find t 24 _ c l id _ HB.out (Kd.R_reads' HR.out).2.2 hcap h24).mono ?_; rintro e w1 ⟨rfl, hb⟩; have HB1 := Aside0.mk hb; have y0 : w1.cell? ⟨t, 0, none⟩ = some (.int .i64 24) := (blk_cell (blk_below HB.out hb) 0).trans rfl; have y1 : w1.cell? ⟨t, 1, none⟩ = some (.slice (some ⟨g, 0, none⟩) l.length c) := (blk_cell (blk_below HB.out hb) 1).trans rfl; have y2 : w1.cell? ⟨g, (findT l id).toNat * 2, none⟩ = some (.int .i64 (one l (findT l id)).1) := (hb.cell (World.block_lt_of_cell? w _ HX.out)).trans HX.out; have f2 := blk_frozen (blk_below HC.out hb) ((findT l id).toNat * 2); clear hb)
      | (go_at_call 173; (with_reducible refine (heap_Fix base ok t 24 g c (l.set (findT l id).toNat (a, id)) (findT l id) _ (HF1.out w1 HB1.out) (HF2.out w1 HB1.out) h1 (by rw [List.length_set]; exact h2) (by rw [List.length_set]; exact h24)).mono ?_); rintro e w3 ⟨rfl, l3, hh⟩; have H5 := Aside0.mk hh; clear hh))
    go_ret
    refine ⟨rfl, ⟨l3, ⟨_, H5.out.box, Kd.R_mono H5.out.row fun k hk => .inl hk⟩, (HPUT.out).perm H5.out.perm⟩, ?_⟩
    refine ((Only.fresh HB1.out (fun k => k = t ∨ ok k)).set (p := ⟨g, _, none⟩) (fun _ => .inr hok) _).next (H5.out.only.mono fun k _ e => .inr (e ▸ hok))
set_option maxRecDepth 100000 in
theorem timer_Cancel (base : Nat) (ok : Nat → Prop) (t : Nat) (f : Int → Option Int) (id : Int) (w : World) (h : TmF w base ok t f) (hb : InT f) :
    Calls Tryz.prog 111 #[.pointer (some ⟨t, 0, none⟩), .int .i64 id] w fun e w' => e = .returned (.bool (f id).isSome) ∧ TmF w' base ok t (updT f id none) ∧ Only (fun k => k = t ∨ ok k) w w' := by
  obtain ⟨l, ⟨v, hb0, hr0⟩, hs⟩ := h
  have h24 := hs.few hb
  have hsay := findT_says hs id
  obtain ⟨A, c, rfl⟩ := Kd.R_slice hr0
  have hcap := (Kd.R_reads' hr0).2.1
  have HB := Aside0.mk hb0
  have HR := Aside0.mk hr0
  have HS := Aside0.mk hs
  clear hb0 hr0
  rcases hsay with ⟨h1, h2⟩ | ⟨h1, h2, h3, h4⟩
  · have d4 : decide (0 ≤ findT l id) = false := by simp; omega
    have H2 := Aside0.mk h2
    clear h2 hs hb
    go_enter Tryz.func111, Tryz.ntmps111
    go_wp2_with (go_at_call 164; refine (timer_find t 24 A c l id _ HB.out (Kd.R_reads' HR.out).2.2 hcap h24).mono ?_; rintro e w1 ⟨rfl, hb⟩; have HB1 := Aside0.mk hb; clear hb)
    go_ret
    refine ⟨by simp [H2.out], ⟨l, ⟨_, blk_below HB.out HB1.out, Kd.R_below HR.out HB1.out⟩, ?_⟩, Only.fresh HB1.out _⟩
    have e : updT f id none = f := by
      funext k
      unfold updT
      split
      · rename_i h
        rw [h, H2.out]
      · rfl
    rw [e]
    exact HS.out
  · have d4 : decide (0 ≤ findT l id) = true := by simp; omega
    have H4 := Aside0.mk h4
    have H3 := Aside0.mk h3
    obtain ⟨g, cap, hv, hok⟩ := R_some HR.out (by omega)
    cases hv
    clear h3 h4 hs hb
    go_enter Tryz.func111, Tryz.ntmps111
    go_wp2_with (first
      | (go_at_call 164; refine (timer_find t 24 _ c l id _ HB.out (Kd.R_reads' HR.out).2.2 hcap h24).mono ?_; rintro e w1 ⟨rfl, hb⟩; have HB1 := Aside0.mk hb; have HB2 := Aside0.mk (blk_below HB.out hb); have HR2 := Aside0.mk (Kd.R_below HR.out hb); clear hb)
      | (go_at_call 165; (with_reducible refine (heap_Remove base ok t 24 g c l (findT l id) _ HB2.out HR2.out h1 h2 h24).mono ?_); rintro e w3 ⟨⟨v, rfl⟩, ⟨l3, hp, hT⟩, ho⟩; have HP := Aside0.mk hp; have HT := Aside0.mk hT; have HO := Aside0.mk ho; clear hp hT ho))
    go_ret
    refine ⟨by simp [H4.out], ⟨l3, HT.out, ?_⟩, (Only.fresh HB1.out _).next HO.out⟩
    have hi' : (findT l id).toNat < l.length := by omega
    have h5 := HS.out.erase hi'
    have e : l[(findT l id).toNat].2 = id := by
      have h6 := H3.out
      simp only [one, List.getD_eq_getElem?_getD, List.getElem?_eq_getElem hi', Option.getD_some] at h6
      exact h6
    rw [e] at h5
    exact h5.perm HP.out
theorem timer_Len (t : Nat) (most : Int) (A : Option Addr) (n c : Nat) (w : World) (hb : w.heap[t]? = some (TimB most (.slice A n c))) :
    Calls Tryz.prog 76 #[.pointer (some ⟨t, 0, none⟩)] w fun e w' => e = .returned (.int .i64 n) ∧ w' = w := by
  have c0 : w.cell? ⟨t, 1, none⟩ = some (.slice A n c) := (blk_cell hb 1).trans rfl
  go_enter Tryz.func76, Tryz.ntmps76
  go_wp2
  go_ret
  exact ⟨rfl, rfl⟩
end Go.Proofs.YthbngidbfhcdaaaGreat.C
/- What package lease's functions come to. -/
namespace Go.Proofs.YthbngidbfhcdaaaGreat.C
open Go.RowKit Go.Maps Go.Proofs.YthbngidbfhcdaaaGreat.Mem Go.Proofs.YthbngidbfhcdaaaGreatW.PrintWords Go.Proofs.YthbngidbfhcdaaaGreat.PCoordScript
set_option linter.unusedVariables false
set_option linter.unusedSimpArgs false
theorem Only.setB (b i : Nat) (u : Value) (w : World) : Only (fun k => k = b) w (w.setCell ⟨b, i, none⟩ u) := (Only.refl (fun k => k = b) w).set (p := ⟨b, i, none⟩) (fun _ => rfl) u
def upL (L : Nat → Ls) (k : Nat) (v : Ls) : Nat → Ls := fun i => if i = k then v else L i
/-- Where a worker's lease lies. -/
abbrev lat (b k : Nat) : Value := .pointer (some ⟨b, 2 + 3 * k, none⟩)
theorem five {n k : Int} (h1 : 1 ≤ k) (h2 : k ≤ n) (h3 : n ≤ 5) : k = 1 ∨ k = 2 ∨ k = 3 ∨ k = 4 ∨ k = 5 := by omega
theorem lease_get (b : Nat) (n t k : Int) (L : Nat → Ls) (w : World) (hb : w.heap[b]? = some (Tab n t L)) (h1 : 1 ≤ k) (h2 : k ≤ n) (h3 : n ≤ 5) :
    Calls Tryz.prog 125 #[.pointer (some ⟨b, 0, none⟩), .int .i64 k] w fun e w' => e = .returned (lat b k.toNat) ∧ w' = w := by
  have c0 : w.cell? ⟨b, 0, none⟩ = some (.int .i64 n) := (blk_cell hb 0).trans rfl
  have d1 : decide (k < 1) = false := by simp; omega
  have d2 : decide (n < k) = false := by simp; omega
  rcases five h1 h2 h3 with rfl | rfl | rfl | rfl | rfl
  all_goals
    go_enter Tryz.func125, Tryz.ntmps125
    go_wp2
    go_ret
    exact ⟨rfl, rfl⟩
theorem lease_get_none (b : Nat) (n t k : Int) (L : Nat → Ls) (w : World) (hb : w.heap[b]? = some (Tab n t L)) (h : k < 1 ∨ n < k) :
    Calls Tryz.prog 125 #[.pointer (some ⟨b, 0, none⟩), .int .i64 k] w fun e w' => e = .returned (.pointer none) ∧ w' = w := by
  have c0 : w.cell? ⟨b, 0, none⟩ = some (.int .i64 n) := (blk_cell hb 0).trans rfl
  rcases Mem.dec_or (k < 1) with d1 | d1
  · go_enter Tryz.func125, Tryz.ntmps125
    go_wp2
    go_ret
    exact ⟨rfl, rfl⟩
  · have d2 : decide (n < k) = true := by simp at d1; simp; omega
    go_enter Tryz.func125, Tryz.ntmps125
    go_wp2
    go_ret
    exact ⟨rfl, rfl⟩
theorem lease_time (now : Int) (w : World) (h0 : 0 ≤ now) (h1 : now ≤ 1099511627776) :
    Calls Tryz.prog 159 #[.int .i64 now] w fun e w' => e = .returned (.bool true) ∧ w' = w := by
  have d1 : decide (0 ≤ now) = true := decide_eq_true h0
  have d2 : decide (now ≤ 1099511627776) = true := decide_eq_true h1
  go_enter Tryz.func159, Tryz.ntmps159
  go_wp2
  go_ret
  exact ⟨rfl, rfl⟩
set_option maxRecDepth 100000 in
theorem lease_lives (b k : Nat) (n t now : Int) (L : Nat → Ls) (w : World) (hb : w.heap[b]? = some (Tab n t L)) (h1 : 1 ≤ k) (h2 : k ≤ 5) (ht : 1 ≤ t ∧ t ≤ 1000) (h0 : 0 ≤ now) (hn : now ≤ 1099511627776) :
    Calls Tryz.prog 160 #[.pointer (some ⟨b, 0, none⟩), lat b k, .int .i64 now] w fun e w' => e = .returned (.tuple #[]) ∧ w'.heap[b]? = some (Tab n t (upL L k ⟨(L k).life, (L k).epoch, max (L k).till (now + t)⟩)) ∧ Only (fun i => i = b) w w' := by
  have c0 : w.cell? ⟨b, 1, none⟩ = some (.int .i64 t) := (blk_cell hb 1).trans rfl
  have hk : k = 1 ∨ k = 2 ∨ k = 3 ∨ k = 4 ∨ k = 5 := by omega
  have hw : IntKind.i64.wrap (now + t) = now + t := IntWalk.i64_in _ (by omega)
  rcases hk with rfl | rfl | rfl | rfl | rfl
  · go_enter Tryz.func160, Tryz.ntmps160
    go_upto_region 0 with fail
    (refine Mem.still_tail 14 (by kernel_rfl) (by kernel_rfl) (R := (fun W => W.heap[b]? = some (Tab n t L) ∧ Only (fun i => i = b) w W)) ⟨hb, Only.fresh (below_drew1 (Below.refl _ _)) _⟩ ?_)
    clear hb c0
    rintro W ⟨hb, hT⟩
    have c1 : W.cell? ⟨b, 1, none⟩ = some (.int .i64 t) := (blk_cell hb 1).trans rfl
    have c2 : W.cell? ⟨b, 7, none⟩ = some (.int .i64 (L 1).till) := (blk_cell hb _).trans rfl
    have f2 := blk_frozen hb 7
    (simp only [List.take_succ_cons, List.take_zero, List.drop_succ_cons, List.drop_zero]; repeat still_step)
    refine wpStill_nil ?_
    go_wp2
    go_end0
    exact ⟨rfl, blk_put hb 7 _ rfl, Only.next hT (Only.setB _ _ _ _)⟩
  · go_enter Tryz.func160, Tryz.ntmps160
    go_upto_region 0 with fail
    (refine Mem.still_tail 14 (by kernel_rfl) (by kernel_rfl) (R := (fun W => W.heap[b]? = some (Tab n t L) ∧ Only (fun i => i = b) w W)) ⟨hb, Only.fresh (below_drew1 (Below.refl _ _)) _⟩ ?_)
    clear hb c0
    rintro W ⟨hb, hT⟩
    have c1 : W.cell? ⟨b, 1, none⟩ = some (.int .i64 t) := (blk_cell hb 1).trans rfl
    have c2 : W.cell? ⟨b, 10, none⟩ = some (.int .i64 (L 2).till) := (blk_cell hb _).trans rfl
    have f2 := blk_frozen hb 10
    (simp only [List.take_succ_cons, List.take_zero, List.drop_succ_cons, List.drop_zero]; repeat still_step)
    refine wpStill_nil ?_
    go_wp2
    go_end0
    exact ⟨rfl, blk_put hb 10 _ rfl, Only.next hT (Only.setB _ _ _ _)⟩
  · go_enter Tryz.func160, Tryz.ntmps160
    go_upto_region 0 with fail
    (refine Mem.still_tail 14 (by kernel_rfl) (by kernel_rfl) (R := (fun W => W.heap[b]? = some (Tab n t L) ∧ Only (fun i => i = b) w W)) ⟨hb, Only.fresh (below_drew1 (Below.refl _ _)) _⟩ ?_)
    clear hb c0
    rintro W ⟨hb, hT⟩
    have c1 : W.cell? ⟨b, 1, none⟩ = some (.int .i64 t) := (blk_cell hb 1).trans rfl
    have c2 : W.cell? ⟨b, 13, none⟩ = some (.int .i64 (L 3).till) := (blk_cell hb _).trans rfl
    have f2 := blk_frozen hb 13
    (simp only [List.take_succ_cons, List.take_zero, List.drop_succ_cons, List.drop_zero]; repeat still_step)
    refine wpStill_nil ?_
    go_wp2
    go_end0
    exact ⟨rfl, blk_put hb 13 _ rfl, Only.next hT (Only.setB _ _ _ _)⟩
  · go_enter Tryz.func160, Tryz.ntmps160
    go_upto_region 0 with fail
    (refine Mem.still_tail 14 (by kernel_rfl) (by kernel_rfl) (R := (fun W => W.heap[b]? = some (Tab n t L) ∧ Only (fun i => i = b) w W)) ⟨hb, Only.fresh (below_drew1 (Below.refl _ _)) _⟩ ?_)
    clear hb c0
    rintro W ⟨hb, hT⟩
    have c1 : W.cell? ⟨b, 1, none⟩ = some (.int .i64 t) := (blk_cell hb 1).trans rfl
    have c2 : W.cell? ⟨b, 16, none⟩ = some (.int .i64 (L 4).till) := (blk_cell hb _).trans rfl
    have f2 := blk_frozen hb 16
    (simp only [List.take_succ_cons, List.take_zero, List.drop_succ_cons, List.drop_zero]; repeat still_step)
    refine wpStill_nil ?_
    go_wp2
    go_end0
    exact ⟨rfl, blk_put hb 16 _ rfl, Only.next hT (Only.setB _ _ _ _)⟩
  · go_enter Tryz.func160, Tryz.ntmps160
    go_upto_region 0 with fail
    (refine Mem.still_tail 14 (by kernel_rfl) (by kernel_rfl) (R := (fun W => W.heap[b]? = some (Tab n t L) ∧ Only (fun i => i = b) w W)) ⟨hb, Only.fresh (below_drew1 (Below.refl _ _)) _⟩ ?_)
    clear hb c0
    rintro W ⟨hb, hT⟩
    have c1 : W.cell? ⟨b, 1, none⟩ = some (.int .i64 t) := (blk_cell hb 1).trans rfl
    have c2 : W.cell? ⟨b, 19, none⟩ = some (.int .i64 (L 5).till) := (blk_cell hb _).trans rfl
    have f2 := blk_frozen hb 19
    (simp only [List.take_succ_cons, List.take_zero, List.drop_succ_cons, List.drop_zero]; repeat still_step)
    refine wpStill_nil ?_
    go_wp2
    go_end0
    exact ⟨rfl, blk_put hb 19 _ rfl, Only.next hT (Only.setB _ _ _ _)⟩
theorem upL_same (L : Nat → Ls) (k : Nat) (v : Ls) : upL L k v k = v := by simp [upL]
theorem upL_up (L : Nat → Ls) (k : Nat) (v v' : Ls) : upL (upL L k v) k v' = upL L k v' := by
  funext i
  by_cases h : i = k <;> simp [upL, h]
theorem tab_read {b k : Nat} {n t : Int} {L : Nat → Ls} {w : World} (hb : w.heap[b]? = some (Tab n t L)) (h1 : 1 ≤ k) (h2 : k ≤ 5) :
    w.cell? ⟨b, 2 + 3 * k, none⟩ = some (.int .i64 (L k).life) ∧ w.cell? ⟨b, 2 + 3 * k + 1, none⟩ = some (.int .i64 (L k).epoch) ∧ w.cell? ⟨b, 2 + 3 * k + 2, none⟩ = some (.int .i64 (L k).till) := by
  have hk : k = 1 ∨ k = 2 ∨ k = 3 ∨ k = 4 ∨ k = 5 := by omega
  rcases hk with rfl | rfl | rfl | rfl | rfl
  all_goals exact ⟨(blk_cell hb _).trans rfl, (blk_cell hb _).trans rfl, (blk_cell hb _).trans rfl⟩
theorem tab_life {b k : Nat} {n t : Int} {L : Nat → Ls} {w : World} (hb : w.heap[b]? = some (Tab n t L)) (h1 : 1 ≤ k) (h2 : k ≤ 5) (v : Int) :
    (w.setCell ⟨b, 2 + 3 * k, none⟩ (.int .i64 v)).heap[b]? = some (Tab n t (upL L k ⟨v, (L k).epoch, (L k).till⟩)) := by
  have hk : k = 1 ∨ k = 2 ∨ k = 3 ∨ k = 4 ∨ k = 5 := by omega
  rcases hk with rfl | rfl | rfl | rfl | rfl
  all_goals exact blk_put hb _ _ rfl
theorem tab_epoch {b k : Nat} {n t : Int} {L : Nat → Ls} {w : World} (hb : w.heap[b]? = some (Tab n t L)) (h1 : 1 ≤ k) (h2 : k ≤ 5) (v : Int) :
    (w.setCell ⟨b, 2 + 3 * k + 1, none⟩ (.int .i64 v)).heap[b]? = some (Tab n t (upL L k ⟨(L k).life, v, (L k).till⟩)) := by
  have hk : k = 1 ∨ k = 2 ∨ k = 3 ∨ k = 4 ∨ k = 5 := by omega
  rcases hk with rfl | rfl | rfl | rfl | rfl
  all_goals exact blk_put hb _ _ rfl
/-- Heard of a new life, or of the same one. -/
def heardL (x : Ls) (life now t : Int) : Ls := ⟨life, if x.life < life then x.epoch + 1 else x.epoch, max x.till (now + t)⟩
set_option maxRecDepth 100000 in
theorem lease_Hello (b : Nat) (n t k life now : Int) (L : Nat → Ls) (w : World) (hb : w.heap[b]? = some (Tab n t L)) (h1 : 1 ≤ k) (h2 : k ≤ n) (h3 : n ≤ 5) (ht : 1 ≤ t ∧ t ≤ 1000) (h0 : 0 ≤ now) (hn : now ≤ 1099511627776)
    (hl : 1 ≤ life ∧ life ≤ 2147483647) (hold : (L k.toNat).life ≤ life) (he : 0 ≤ (L k.toNat).epoch ∧ (L k.toNat).epoch ≤ 4611686018427387904) :
    Calls Tryz.prog 105 #[.pointer (some ⟨b, 0, none⟩), .int .i64 k, .int .i64 life, .int .i64 now] w fun e w' => e = .returned (.tuple #[.int .i64 (heardL (L k.toNat) life now t).epoch, .int .i64 0]) ∧
      w'.heap[b]? = some (Tab n t (upL L k.toNat (heardL (L k.toNat) life now t))) ∧ Only (fun i => i = b) w w' := by
  have hk1 : 1 ≤ k.toNat := by omega
  have hk2 : k.toNat ≤ 5 := by omega
  have d1 : decide (life < 1) = false := by simp; omega
  have d2 : decide (2147483647 < life) = false := by simp; omega
  have d3 : decide (life < (L k.toNat).life) = false := by simp; omega
  have HB := Aside0.mk hb
  obtain ⟨c0, c1, c2⟩ := tab_read hb hk1 hk2
  have f0 := blk_frozen hb (2 + 3 * k.toNat)
  have f1 := blk_frozen hb (2 + 3 * k.toNat + 1)
  rcases Mem.dec_or ((L k.toNat).life < life) with d4 | d4
  · have h4 : (L k.toNat).life < life := of_decide_eq_true d4
    have t1 : Only (fun i => i = b) w (w.setCell ⟨b, 2 + 3 * k.toNat, none⟩ (.int .i64 life)) := Only.setB _ _ _ _
    have e1 := tab_life hb hk1 hk2 life
    have t2 := Only.next t1 (Only.setB b (2 + 3 * k.toNat + 1) (.int .i64 ((L k.toNat).epoch + 1)) _)
    have e2 := tab_epoch e1 hk1 hk2 ((L k.toNat).epoch + 1)
    rw [upL_up, upL_same] at e2
    have HT := Aside0.mk t2
    have HE := Aside0.mk e2
    clear t1 e1 t2 e2 hb
    go_enter Tryz.func105, Tryz.ntmps105
    go_wp2_with (first | (go_at_call 125; refine (lease_get b n t k L _ HB.out h1 h2 h3).mono ?_; rintro e w1 ⟨rfl, rfl⟩) | (go_at_call 159; refine (lease_time now _ h0 hn).mono ?_; rintro e w1 ⟨rfl, rfl⟩) | (go_at_call 160; refine (lease_lives b k.toNat n t now _ _ HE.out hk1 hk2 ht h0 hn).mono ?_; rintro e w2 ⟨rfl, hb2, hT2⟩; rw [upL_same, upL_up] at hb2; obtain ⟨g0, g1, g2⟩ := tab_read hb2 hk1 hk2; rw [upL_same] at g0 g1 g2; have HB2 := Aside0.mk hb2; have HT2 := Aside0.mk hT2; clear hb2 hT2))
    go_ret2
    have eh : heardL (L k.toNat) life now t = ⟨life, (L k.toNat).epoch + 1, max (L k.toNat).till (now + t)⟩ := by simp [heardL, h4]
    rw [eh]
    exact ⟨rfl, HB2.out, Only.next HT.out HT2.out⟩
  · have h4 : (L k.toNat).life = life := by simp at d4; omega
    clear hb
    go_enter Tryz.func105, Tryz.ntmps105
    go_wp2_with (first | (go_at_call 125; refine (lease_get b n t k L _ HB.out h1 h2 h3).mono ?_; rintro e w1 ⟨rfl, rfl⟩) | (go_at_call 159; refine (lease_time now _ h0 hn).mono ?_; rintro e w1 ⟨rfl, rfl⟩) | (go_at_call 160; refine (lease_lives b k.toNat n t now _ _ HB.out hk1 hk2 ht h0 hn).mono ?_; rintro e w2 ⟨rfl, hb2, hT2⟩; obtain ⟨g0, g1, g2⟩ := tab_read hb2 hk1 hk2; rw [upL_same] at g0 g1 g2; have HB2 := Aside0.mk hb2; have HT2 := Aside0.mk hT2; clear hb2 hT2))
    go_ret2
    have eh : heardL (L k.toNat) life now t = ⟨(L k.toNat).life, (L k.toNat).epoch, max (L k.toNat).till (now + t)⟩ := by simp [heardL, h4]
    rw [eh]
    exact ⟨rfl, HB2.out, HT2.out⟩
theorem lease_Live (b : Nat) (n t k now : Int) (L : Nat → Ls) (w : World) (hb : w.heap[b]? = some (Tab n t L)) (h1 : 1 ≤ k) (h2 : k ≤ n) (h3 : n ≤ 5) :
    Calls Tryz.prog 119 #[.pointer (some ⟨b, 0, none⟩), .int .i64 k, .int .i64 now] w fun e w' => e = .returned (.bool (decide (0 < (L k.toNat).epoch) && decide (now ≤ (L k.toNat).till))) ∧ w' = w := by
  have hk1 : 1 ≤ k.toNat := by omega
  have hk2 : k.toNat ≤ 5 := by omega
  obtain ⟨c0, c1, c2⟩ := tab_read hb hk1 hk2
  rcases Mem.dec_or (0 < (L k.toNat).epoch) with d | d
  all_goals
    go_enter Tryz.func119, Tryz.ntmps119
    go_wp2_with (go_at_call 125; refine (lease_get b n t k L _ hb h1 h2 h3).mono ?_; rintro e w1 ⟨rfl, rfl⟩)
    go_ret
    exact ⟨by simp [d], rfl⟩
theorem lease_Epoch (b : Nat) (n t k : Int) (L : Nat → Ls) (w : World) (hb : w.heap[b]? = some (Tab n t L)) (h1 : 1 ≤ k) (h2 : k ≤ n) (h3 : n ≤ 5) :
    Calls Tryz.prog 77 #[.pointer (some ⟨b, 0, none⟩), .int .i64 k] w fun e w' => e = .returned (.int .i64 (L k.toNat).epoch) ∧ w' = w := by
  have hk1 : 1 ≤ k.toNat := by omega
  have hk2 : k.toNat ≤ 5 := by omega
  obtain ⟨c0, c1, c2⟩ := tab_read hb hk1 hk2
  go_enter Tryz.func77, Tryz.ntmps77
  go_wp2_with (go_at_call 125; refine (lease_get b n t k L _ hb h1 h2 h3).mono ?_; rintro e w1 ⟨rfl, rfl⟩)
  go_ret
  exact ⟨rfl, rfl⟩
/-- Of a worker that there isn't, or a life that may not be, or is over: nothing. -/
theorem lease_Hello_no (b : Nat) (n t k life now : Int) (L : Nat → Ls) (w : World) (hb : w.heap[b]? = some (Tab n t L)) (h3 : n ≤ 5) (h0 : 0 ≤ now) (hn : now ≤ 1099511627776) (hno : k < 1 ∨ n < k ∨ life < 1 ∨ 2147483647 < life ∨ life < (L k.toNat).life) :
    Calls Tryz.prog 105 #[.pointer (some ⟨b, 0, none⟩), .int .i64 k, .int .i64 life, .int .i64 now] w fun e w' => (∃ r, e = .returned (.tuple #[.int .i64 0, .int .i64 r]) ∧ r ≠ 0) ∧ w' = w := by
  by_cases hk : k < 1 ∨ n < k
  · go_enter Tryz.func105, Tryz.ntmps105
    go_wp2_with (go_at_call 125; refine (lease_get_none b n t k L _ hb hk).mono ?_; rintro e w1 ⟨rfl, hw⟩; obtain rfl := hw.symm)
    go_ret2
    exact ⟨⟨_, rfl, by decide⟩, rfl⟩
  · have h1 : 1 ≤ k := by omega
    have h2 : k ≤ n := by omega
    have hk1 : 1 ≤ k.toNat := by omega
    have hk2 : k.toNat ≤ 5 := by omega
    obtain ⟨c0, c1, c2⟩ := tab_read hb hk1 hk2
    have HB := Aside0.mk hb
    have hcs : decide (life < 1) = true ∨ (decide (life < 1) = false ∧ decide (2147483647 < life) = true) ∨ (decide (life < 1) = false ∧ decide (2147483647 < life) = false ∧ decide (life < (L k.toNat).life) = true) := by
      by_cases a : life < 1
      · exact .inl (decide_eq_true a)
      · by_cases b2 : 2147483647 < life
        · exact .inr (.inl ⟨decide_eq_false a, decide_eq_true b2⟩)
        · exact .inr (.inr ⟨decide_eq_false a, decide_eq_false b2, decide_eq_true (by omega)⟩)
    clear hb hno hk
    rcases hcs with d1 | ⟨d1, d2⟩ | ⟨d1, d2, d3⟩
    all_goals
      go_enter Tryz.func105, Tryz.ntmps105
      go_wp2_with (first | (go_at_call 125; refine (lease_get b n t k L _ HB.out h1 h2 h3).mono ?_; rintro e w1 ⟨rfl, hw⟩; obtain rfl := hw.symm) | (go_at_call 159; refine (lease_time now _ h0 hn).mono ?_; rintro e w1 ⟨rfl, hw⟩; obtain rfl := hw.symm))
      go_ret2
      exact ⟨⟨_, rfl, by decide⟩, rfl⟩
theorem lease_Epoch_none (b : Nat) (n t k : Int) (L : Nat → Ls) (w : World) (hb : w.heap[b]? = some (Tab n t L)) (h : k < 1 ∨ n < k) :
    Calls Tryz.prog 77 #[.pointer (some ⟨b, 0, none⟩), .int .i64 k] w fun e w' => e = .returned (.int .i64 0) ∧ w' = w := by
  go_enter Tryz.func77, Tryz.ntmps77
  go_wp2_with (go_at_call 125; refine (lease_get_none b n t k L _ hb h).mono ?_; rintro e w1 ⟨rfl, hw⟩; obtain rfl := hw.symm)
  go_ret
  exact ⟨rfl, rfl⟩
/-- Was something of the worker's present epoch heard? Its lease goes on, then. -/
theorem lease_Seen_no (b : Nat) (n t k ep now : Int) (L : Nat → Ls) (w : World) (hb : w.heap[b]? = some (Tab n t L)) (h1 : 1 ≤ k) (h2 : k ≤ n) (h3 : n ≤ 5) (h0 : 0 ≤ now) (hn : now ≤ 1099511627776) (hno : (L k.toNat).epoch = 0 ∨ (L k.toNat).epoch ≠ ep) :
    Calls Tryz.prog 109 #[.pointer (some ⟨b, 0, none⟩), .int .i64 k, .int .i64 ep, .int .i64 now] w fun e w' => e = .returned (.bool false) ∧ w' = w := by
  have hk1 : 1 ≤ k.toNat := by omega
  have hk2 : k.toNat ≤ 5 := by omega
  obtain ⟨c0, c1, c2⟩ := tab_read hb hk1 hk2
  have HB := Aside0.mk hb
  have hcs : ((L k.toNat).epoch == 0) = true ∨ (((L k.toNat).epoch == 0) = false ∧ ((L k.toNat).epoch != ep) = true) := by
    by_cases a : (L k.toNat).epoch = 0
    · exact .inl (by simp [a])
    · refine .inr ⟨by simp [a], ?_⟩
      have := hno.resolve_left a
      simp [this]
  clear hb hno
  rcases hcs with d1 | ⟨d1, d2⟩
  all_goals
    go_enter Tryz.func109, Tryz.ntmps109
    go_wp2_with (first | (go_at_call 125; refine (lease_get b n t k L _ HB.out h1 h2 h3).mono ?_; rintro e w1 ⟨rfl, hw⟩; obtain rfl := hw.symm) | (go_at_call 159; refine (lease_time now _ h0 hn).mono ?_; rintro e w1 ⟨rfl, hw⟩; obtain rfl := hw.symm))
    go_ret
    exact ⟨rfl, rfl⟩
def seenL (L : Nat → Ls) (k : Nat) (now t : Int) : Nat → Ls := upL L k ⟨(L k).life, (L k).epoch, max (L k).till (now + t)⟩
theorem lease_Seen_yes (b : Nat) (n t k ep now : Int) (L : Nat → Ls) (w : World) (hb : w.heap[b]? = some (Tab n t L)) (h1 : 1 ≤ k) (h2 : k ≤ n) (h3 : n ≤ 5) (ht : 1 ≤ t ∧ t ≤ 1000) (h0 : 0 ≤ now) (hn : now ≤ 1099511627776) (hne : (L k.toNat).epoch ≠ 0) (he : (L k.toNat).epoch = ep) :
    Calls Tryz.prog 109 #[.pointer (some ⟨b, 0, none⟩), .int .i64 k, .int .i64 ep, .int .i64 now] w fun e w' => e = .returned (.bool true) ∧ w'.heap[b]? = some (Tab n t (seenL L k.toNat now t)) ∧ Only (fun i => i = b) w w' := by
  have hk1 : 1 ≤ k.toNat := by omega
  have hk2 : k.toNat ≤ 5 := by omega
  obtain ⟨c0, c1, c2⟩ := tab_read hb hk1 hk2
  have HB := Aside0.mk hb
  subst he
  have d1 : ((L k.toNat).epoch == 0) = false := by simp [hne]
  have d2 : ((L k.toNat).epoch != (L k.toNat).epoch) = false := by simp
  clear hb
  go_enter Tryz.func109, Tryz.ntmps109
  go_wp2_with (first | (go_at_call 125; refine (lease_get b n t k L _ HB.out h1 h2 h3).mono ?_; rintro e w1 ⟨rfl, hw⟩; obtain rfl := hw.symm) | (go_at_call 159; refine (lease_time now _ h0 hn).mono ?_; rintro e w1 ⟨rfl, hw⟩; obtain rfl := hw.symm) | (go_at_call 160; refine (lease_lives b k.toNat n t now L _ HB.out hk1 hk2 ht h0 hn).mono ?_; rintro e w2 ⟨rfl, hb2, hT2⟩; have HB2 := Aside0.mk hb2; have HT2 := Aside0.mk hT2; clear hb2 hT2))
  go_ret
  exact ⟨rfl, HB2.out, HT2.out⟩
end Go.Proofs.YthbngidbfhcdaaaGreat.C
/- Slots; what may be asked for. -/
namespace Go.Proofs.YthbngidbfhcdaaaGreat.C
open Go.RowKit Go.Maps Go.Proofs.YthbngidbfhcdaaaGreat.Mem Go.Proofs.YthbngidbfhcdaaaGreatW.PrintWords Go.Proofs.YthbngidbfhcdaaaGreat.PCoordScript
set_option linter.unusedVariables false
set_option linter.unusedSimpArgs false
theorem lawK : Keyed Tryz.prog 3 := int_keyed Tryz.underlying3
theorem look_I {w : World} {b m : Nat} {f : Int → Option Int} (h : MapAt Tryz.prog 3 encI w b m f) {x : Int} (hx : (Lit.int .i64 x).wf = true) :
    (Instr.lookup 218 (.map (some b)) (.int .i64 x) true).run Tryz.prog w = .ok (.tuple #[.int .i64 ((f x).getD 0), .bool (f x).isSome]) w := by
  have := h.look_ok lawK Tryz.underlying218 (Tryz.zeroValue3 _) Tryz.underlying3 hx
  rw [this]
  cases f x <;> rfl
theorem look_I1 {w : World} {b m : Nat} {f : Int → Option Int} (h : MapAt Tryz.prog 3 encI w b m f) {x : Int} (hx : (Lit.int .i64 x).wf = true) :
    (Instr.lookup 218 (.map (some b)) (.int .i64 x) false).run Tryz.prog w = .ok (.int .i64 ((f x).getD 0)) w := by
  have := h.look lawK Tryz.underlying218 (Tryz.zeroValue3 _) Tryz.underlying3 hx
  rw [this]
  cases f x <;> rfl
theorem slots_At (c : Cfg) (base : Nat) (I : CoIds) (S : CoG) (k : Int) (w : World) (h : CoSt c base I S w) (hk : (Lit.int .i64 k).wf = true) :
    Calls Tryz.prog 68 #[.pointer (some ⟨I.s, 0, none⟩), .int .i64 k] w fun e w' => e = .returned (.tuple #[.int .i64 ((S.fat k).getD 0), .bool (S.fat k).isSome]) ∧ w' = w := by
  have c0 : w.cell? ⟨I.s, 3, none⟩ = some (.map (some I.b)) := (blk_cell h.slot 3).trans rfl
  have hl := look_I h.at_ hk
  go_enter Tryz.func68, Tryz.ntmps68
  go_wp2
  go_ret2
  exact ⟨rfl, rfl⟩
/-- What may be asked for. -/
def mayQ (q : S40) : Bool := askedB q.f0 && decide (0 ≤ q.f1) && decide (q.f1 ≤ 4) && decide (1 ≤ q.f2) && decide (q.f2 ≤ 10)
abbrev qval (q : S40) : Value := .agg #[.string q.f0, .int .i64 q.f1, .int .i64 q.f2]
set_option maxRecDepth 100000 in
theorem rank_May (q : S40) (w : World) (hs : q.f0.size ≤ 9223372036854775807) :
    Calls Tryz.prog 24 #[qval q] w fun e w' => e = .returned (.bool (mayQ q)) ∧ Below w.heap.size w w' := by
  have hcs : askedB q.f0 = false ∨ (askedB q.f0 = true ∧ decide (0 ≤ q.f1) = false) ∨ (askedB q.f0 = true ∧ decide (0 ≤ q.f1) = true ∧ decide (q.f1 ≤ 4) = false) ∨ (askedB q.f0 = true ∧ decide (0 ≤ q.f1) = true ∧ decide (q.f1 ≤ 4) = true ∧ decide (1 ≤ q.f2) = false) ∨ (askedB q.f0 = true ∧ decide (0 ≤ q.f1) = true ∧ decide (q.f1 ≤ 4) = true ∧ decide (1 ≤ q.f2) = true) := by
    cases askedB q.f0 <;> cases decide (0 ≤ q.f1) <;> cases decide (q.f1 ≤ 4) <;> cases decide (1 ≤ q.f2) <;> simp
  rcases hcs with a0 | ⟨a0, a1⟩ | ⟨a0, a1, a2⟩ | ⟨a0, a1, a2, a3⟩ | ⟨a0, a1, a2, a3⟩
  all_goals
    go_enter Tryz.func24, Tryz.ntmps24
    go_wp2_with (go_at_call 71; refine (text_Asked _ _ hs).mono ?_; rintro e w1 ⟨rfl, hb⟩; have HBB := Aside0.mk hb; have e1 : w1.cell? ⟨w.heap.size, 1, none⟩ = some (.int .i64 q.f1) := (blk_cell (new_kept hb) 1).trans rfl; have e2 : w1.cell? ⟨w.heap.size, 2, none⟩ = some (.int .i64 q.f2) := (blk_cell (new_kept hb) 2).trans rfl; clear hb)
    go_ret
    exact ⟨by simp [mayQ, *], below_step (below_alloc (Below.refl _ _) _) HBB.out⟩
end Go.Proofs.YthbngidbfhcdaaaGreat.C
/- Maps: an entry laid, then its value stored (m[k], x = v, ..: two steps). -/
namespace Go.Proofs.YthbngidbfhcdaaaGreat.Mem
open Go.RowKit Go.Maps Go.ChangeShapes Go.WideShapes Go.ChangeMaps Go.WideElems Go.Proofs.YthbngidbfhcdaaaGreatW.PrintWords
section
variable {P : Program} {w : World} {t k e : TypeId} {R : Value → Option (DataW Unit × List MemPlace)} {b : Nat} {es : Array MapEntry} {clock : Nat}
theorem born_last {l : List MapEntry} {x : MapEntry} (h1 : ∀ y ∈ l, y.born < x.born) : (l ++ [x]).findIdx? (fun e => ((e.born : Nat) : Int) == ((x.born : Nat) : Int)) = some l.length := by
  induction l with
  | nil => simp [List.findIdx?_cons]
  | cons a r ih =>
    have h := h1 a List.mem_cons_self
    have hne : (((a.born : Nat) : Int) == ((x.born : Nat) : Int)) = false := by
      rw [beq_eq_false_iff_ne]
      omega
    rw [List.cons_append, List.findIdx?_cons, hne]
    simp [ih fun y hy => h1 y (List.mem_cons_of_mem _ hy)]
/-- At a key: the entry is laid; the store behind it leaves what an update leaves. -/
theorem lay_then_store (K : Keyed P k) (ht : P.underlying t = some (.map k e)) {z : Value} (hz : ∀ u : World, (zeroValue e).run P u = .ok z u) (hb : w.heap[b]? = some (.map es clock)) (F : Fit P k R es clock) {key : Value} {kl : Lit} (hkey : keyOf P k key = some kl) :
    ∃ (v0 : Value) (st : Nat) (es1 : Array MapEntry) (clock1 : Nat), (Instr.mapEntry t (.map (some b)) key).run P w = .ok (.tuple #[v0, goInt st]) (setBlock w b (.map es1 clock1)) ∧
      ∀ (w2 : World) (val : Value), w2.heap[b]? = some (.map es1 clock1) → ∃ es' clock', (Instr.entryStore t (.map (some b)) (goInt st) val).run P w2 = .ok () (setBlock w2 b (.map es' clock')) ∧
        (Instr.mapUpdate t (.map (some b)) key val).run P w = .ok () (setBlock w b (.map es' clock')) := by
  obtain ⟨s1, s2, _⟩ := F.stamped
  have hkeys : ∀ x ∈ es.toList, ∃ l, keyOf P k x.key = some l := F.keys
  rcases K.find w hkey es.toList hkeys with ⟨h1, h2⟩ | ⟨j, e0, h1, h2, h3⟩
  · refine ⟨z, clock, es.push ⟨key, z, clock⟩, clock + 1, ?_, fun w2 val hw2 => ⟨es.push ⟨key, val, clock⟩, clock + 1, ?_, ?_⟩⟩
    · simp [Instr.mapEntry, run_underlying ht, Go.MapKept.run_getObj_map hb, K.check w false hkey, h1, hz, Go.MapKept.run_setObj_map _ hb, Result.andThen, setBlock]
    · have hidx : (es.push ⟨key, z, clock⟩).findIdx? (fun e => ((e.born : Nat) : Int) == ((clock : Nat) : Int)) = some es.size := by
        rw [findIdx_arr, Array.toList_push]
        have := born_last (l := es.toList) (x := ⟨key, z, clock⟩) s1
        simpa using this
      have hmod : (es.push ⟨key, z, clock⟩).modify es.size (fun e => { e with val := val }) = es.push ⟨key, val, clock⟩ := by
        apply Array.ext'
        rw [Array.toList_modify, Array.toList_push, Array.toList_push, ← Array.length_toList, modify_last]
      simp [Instr.entryStore, Go.MapKept.run_getObj_map hw2, asInt, asIntOf, goInt, hidx, hmod, Go.MapKept.run_setObj_map _ hw2, Result.andThen, setBlock]
    · simp [Instr.mapUpdate, run_underlying ht, Go.MapKept.run_getObj_map hb, K.check w false hkey, h1, Go.MapKept.run_setObj_map _ hb, Result.andThen, setBlock]
  · have hj : es[j]? = some e0 := by simpa using h2
    have hsame : es.modify j (fun e => { e with key := key }) = es := by
      apply Array.ext'
      rw [Array.toList_modify, modify_eq_set _ _ _ _ h2]
      have : ({ e0 with key := key } : MapEntry) = e0 := by rw [← h3]
      rw [this]
      exact set_self _ _ _ h2
    refine ⟨e0.val, e0.born, es, clock, ?_, fun w2 val hw2 => ⟨es.modify j (fun e' => { e' with key := key, val := val }), clock, ?_, ?_⟩⟩
    · simp [Instr.mapEntry, run_underlying ht, Go.MapKept.run_getObj_map hb, K.check w false hkey, h1, hj, h3, K.stays w hkey, hsame, Go.MapKept.run_setObj_map _ hb, Result.andThen, setBlock]
    · have hidx : es.findIdx? (fun e => ((e.born : Nat) : Int) == ((e0.born : Nat) : Int)) = some j := by
        rw [findIdx_arr]
        exact findIdx_born s2 h2
      have hmod : es.modify j (fun e => { e with val := val }) = es.modify j (fun e' => { e' with key := key, val := val }) := by
        apply Array.ext'
        rw [Array.toList_modify, Array.toList_modify, modify_eq_set _ _ _ _ h2, modify_eq_set _ _ _ _ h2, ← h3]
      simp [Instr.entryStore, Go.MapKept.run_getObj_map hw2, asInt, asIntOf, goInt, hidx, hmod, Go.MapKept.run_setObj_map _ hw2, Result.andThen, setBlock]
    · simp [Instr.mapUpdate, run_underlying ht, Go.MapKept.run_getObj_map hb, K.check w false hkey, h1, hj, h3, K.stays w hkey, Go.MapKept.run_setObj_map _ hb, Result.andThen, setBlock]
end
section
variable {α : Type} {P : Program} {k e t : TypeId} {E : Enc α} {w : World} {b m : Nat} {f : Int → Option α}
theorem grown_setBlock {w : World} {b : Nat} {es : Array MapEntry} {clk : Nat} {o' : Obj} (h : w.heap[b]? = some (.map es clk)) : w.grownBy (setBlock w b o') (some b) := ⟨rfl, rfl, rfl, by simp [setBlock], fun i _ hi => heap_setBlock_other h _ (fun e => hi (by rw [e]))⟩
theorem MapAt.entry (h : MapAt P k E w b m f) (K : Keyed P k) (ht : P.underlying t = some (.map k e)) (hz : ∀ u : World, (zeroValue e).run P u = .ok E.z u) (hk : P.underlying k = some (.int .i64)) (hm : m < 1000000) {x : Int} (hx : (Lit.int .i64 x).wf = true) (a : α) :
    ∃ (v0 : Value) (st : Nat) (w1 : World), (Instr.mapEntry t (.map (some b)) (.int .i64 x)).run P w = .ok (.tuple #[v0, goInt st]) w1 ∧ w.grownBy w1 (some b) ∧
      ∀ w2 : World, w2.heap[b]? = w1.heap[b]? → ∃ w3, (Instr.entryStore t (.map (some b)) (goInt st) (E.ev a)).run P w2 = .ok () w3 ∧ w2.grownBy w3 (some b) ∧ MapAt P k E w3 b (if (f x).isSome then m else m + 1) (upd f x (some a)) := by
  obtain ⟨w', hrun, hM, hg⟩ := h.put K ht hk hm hx a
  obtain ⟨D, ⟨es, clock, hb, F, hs, rfl⟩, _⟩ := h
  obtain ⟨v0, st, es1, clock1, hE, hS⟩ := lay_then_store K ht hz hb F (keyOf_int_mk hk hx)
  refine ⟨v0, st, _, hE, grown_setBlock hb, fun w2 hw2 => ?_⟩
  rw [heap_setBlock_same hb] at hw2
  obtain ⟨es', clock', h1, h2⟩ := hS w2 (E.ev a) hw2
  refine ⟨_, h1, grown_setBlock hw2, ?_⟩
  rw [hrun] at h2
  injection h2 with _ h2
  subst h2
  refine hM.keep ?_
  rw [heap_setBlock_same hw2, heap_setBlock_same hb]
end
end Go.Proofs.YthbngidbfhcdaaaGreat.Mem
/- Slots: who has which; one more; one less. -/
namespace Go.Proofs.YthbngidbfhcdaaaGreat.C
open Go.RowKit Go.Maps Go.Proofs.YthbngidbfhcdaaaGreat.Mem Go.Proofs.YthbngidbfhcdaaaGreatW.PrintWords Go.Proofs.YthbngidbfhcdaaaGreat.PCoordScript
set_option linter.unusedVariables false
set_option linter.unusedSimpArgs false
theorem wf_i64 {n : Int} (h0 : -9223372036854775808 ≤ n) (h1 : n ≤ 9223372036854775807) : (Lit.int .i64 n).wf = true := by
  have a : IntKind.i64.min = -9223372036854775808 := by decide +kernel
  have b : IntKind.i64.max = 9223372036854775807 := by decide +kernel
  simp [Lit.wf, a, b, h0, h1]
/-- Slots: the most, the last number; which slot a number has; which number a slot has. -/
structure SlAt (W : World) (s a b : Nat) (most last : Int) (n : Nat) (fof : Int → Option Int) (fat : Int → Option Int) : Prop where
  box : W.heap[s]? = some (SlotB most last a b)
  of_ : MapAt Tryz.prog 3 encI W a n fof
  at_ : MapAt Tryz.prog 3 encI W b n fat
  ne : a ≠ b
theorem slots_Of (s a b : Nat) (most last : Int) (n : Nat) (fof fat : Int → Option Int) (k : Int) (w : World) (h : SlAt w s a b most last n fof fat) (hk : (Lit.int .i64 k).wf = true) :
    Calls Tryz.prog 175 #[.pointer (some ⟨s, 0, none⟩), .int .i64 k] w fun e w' => e = .returned (.tuple #[.int .i64 ((fof k).getD 0), .bool (fof k).isSome]) ∧ w' = w := by
  have c0 : w.cell? ⟨s, 2, none⟩ = some (.map (some a)) := (blk_cell h.box 2).trans rfl
  have hl := look_I h.of_ hk
  go_enter Tryz.func175, Tryz.ntmps175
  go_wp2
  go_ret2
  exact ⟨rfl, rfl⟩
theorem slots_At2 (s a b : Nat) (most last : Int) (n : Nat) (fof fat : Int → Option Int) (k : Int) (w : World) (h : SlAt w s a b most last n fof fat) (hk : (Lit.int .i64 k).wf = true) :
    Calls Tryz.prog 68 #[.pointer (some ⟨s, 0, none⟩), .int .i64 k] w fun e w' => e = .returned (.tuple #[.int .i64 ((fat k).getD 0), .bool (fat k).isSome]) ∧ w' = w := by
  have c0 : w.cell? ⟨s, 3, none⟩ = some (.map (some b)) := (blk_cell h.box 3).trans rfl
  have hl := look_I h.at_ hk
  go_enter Tryz.func68, Tryz.ntmps68
  go_wp2
  go_ret2
  exact ⟨rfl, rfl⟩
theorem SlAt.fresh {W W1 : World} {s a b : Nat} {most last : Int} {n : Nat} {fof fat : Int → Option Int} (h : SlAt W s a b most last n fof fat) (hb : Below W.heap.size W W1) : SlAt W1 s a b most last n fof fat :=
  ⟨blk_below h.box hb, h.of_.keep (hb.block _ h.of_.lt), h.at_.keep (hb.block _ h.at_.lt), h.ne⟩
theorem SlAt.sne {W : World} {s a b : Nat} {most last : Int} {n : Nat} {fof fat : Int → Option Int} (h : SlAt W s a b most last n fof fat) : s ≠ a ∧ s ≠ b := by
  constructor
  · rintro rfl
    obtain ⟨es, clk, hm⟩ := h.of_.isMap
    rw [h.box] at hm
    cases hm
  · rintro rfl
    obtain ⟨es, clk, hm⟩ := h.at_.isMap
    rw [h.box] at hm
    cases hm
set_option maxRecDepth 100000 in
set_option maxHeartbeats 1000000 in
theorem slots_Free (s a b : Nat) (most last : Int) (n : Nat) (fof fat : Int → Option Int) (k j : Int) (w : World) (h : SlAt w s a b most last n fof fat) (hk : (Lit.int .i64 k).wf = true) (hj : (Lit.int .i64 j).wf = true) (hf : fof k = some j) (hg : (fat j).isSome = true) :
    Calls Tryz.prog 124 #[.pointer (some ⟨s, 0, none⟩), .int .i64 k] w fun e w' => e = .returned (.bool true) ∧ SlAt w' s a b most last (n - 1) (upd fof k none) (upd fat j none) ∧ Only (fun i => i = a ∨ i = b) w w' := by
  have H := Aside0.mk h
  have HF := Aside0.mk hf
  have HG := Aside0.mk hg
  clear h hf hg
  have y2 : w.cell? ⟨s, 2, none⟩ = some (.map (some a)) := (blk_cell H.out.box 2).trans rfl
  obtain ⟨w1, hr1, hm1, hg1⟩ := H.out.of_.del lawK Tryz.underlying218 Tryz.underlying3 hk 0
  have hg1s : some s ≠ some a := fun e => H.out.sne.1 (Option.some.inj e)
  have hba : some b ≠ some a := fun e => H.out.ne (Option.some.inj e).symm
  have hbx1 : w1.heap[s]? = some (SlotB most last a b) := blk_grown H.out.box hg1 hg1s
  have hat1 : MapAt Tryz.prog 3 encI w1 b n fat := H.out.at_.keep (hg1.block b H.out.at_.lt hba)
  have y3 : w1.cell? ⟨s, 3, none⟩ = some (.map (some b)) := (blk_cell hbx1 3).trans rfl
  obtain ⟨w2, hr2, hm2, hg2⟩ := hat1.del lawK Tryz.underlying218 Tryz.underlying3 hj 0
  have hs2 : some s ≠ some b := fun e => H.out.sne.2 (Option.some.inj e)
  have hab : some a ≠ some b := fun e => H.out.ne (Option.some.inj e)
  have hbx2 : w2.heap[s]? = some (SlotB most last a b) := blk_grown hbx1 hg2 hs2
  have hof2 : MapAt Tryz.prog 3 encI w2 a (if (fof k).isSome then n - 1 else n) (upd fof k none) := hm1.keep (hg2.block a hm1.lt hab)
  rw [HG.out] at hm2
  rw [HF.out] at hof2
  have HW : Aside0 (SlAt w2 s a b most last (n - 1) (upd fof k none) (upd fat j none) ∧ Only (fun i => i = a ∨ i = b) w w2) :=
    ⟨⟨hbx2, hof2, hm2, H.out.ne⟩, (Only.grown hg1 fun i hi _ => .inl (Option.some.inj hi).symm).next (Only.grown hg2 fun i hi _ => .inr (Option.some.inj hi).symm)⟩
  clear hm1 hg1 hat1 hm2 hg2 hbx2 hof2 hbx1
  go_enter Tryz.func124, Tryz.ntmps124
  go_wp2_with (go_at_call 175; refine (slots_Of s a b most last n fof fat k _ H.out hk).mono ?_; rintro e w3 ⟨rfl, hw⟩; obtain rfl := hw.symm; rw [HF.out])
  go_ret
  exact ⟨rfl, HW.out⟩
theorem submit_no (s a b : Nat) (most last : Int) (n : Nat) (fof fat : Int → Option Int) (q : S40) (w : World) (h : SlAt w s a b most last n fof fat) (hs : q.f0.size ≤ 9223372036854775807) (hm : mayQ q = false) :
    Calls Tryz.prog 63 #[.pointer (some ⟨s, 0, none⟩), qval q] w fun e w' => e = .returned (.tuple #[.int .i64 1, .int .i64 0, .int .i64 0]) ∧ Below w.heap.size w w' := by
  go_enter Tryz.func63, Tryz.ntmps63
  go_wp2_with (go_at_call 24; refine (rank_May q _ hs).mono ?_; rintro e w1 ⟨rfl, hb⟩; rw [hm])
  go_ret3
  exact ⟨rfl, below_step (below_alloc (Below.refl _ _) _) hb⟩
theorem submit_busy (s a b : Nat) (most last : Int) (n : Nat) (fof fat : Int → Option Int) (q : S40) (w : World) (h : SlAt w s a b most last n fof fat) (hs : q.f0.size ≤ 9223372036854775807) (hm : mayQ q = true) (hf : ((n : Int) == most) = true) :
    Calls Tryz.prog 63 #[.pointer (some ⟨s, 0, none⟩), qval q] w fun e w' => e = .returned (.tuple #[.int .i64 2, .int .i64 0, .int .i64 0]) ∧ Below w.heap.size w w' := by
  have H := Aside0.mk h
  clear h
  go_enter Tryz.func63, Tryz.ntmps63
  go_wp2_with (go_at_call 24; refine (rank_May q _ hs).mono ?_; rintro e w1 ⟨rfl, hb⟩; rw [hm]; have HB := Aside0.mk (below_step (below_alloc (Below.refl _ _) _) hb); have y0 : w1.cell? ⟨s, 0, none⟩ = some (.int .i64 most) := (blk_cell (H.out.fresh HB.out).box 0).trans rfl; have y2 : w1.cell? ⟨s, 2, none⟩ = some (.map (some a)) := (blk_cell (H.out.fresh HB.out).box 2).trans rfl; clear hb)
  have hlen : ∀ k, (Builtin.len_ #[218] 3 #[.map (some a)]).run Tryz.prog (w1.drewN k) = .ok (.int .i64 n) (w1.drewN k) := fun k => ((H.out.fresh HB.out).of_.keep (w' := w1.drewN k) rfl).len Tryz.underlying218 _
  have hlen1 : (Builtin.len_ #[218] 3 #[.map (some a)]).run Tryz.prog w1.drew = .ok (.int .i64 n) w1.drew := ((H.out.fresh HB.out).of_.keep (w' := w1.drew) rfl).len Tryz.underlying218 _
  go_region
  all_goals
    go_wp2
    go_ret3
    exact ⟨rfl, below_drew1 HB.out⟩
set_option maxRecDepth 100000 in
set_option maxHeartbeats 2000000 in
theorem submit_yes (s a b : Nat) (most last : Int) (n : Nat) (fof fat : Int → Option Int) (q : S40) (j : Nat) (w : World) (h : SlAt w s a b most last n fof fat) (hs : q.f0.size ≤ 9223372036854775807) (hm : mayQ q = true) (hf : ((n : Int) == most) = false) (hn : n < 1000)
    (hl : 0 ≤ last ∧ last ≤ 1000000) (hj : j < 100) (hbusy : ∀ i : Nat, i < j → ∃ v, fat i = some v ∧ 0 < v) (hfree : fat j = none) (hnew : fof (last + 1) = none) :
    Calls Tryz.prog 63 #[.pointer (some ⟨s, 0, none⟩), qval q] w fun e w' => e = .returned (.tuple #[.int .i64 3, .int .i64 (last + 1), .int .i64 j]) ∧ SlAt w' s a b most (last + 1) (n + 1) (upd fof (last + 1) (some j)) (upd fat j (some (last + 1))) ∧ Only (fun i => i = s ∨ i = a ∨ i = b) w w' := by
  have H := Aside0.mk h
  have HBZ := Aside0.mk hbusy
  have HFR := Aside0.mk hfree
  have HNW := Aside0.mk hnew
  clear h hbusy hfree hnew
  go_enter Tryz.func63, Tryz.ntmps63
  go_wp2_with (go_at_call 24; refine (rank_May q _ hs).mono ?_; rintro e w1 ⟨rfl, hb⟩; rw [hm]; have HB := Aside0.mk (below_step (below_alloc (Below.refl _ _) _) hb); have y0 : w1.cell? ⟨s, 0, none⟩ = some (.int .i64 most) := (blk_cell (H.out.fresh HB.out).box 0).trans rfl; have y2 : w1.cell? ⟨s, 2, none⟩ = some (.map (some a)) := (blk_cell (H.out.fresh HB.out).box 2).trans rfl; clear hb)
  have hlen1 : (Builtin.len_ #[218] 3 #[.map (some a)]).run Tryz.prog w1.drew = .ok (.int .i64 n) w1.drew := ((H.out.fresh HB.out).of_.keep (w' := w1.drew) rfl).len Tryz.underlying218 _
  go_region
  have HW : Aside0 (Below w.heap.size w w1.drew) := ⟨below_drew1 HB.out⟩
  clear y0 y2 hlen1 HB
  go_upto_region 7 with fail
  refine Rd.gen_wp (R := fun W => Below w.heap.size w W) HW.out ?_
  clear HW
  rintro W hw
  have H1 := Aside0.mk (H.out.fresh hw)
  have HW := Aside0.mk hw
  clear hw w1
  have c3 : W.cell? ⟨s, 3, none⟩ = some (.map (some b)) := (blk_cell H1.out.box 3).trans rfl
  go_wp2
  go_loop [7] (fun v => ∃ k : Nat, v = .int .i64 k ∧ k ≤ j) (fun v => j - (intOf v).toNat)
  case atStart => exact ⟨0, rfl, by omega⟩
  case round =>
    obtain ⟨k, rfl, hk⟩ := hrel
    have hwf : (Lit.int .i64 (k : Int)).wf = true := wf_i64 (by omega) (by omega)
    rcases Nat.lt_or_ge k j with hlt | hge
    · obtain ⟨v, hv, hpos⟩ := HBZ.out k hlt
      have hlk : (Instr.lookup 218 (.map (some b)) (.int .i64 k) false).run Tryz.prog W = .ok (.int .i64 v) W := by
        have := look_I1 H1.out.at_ hwf
        rwa [hv] at this
      have hd : decide (0 < v) = true := by simp; exact hpos
      go_wp2
      go_round
      case rel => exact ⟨k + 1, by go_num, by omega⟩
      case measure => simp [intOf]; omega
    · obtain rfl : k = j := by omega
      have hlk : (Instr.lookup 218 (.map (some b)) (.int .i64 k) false).run Tryz.prog W = .ok (.int .i64 0) W := by
        have := look_I1 H1.out.at_ hwf
        rwa [HFR.out] at this
      have c1 : W.cell? ⟨s, 1, none⟩ = some (.int .i64 last) := (blk_cell H1.out.box 1).trans rfl
      have f1 := blk_frozen H1.out.box 1
      go_upto_region 11 with fail
      have hbx : (W.setCell ⟨s, 1, none⟩ (.int .i64 (last + 1))).heap[s]? = some (SlotB most (last + 1) a b) := blk_put H1.out.box 1 _ rfl
      have hof : MapAt Tryz.prog 3 encI (W.setCell ⟨s, 1, none⟩ (.int .i64 (last + 1))) a n fof := H1.out.of_.keep (Below.heap_setCell _ _ _ _ (Ne.symm H1.out.sne.1))
      have hat : MapAt Tryz.prog 3 encI (W.setCell ⟨s, 1, none⟩ (.int .i64 (last + 1))) b n fat := H1.out.at_.keep (Below.heap_setCell _ _ _ _ (Ne.symm H1.out.sne.2))
      have ho : Below w.heap.size w W ∧ Only (fun i => i = s ∨ i = a ∨ i = b) w (W.setCell ⟨s, 1, none⟩ (.int .i64 (last + 1))) := ⟨HW.out, (Only.fresh HW.out _).set (p := ⟨s, 1, none⟩) (fun _ => .inl rfl) _⟩
      refine Rd.gen_wp (R := fun V => V.heap[s]? = some (SlotB most (last + 1) a b) ∧ MapAt Tryz.prog 3 encI V a n fof ∧ MapAt Tryz.prog 3 encI V b n fat ∧ Only (fun i => i = s ∨ i = a ∨ i = b) w V) ⟨hbx, hof, hat, ho.2⟩ ?_
      clear hbx hof hat ho c1 f1 c3
      rintro V ⟨hbx, hof, hat, ho⟩
      have hne := H.out.ne
      have hsn := H.out.sne
      obtain ⟨v1, st1, V1, hE1, hg1, hS1⟩ := (hof.keep (w' := V.drew) rfl).entry lawK Tryz.underlying218 (fun u => Tryz.zeroValue3 u) Tryz.underlying3 (by omega) (wf_i64 (n := last + 1) (by omega) (by omega)) (k : Int)
      obtain ⟨V2, hR1, hg2, hM1⟩ := hS1 V1 rfl
      have hb2 : V2.heap[b]? = V.heap[b]? := (hg2.block b (Nat.lt_of_lt_of_le hat.lt hg1.size) (fun e => hne (Option.some.inj e).symm)).trans (hg1.block b hat.lt (fun e => hne (Option.some.inj e).symm))
      obtain ⟨v2, st2, V3, hE2, hg3, hS2⟩ := (hat.keep hb2).entry lawK Tryz.underlying218 (fun u => Tryz.zeroValue3 u) Tryz.underlying3 (by omega) hwf (last + 1)
      obtain ⟨V4, hR2, hg4, hM2⟩ := hS2 V3 rfl
      have hs4 : V4.heap[s]? = some (SlotB most (last + 1) a b) := blk_grown (blk_grown (blk_grown (blk_grown (blk_drew hbx) hg1 (fun e => hsn.1 (Option.some.inj e))) hg2 (fun e => hsn.1 (Option.some.inj e))) hg3 (fun e => hsn.2 (Option.some.inj e))) hg4 (fun e => hsn.2 (Option.some.inj e))
      have ha4 : MapAt Tryz.prog 3 encI V4 a (n + 1) (upd fof (last + 1) (some (k : Int))) := by
        rw [HNW.out] at hM1
        exact (hM1.keep (hg3.block a hM1.lt (fun e => hne (Option.some.inj e)))).keep (hg4.block a (Nat.lt_of_lt_of_le hM1.lt hg3.size) (fun e => hne (Option.some.inj e)))
      have hb4 : MapAt Tryz.prog 3 encI V4 b (n + 1) (upd fat k (some (last + 1))) := by
        rw [HFR.out] at hM2
        exact hM2
      have HF : Aside0 (SlAt V4 s a b most (last + 1) (n + 1) (upd fof (last + 1) (some (k : Int))) (upd fat k (some (last + 1))) ∧ Only (fun i => i = s ∨ i = a ∨ i = b) w V4) :=
        ⟨⟨hs4, ha4, hb4, hne⟩, (((ho.drew.next (Only.grown hg1 fun i hi _ => .inr (.inl (Option.some.inj hi).symm))).next (Only.grown hg2 fun i hi _ => .inr (.inl (Option.some.inj hi).symm))).next (Only.grown hg3 fun i hi _ => .inr (.inr (Option.some.inj hi).symm))).next (Only.grown hg4 fun i hi _ => .inr (.inr (Option.some.inj hi).symm))⟩
      have c1 : V.cell? ⟨s, 1, none⟩ = some (.int .i64 (last + 1)) := (blk_cell hbx 1).trans rfl
      have c2 : V.cell? ⟨s, 2, none⟩ = some (.map (some a)) := (blk_cell hbx 2).trans rfl
      have c3 : V.cell? ⟨s, 3, none⟩ = some (.map (some b)) := (blk_cell hbx 3).trans rfl
      have z1 : V4.cell? ⟨s, 1, none⟩ = some (.int .i64 (last + 1)) := (blk_cell hs4 1).trans rfl
      have hR1' : (Instr.entryStore 218 (.map (some a)) (.int .i64 (st1 : Int)) (.int .i64 k)).run Tryz.prog V1 = .ok () V2 := hR1
      have hR2' : (Instr.entryStore 218 (.map (some b)) (.int .i64 (st2 : Int)) (.int .i64 (last + 1))).run Tryz.prog V3 = .ok () V4 := hR2
      clear hS1 hS2 hM1 hM2 hb2 hs4 ha4 hb4 hg1 hg2 hg3 hg4 hbx hof hat ho hR1 hR2 hsn hne
      go_region
      all_goals
        go_wp2
        go_region
        all_goals
          go_wp2
          go_ret3
          exact ⟨rfl, ⟨blk_drew HF.out.1.box, HF.out.1.of_.keep rfl, HF.out.1.at_.keep rfl, HF.out.1.ne⟩, HF.out.2.drew⟩
end Go.Proofs.YthbngidbfhcdaaaGreat.C
/- What is ahead of what: rank.compare, rank.Less; a shard of a merge: wanted, might. -/
namespace Go.Proofs.YthbngidbfhcdaaaGreat.C
open Go.RowKit Go.Proofs.YthbngidbfhcdaaaGreat.Mem Go.Proofs.YthbngidbfhcdaaaGreatW.PrintWords Go.Proofs.YthbngidbfhcdaaaGreat.PCoordScript
set_option linter.unusedVariables false
set_option linter.unusedSimpArgs false
def rcmp (a b : S46) : Int := or2 (icmp a.f0 b.f0) (scmp a.f1 b.f1)
/-- Is an item ahead of another one? -/
def ilt (a b : S46) : Bool := decide (rcmp a b < 0)
abbrev itV (a : S46) : Value := .agg #[.int .i64 a.f0, .string a.f1]
set_option maxRecDepth 100000 in
theorem rank_compare (a b : S46) (w : World) :
    Calls Tryz.prog 142 #[itV a, itV b] w fun e w' => e = .returned (.int .i64 (rcmp a b)) ∧ Below w.heap.size w w' := by
  go_enter Tryz.func142, Tryz.ntmps142
  go_wp2
  (refine Mem.still_tail 10 (by kernel_rfl) (by kernel_rfl) (R := (fun W => Below w.heap.size w W ∧ W.heap[w.heap.size]? = some (.cells #[.int .i64 a.f0, .string a.f1] 46 (0, 0)) ∧ W.heap[w.heap.size + 1]? = some (.cells #[.int .i64 b.f0, .string b.f1] 46 (0, 0)))) ⟨by repeat (first | exact Below.refl _ _ | apply below_alloc | apply pw_below_drewN | apply below_drew1), blk_alloc (blk_new _ _) _, Rd.blk_at (by simp)⟩ ?_)
  rintro W ⟨hB, hb0, hb1⟩
  have c0 : W.cell? ⟨w.heap.size, 0, none⟩ = some (.int .i64 a.f0) := (blk_cell hb0 0).trans rfl
  have c1 : W.cell? ⟨w.heap.size, 1, none⟩ = some (.string a.f1) := (blk_cell hb0 1).trans rfl
  have d0 : W.cell? ⟨w.heap.size + 1, 0, none⟩ = some (.int .i64 b.f0) := (blk_cell hb1 0).trans rfl
  have d1 : W.cell? ⟨w.heap.size + 1, 1, none⟩ = some (.string b.f1) := (blk_cell hb1 1).trans rfl
  (simp only [List.take_succ_cons, List.take_zero, List.drop_succ_cons, List.drop_zero]; repeat still_step)
  still_call (cmp_Compare _ _ _)
  repeat still_step
  still_call (text_Compare _ _ _)
  repeat still_step
  refine wpStill_nil ?_
  go_wp2_with (go_at_call 188; refine (cmp_Or2 _ _ _ _ (blk_new _ _)).mono ?_; rintro e w1 ⟨rfl, hb⟩)
  go_ret
  exact ⟨rfl, below_step (below_alloc hB _) hb⟩
theorem rank_Less (a b : S46) (w : World) :
    Calls Tryz.prog 88 #[itV a, itV b] w fun e w' => e = .returned (.bool (ilt a b)) ∧ Below w.heap.size w w' := by
  go_enter Tryz.func88, Tryz.ntmps88
  go_wp2_with (go_at_call 142; refine (rank_compare a b _).mono ?_; rintro e w1 ⟨rfl, hb⟩)
  go_ret
  exact ⟨rfl, below_step (below_alloc (below_alloc (Below.refl _ _) _) _) hb⟩
/-- Is a shard's next batch wanted? -/
def wantedB (x : S172) : Bool := !x.f2 && ((x.f5.length : Int) == 0)
theorem shard_wanted (b o : Nat) (x : S172) (A : Option Addr) (c : Nat) (w : World) (h2 : w.cell? ⟨b, o + 2, none⟩ = some (.bool x.f2)) (h6 : w.cell? ⟨b, o + 6, none⟩ = some (.slice A x.f5.length c)) :
    Calls Tryz.prog 115 #[.pointer (some ⟨b, o, none⟩)] w fun e w' => e = .returned (.bool (wantedB x)) ∧ w' = w := by
  rcases Mem.bool_or x.f2 with h | h
  all_goals
    rw [h] at h2
    go_enter Tryz.func115, Tryz.ntmps115
    go_wp2
    go_ret
    exact ⟨by simp [wantedB, h], rfl⟩
/-- Might a shard have one ahead of an item? -/
def mightB (x : S172) (y : S46) : Bool := wantedB x && (if x.f3 = true then ilt x.f4 y else decide (x.f0 ≤ y.f0))
abbrev shV (x : S172) (A : Option Addr) (c : Nat) : Array Value := #[.int .i64 x.f0, .int .i64 x.f1, .bool x.f2, .bool x.f3, .int .i64 x.f4.f0, .string x.f4.f1, .slice A x.f5.length c]
set_option maxRecDepth 100000 in
theorem shard_might (b : Nat) (x : S172) (y : S46) (A : Option Addr) (c : Nat) (w : World) (hb : w.heap[b]? = some (.cells (shV x A c) 235 (0, 0))) :
    Calls Tryz.prog 169 #[.pointer (some ⟨b, 0, none⟩), itV y] w fun e w' => e = .returned (.bool (mightB x y)) ∧ Below w.heap.size w w' := by
  have hlt := blk_lt hb
  have c0 : w.cell? ⟨b, 0, none⟩ = some (.int .i64 x.f0) := (blk_cell hb 0).trans rfl
  have c2 : w.cell? ⟨b, 2, none⟩ = some (.bool x.f2) := (blk_cell hb 2).trans rfl
  have c3 : w.cell? ⟨b, 3, none⟩ = some (.bool x.f3) := (blk_cell hb 3).trans rfl
  have c4 : w.cell? ⟨b, 4, none⟩ = some (.int .i64 x.f4.f0) := (blk_cell hb 4).trans rfl
  have c5 : w.cell? ⟨b, 5, none⟩ = some (.string x.f4.f1) := (blk_cell hb 5).trans rfl
  have c6 : w.cell? ⟨b, 6, none⟩ = some (.slice A x.f5.length c) := (blk_cell hb 6).trans rfl
  have HB := Aside0.mk (blk_alloc hb (.cells #[.int .i64 y.f0, .string y.f1] 46))
  clear hb
  rcases Mem.bool_or (wantedB x) with hw | hw
  · rcases Mem.bool_or x.f3 with h3 | h3
    · rw [h3] at c3
      go_enter Tryz.func169, Tryz.ntmps169
      go_wp2_with (go_at_call 115; refine (shard_wanted b 0 x A c _ ((blk_cell HB.out 2).trans rfl) ((blk_cell HB.out 6).trans rfl)).mono ?_; rintro e w1 ⟨rfl, rfl⟩)
      (refine Mem.still_tail 5 (by kernel_rfl) (by kernel_rfl) (R := (fun W => Below w.heap.size w W ∧ W.heap[b]? = some (.cells (shV x A c) 235 (0, 0)) ∧ W.heap[w.heap.size]? = some (.cells #[.int .i64 y.f0, .string y.f1] 46 (0, 0)))) ⟨below_drew1 (below_alloc (Below.refl _ _) _), blk_drew HB.out, blk_new _ _⟩ ?_)
      rintro W ⟨hB, hb0, hb1⟩
      have d4 : W.cell? ⟨b, 4, none⟩ = some (.int .i64 x.f4.f0) := (blk_cell hb0 4).trans rfl
      have d5 : W.cell? ⟨b, 5, none⟩ = some (.string x.f4.f1) := (blk_cell hb0 5).trans rfl
      have e0 : W.cell? ⟨w.heap.size, 0, none⟩ = some (.int .i64 y.f0) := (blk_cell hb1 0).trans rfl
      have e1 : W.cell? ⟨w.heap.size, 1, none⟩ = some (.string y.f1) := (blk_cell hb1 1).trans rfl
      (simp only [List.take_succ_cons, List.take_zero, List.drop_succ_cons, List.drop_zero]; repeat still_step)
      refine wpStill_nil ?_
      go_wp2_with (go_at_call 88; refine (rank_Less x.f4 y _).mono ?_; rintro e w1 ⟨rfl, hb⟩)
      go_ret
      exact ⟨by simp [mightB, hw, h3], below_step hB hb⟩
    · rw [h3] at c3
      go_enter Tryz.func169, Tryz.ntmps169
      go_wp2_with (go_at_call 115; refine (shard_wanted b 0 x A c _ ((blk_cell HB.out 2).trans rfl) ((blk_cell HB.out 6).trans rfl)).mono ?_; rintro e w1 ⟨rfl, rfl⟩)
      go_quiet (fail)
      go_wp2
      go_ret
      exact ⟨by simp [mightB, hw, h3], pw_below_drewN (below_alloc (Below.refl _ _) _) _⟩
  · go_enter Tryz.func169, Tryz.ntmps169
    go_wp2_with (go_at_call 115; refine (shard_wanted b 0 x A c _ ((blk_cell HB.out 2).trans rfl) ((blk_cell HB.out 6).trans rfl)).mono ?_; rintro e w1 ⟨rfl, rfl⟩)
    go_ret
    exact ⟨by simp [mightB, hw], below_alloc (Below.refl _ _) _⟩
end Go.Proofs.YthbngidbfhcdaaaGreat.C
/- Is a merge done? -/
namespace Go.Proofs.YthbngidbfhcdaaaGreat.C
open Go.RowKit Go.Maps Go.Proofs.YthbngidbfhcdaaaGreat.Mem Go.Proofs.YthbngidbfhcdaaaGreatW.PrintWords Go.Proofs.YthbngidbfhcdaaaGreat.PCoordScript
set_option linter.unusedVariables false
set_option linter.unusedSimpArgs false
def openB (x : S172) : Bool := !x.f2 || decide (0 < x.f5.length)
theorem mdone_pred (x : S172) (A : Option Addr) (c : Nat) (w : World) :
    Calls Tryz.prog 170 #[.agg #[.int .i64 x.f0, .int .i64 x.f1, .bool x.f2, .bool x.f3, .int .i64 x.f4.f0, .string x.f4.f1, .slice A x.f5.length c]] w fun e w' => e = .returned (.bool (openB x)) ∧ Below w.heap.size w w' := by
  rcases Mem.bool_or x.f2 with h | h
  all_goals
    rcases Mem.dec_or ((0 : Int) < (x.f5.length : Int)) with d | d
    all_goals
      have h' : (!x.f2) = !(x.f2) := rfl
      rw [h] at h' ⊢
      simp only [Bool.not_true, Bool.not_false] at h'
      go_enter Tryz.func170, Tryz.ntmps170
      go_wp2
      go_ret
      exact ⟨by simp at d; simp [openB, h, d], below_alloc (Below.refl _ _) _⟩
/-- The first shard from k on that may still tell; -1: none. -/
def openFrom (l : List S172) : Nat → Int → Int
  | 0, _ => -1
  | b + 1, k => if k < l.length then (if openB (rd_T172 l k) = true then k else openFrom l b (k + 1)) else -1
def openT (l : List S172) : Int := openFrom l l.length 0
set_option maxRecDepth 100000 in
theorem shard_index (A : Option Addr) (c : Nat) (l : List S172) (w : World) (hc : Kd.C k172 w A l.length l) (hn : l.length ≤ c) (hl : l.length ≤ 6) :
    Calls Tryz.prog 200 #[.slice A l.length c, .func (.func 170) #[] #[]] w fun e w' => e = .returned (.int .i64 (openT l)) ∧ Below w.heap.size w w' := by
  have HC := Aside0.mk hc
  clear hc
  go_enter Tryz.func200, Tryz.ntmps200
  go_wp2
  go_loopw [8] (fun v wr => ∃ (k : Int) (b : Nat), v = .int .i64 k ∧ 0 ≤ k ∧ k ≤ l.length ∧ l.length ≤ k + b ∧ openFrom l b k = openT l ∧ Aside0 (Below w.heap.size w wr)) (fun v _ => l.length - (intOf v).toNat)
  case atStart => exact ⟨0, l.length, rfl, by omega, by omega, by omega, rfl, ⟨Below.refl _ _⟩⟩
  case round =>
    obtain ⟨k, b, rfl, hk0, hk, hkb, hf, HB⟩ := hrel
    have HF := Aside0.mk hf
    clear hf
    rcases Mem.dec_or (k < (l.length : Int)) with hlt | hlt
    · have hlt' : k < (l.length : Int) := of_decide_eq_true hlt
      obtain ⟨b, rfl⟩ : ∃ q, b = q + 1 := ⟨b - 1, by omega⟩
      obtain ⟨ad, A6, c6, rfl, x0, x1, x2, x3, x4, x5, x6, _, _⟩ := at_T172 (Kd.C_below HC.out HB.out) k hk0 hlt'
      rcases Mem.bool_or (openB (rd_T172 l k)) with hq | hq
      all_goals
        go_wp2_with (go_at_call 170; refine (mdone_pred (rd_T172 l k) A6 c6 _).mono ?_; rintro e w1 ⟨rfl, hb⟩; have HB1 := Aside0.mk (below_step HB.out hb); clear hb)
      · go_ret
        refine ⟨?_, HB1.out⟩
        rw [← HF.out]
        simp [openFrom, hlt', hq]
      · go_roundw
        case rel =>
          refine ⟨k + 1, b, rfl, by omega, by omega, by omega, ?_, HB1⟩
          rw [← HF.out]
          simp [openFrom, hlt', hq]
        case measure =>
          simp [intOf]
          omega
    · go_wp2
      go_ret
      refine ⟨?_, HB.out⟩
      rw [← HF.out]
      simp at hlt
      cases b with
      | zero => rfl
      | succ b => simp [openFrom]; omega
theorem shard_contains (A : Option Addr) (c : Nat) (l : List S172) (w : World) (hc : Kd.C k172 w A l.length l) (hn : l.length ≤ c) (hl : l.length ≤ 6) :
    Calls Tryz.prog 167 #[.slice A l.length c, .func (.func 170) #[] #[]] w fun e w' => e = .returned (.bool (decide (0 ≤ openT l))) ∧ Below w.heap.size w w' := by
  go_enter Tryz.func167, Tryz.ntmps167
  go_wp2_with (go_at_call 200; refine (shard_index A c l _ hc hn hl).mono ?_; rintro e w1 ⟨rfl, hb⟩)
  go_ret
  exact ⟨rfl, hb⟩
/-- Is it done: as many told as asked, or no shard that may still tell. -/
def doneB (n : Int) (told : Nat) (l : List S172) : Bool := (told : Int) == n || !decide (0 ≤ openT l)
theorem merge_Done (g : Nat) (n : Int) (A : Option Addr) (c : Nat) (l : List S172) (TA : Option Addr) (tn tc : Nat) (w : World) (hb : w.heap[g]? = some (MergeB n (.slice A l.length c) (.slice TA tn tc))) (hc : Kd.C k172 w A l.length l) (hn : l.length ≤ c) (hl : l.length ≤ 6) :
    Calls Tryz.prog 114 #[.pointer (some ⟨g, 0, none⟩)] w fun e w' => e = .returned (.bool (doneB n tn l)) ∧ Below w.heap.size w w' := by
  have HB := Aside0.mk hb
  have c1 : w.cell? ⟨g, 1, none⟩ = some (.slice A l.length c) := (blk_cell hb 1).trans rfl
  clear hb
  rcases Mem.bool_or ((tn : Int) == n) with h | h
  all_goals
    go_enter Tryz.func114, Tryz.ntmps114
    go_upto_region 4 with (go_at_call 167; refine (shard_contains A c l _ hc hn hl).mono ?_; rintro e w1 ⟨rfl, hb⟩; have y0 : w1.cell? ⟨g, 0, none⟩ = some (.int .i64 n) := (blk_cell (blk_below HB.out hb) 0).trans rfl; have y2 : w1.cell? ⟨g, 2, none⟩ = some (.slice TA tn tc) := (blk_cell (blk_below HB.out hb) 2).trans rfl)
    go_quiet (fail)
    go_wp2
    go_ret
    exact ⟨by simp [doneB, h], pw_below_drewN hb _⟩
end Go.Proofs.YthbngidbfhcdaaaGreat.C
/- A merge: how it stands in memory; what it tells, in plain words. -/
namespace Go.Proofs.YthbngidbfhcdaaaGreat.C
open Go.RowKit Go.Maps Go.Proofs.YthbngidbfhcdaaaGreat.Mem Go.Proofs.YthbngidbfhcdaaaGreatW.PrintWords Go.Proofs.YthbngidbfhcdaaaGreat.PCoordScript
set_option linter.unusedVariables false
set_option linter.unusedSimpArgs false
/-- A merge: how many are asked for, its shards, what was told. -/
structure Mg where
  n : Int
  sh : List S172
  told : List S46
def z46 : S46 := ⟨0, ⟨#[]⟩⟩
def head (x : S172) : S46 := x.f5.headD z46
def waitsB (x : S172) : Bool := decide (0 < x.f5.length)
/-- The shard whose first item is ahead of all others, among the first k. -/
def aheadN (l : List S172) : Nat → Option Nat
  | 0 => none
  | k + 1 => if waitsB (rd_T172 l k) && (match aheadN l k with | none => true | some b => ilt (head (rd_T172 l k)) (head (rd_T172 l b))) then some k else aheadN l k
def Mg.done (M : Mg) : Bool := doneB M.n M.told.length M.sh
def Mg.ahead (M : Mg) : Option Nat := aheadN M.sh M.sh.length
/-- The merge, the item of shard i told. -/
def Mg.tells (M : Mg) (i : Nat) : Mg := { M with told := M.told ++ [head (rd_T172 M.sh i)], sh := M.sh.set i { rd_T172 M.sh i with f5 := (rd_T172 M.sh i).f5.drop 1 } }
def Mg.next (M : Mg) : Option Nat := if M.done then none else match M.ahead with
  | none => none
  | some i => if M.sh.any (fun o => mightB o (head (rd_T172 M.sh i))) then none else some i
def Mg.tellN : Nat → Mg → List S46 × Mg
  | 0, M => ([], M)
  | k + 1, M => match M.next with
    | none => ([], M)
    | some i => (head (rd_T172 M.sh i) :: (tellN k (M.tells i)).1, (tellN k (M.tells i)).2)
def Mg.left (M : Mg) : Nat := (M.sh.map fun x => x.f5.length).sum
def Mg.tell (M : Mg) : List S46 × Mg := Mg.tellN M.left M
/-- The items of a slice that is read, in a block that w says is still. -/
def Wt (okW : Nat → Prop) (W : World) (A : Option Addr) (c : Nat) (xs : List S46) : Prop := Kd.C k46 W A xs.length xs ∧ xs.length ≤ c ∧ ∀ ad, A = some ad → okW ad.block
def ShR (okW : Nat → Prop) (W : World) (x : S172) (cs : List Value) : Prop := ∃ A c, cs = (shV x A c).toList ∧ Wt okW W A c x.f5
abbrev shSl (gs n cap : Nat) : Value := .slice (some ⟨gs, 0, none⟩) n cap
structure MgAt (W : World) (base : Nat) (okM okW : Nat → Prop) (g gs cap : Nat) (tv : Value) (M : Mg) : Prop where
  box : W.heap[g]? = some (MergeB M.n (shSl gs M.sh.length cap) tv)
  rows : OwnRow (ShR okW W) 235 7 W base (shSl gs M.sh.length cap) M.sh
  told : Kd.R k46 46 W base okM tv M.told
  gok : okM g
  vok : okM gs
theorem addr_block (a : Addr) (n : Nat) : (a.add n).block = a.block := by unfold Addr.add; split <;> rfl
theorem k46_K {w : World} {x : S46} {cs : List Value} (h : cs = [.int .i64 x.f0, .string x.f1]) : k46.K w x cs := ⟨[.int .i64 x.f0], [.string x.f1], h, rfl, rfl⟩
theorem k46_inv {w : World} {x : S46} {cs : List Value} (h : k46.K w x cs) : cs = [.int .i64 x.f0, .string x.f1] := by
  obtain ⟨c1, c2, rfl, rfl, rfl⟩ := h
  rfl
theorem C46_blk {W W1 : World} {A : Option Addr} {n : Nat} {xs : List S46} (h : Kd.C k46 W A n xs) (hb : ∀ ad, A = some ad → ad.block < W.heap.size → W1.heap[ad.block]? = W.heap[ad.block]?) : Kd.C k46 W1 A n xs := by
  obtain ⟨h1, h2, h3⟩ := h
  refine ⟨h1, h2, fun hn => ?_⟩
  obtain ⟨ad, e, hc⟩ := h3 hn
  refine ⟨ad, e, fun j p hj => ?_⟩
  obtain ⟨c, hl, hK, hcell⟩ := hc j p hj
  refine ⟨c, hl, k46_K (k46_inv hK), fun i u hu => ?_⟩
  have h4 := hcell i u hu
  have hlt := World.block_lt_of_cell? W _ h4
  rw [addr_block] at hlt
  rw [← h4]
  exact World.cell?_of_block (by rw [addr_block]; exact hb ad e hlt)
theorem Wt.move {okW : Nat → Prop} {W W1 : World} {A : Option Addr} {c : Nat} {xs : List S46} (h : Wt okW W A c xs) (hb : ∀ k, k < W.heap.size → okW k → W1.heap[k]? = W.heap[k]?) : Wt okW W1 A c xs :=
  ⟨C46_blk h.1 fun ad e hl => hb _ hl (h.2.2 ad e), h.2.1, h.2.2⟩
section
variable {W W1 : World} {base : Nat} {okM okW : Nat → Prop} {g gs cap : Nat} {tv : Value} {M : Mg}
theorem MgAt.blk (h : MgAt W base okM okW g gs cap tv M) : ∃ cur, W.heap[gs]? = some (.cells cur 235 (0, 0)) := by
  obtain ⟨inner, ho, _⟩ := h.rows
  exact own_at ho rfl
theorem MgAt.move (h : MgAt W base okM okW g gs cap tv M) (hb : ∀ k, k < W.heap.size → okM k ∨ okW k → W1.heap[k]? = W.heap[k]?) : MgAt W1 base okM okW g gs cap tv M := by
  obtain ⟨inner, ho, hr⟩ := h.rows
  have hgs := own_lt ho gs rfl
  refine ⟨(hb g (blk_lt h.box) (.inl h.gok)).trans h.box, ⟨inner, own_move ho fun k hk => ?_, hr.imp_ fun x cs ⟨A, c, e, hw⟩ => ⟨A, c, e, hw.move fun k hk ho => hb k hk (.inr ho)⟩⟩, Kd.R_step h.told fun k hk hl => hb k hl (.inl hk), h.gok, h.vok⟩
  cases hk
  exact hb gs hgs (.inl h.vok)
theorem MgAt.fresh (h : MgAt W base okM okW g gs cap tv M) (hb : Below W.heap.size W W1) : MgAt W1 base okM okW g gs cap tv M := h.move fun k hk _ => hb.block k hk
theorem MgAt.len (h : MgAt W base okM okW g gs cap tv M) : M.sh.length ≤ cap := by
  obtain ⟨A, c, e, hl⟩ := OwnRow.slice_ h.rows
  cases e
  exact hl
/-- What is read of shard i. -/
theorem MgAt.get (h : MgAt W base okM okW g gs cap tv M) (i : Nat) (hi : i < M.sh.length) : ∃ A c, (∀ j u, (shV (rd_T172 M.sh i) A c).toList[j]? = some u → W.cell? ⟨gs, i * 7 + j, none⟩ = some u) ∧ Wt okW W A c (rd_T172 M.sh i).f5 := by
  obtain ⟨A0, c0, e, _, hC⟩ := OwnRow.reads h.rows
  cases e
  obtain ⟨ad, c, e, _, ⟨A, c', rfl, hw⟩, hcell⟩ := hC.get_ (rd_T172 M.sh i) (i : Int) (by omega) (by omega)
  cases e
  rw [Int.toNat_natCast] at hw hcell
  have e1 : M.sh.getD i (rd_T172 M.sh i) = rd_T172 M.sh i := by
    simp only [rd_T172, rdOf, Int.toNat_natCast, List.getD_eq_getElem?_getD, List.getElem?_eq_getElem hi, Option.getD_some]
  rw [e1] at hw hcell
  refine ⟨A, c', fun j u hu => ?_, hw⟩
  have := hcell j u hu
  rwa [add_plain] at this
/-- As rows that are read. -/
theorem MgAt.reads (h : MgAt W base okM okW g gs cap tv M) : Kd.C k172 W (some ⟨gs, 0, none⟩) M.sh.length M.sh := by
  obtain ⟨A0, c0, e, _, hC⟩ := OwnRow.reads h.rows
  cases e
  refine hC.imp_ (Below.refl _ _) fun x cs ⟨A, c, e, hw⟩ => ?_
  subst e
  exact ⟨[.int .i64 x.f0], _, rfl, rfl, [.int .i64 x.f1], _, rfl, rfl, [.bool x.f2], _, rfl, rfl, [.bool x.f3], _, rfl, rfl, [.int .i64 x.f4.f0, .string x.f4.f1], _, rfl, k46_K rfl, A, c, rfl, hw.2.1, hw.1⟩
/-- A cell of shard i is written. -/
theorem MgAt.put (h : MgAt W base okM okW g gs cap tv M) (i j : Nat) (hj : j < 7) (u : Value) (x : S172) (hp : ∀ A c, Wt okW W A c (rd_T172 M.sh i).f5 → ShR okW W x ((shV (rd_T172 M.sh i) A c).toList.set j u)) (hokW : ∀ k, okW k → ¬ okM k) :
    MgAt (W.setCell ⟨gs, i * 7 + j, none⟩ u) base okM okW g gs cap tv { M with sh := M.sh.set i x } := by
  obtain ⟨cur, hcur⟩ := h.blk
  have h1 := OwnRow.put (p := x) h.rows i j hj u (by
    rintro q c hq hcl ⟨A, c', rfl, hw⟩
    have e1 : rd_T172 M.sh i = q := by simp only [rd_T172, rdOf, Int.toNat_natCast, List.getD_eq_getElem?_getD, hq, Option.getD_some]
    rw [e1] at hp
    exact hp A c' hw)
  have hW : ∀ k, okW k → (W.setCell ⟨gs, i * 7 + j, none⟩ u).heap[k]? = W.heap[k]? := fun k hk => Below.heap_setCell _ _ _ _ (fun e => hokW k hk (by rw [e]; exact h.vok))
  refine ⟨?_, ?_, ?_, h.gok, h.vok⟩
  · show _ = some (MergeB M.n (shSl gs (M.sh.set i x).length cap) tv)
    rw [List.length_set]
    have hne := blk_ne h.box hcur (by decide)
    rw [Below.heap_setCell _ _ _ _ hne]
    exact h.box
  · show OwnRow _ _ _ _ _ (shSl gs (M.sh.set i x).length cap) (M.sh.set i x)
    rw [List.length_set]
    exact h1.imp_ fun y cs ⟨A, c, e, hw⟩ => ⟨A, c, e, hw.move fun k _ hk => hW k hk⟩
  · exact Kd.R_set h.told hcur (by decide) _ _
end
end Go.Proofs.YthbngidbfhcdaaaGreat.C
/- Might any shard have an item ahead: what Tell asks of all shards. -/
namespace Go.Proofs.YthbngidbfhcdaaaGreat.C
open Go.RowKit Go.Maps Go.Proofs.YthbngidbfhcdaaaGreat.Mem Go.Proofs.YthbngidbfhcdaaaGreatW.PrintWords Go.Proofs.YthbngidbfhcdaaaGreat.PCoordScript
set_option linter.unusedVariables false
set_option linter.unusedSimpArgs false
theorem any_snoc {α : Type} (l : List α) (P : α → Bool) (k : Nat) (hk : k < l.length) : (l.take (k + 1)).any P = ((l.take k).any P || P l[k]) := by
  rw [List.take_succ_eq_append_getElem hk, List.any_append]
  simp
theorem any_here {α : Type} (l : List α) (P : α → Bool) (k : Nat) (hk : k < l.length) (h : P l[k] = true) : l.any P = true := List.any_eq_true.2 ⟨_, List.getElem_mem hk, h⟩
theorem rd172_get {l : List S172} {k : Int} (h0 : 0 ≤ k) (h1 : k < l.length) : l[k.toNat]'(by omega) = rd_T172 l k := by
  have : k.toNat < l.length := by omega
  simp [rd_T172, List.getD_eq_getElem?_getD, List.getElem?_eq_getElem this]
set_option maxRecDepth 100000 in
theorem tell_pred (p gs o : Nat) (x : S172) (A A1 : Option Addr) (c n c1 : Nat) (ad : Addr) (y : S46) (w : World) (hp : w.cell? ⟨p, 0, none⟩ = some (.pointer (some ⟨gs, o, none⟩))) (h6 : w.cell? ⟨gs, o + 6, none⟩ = some (.slice (some ad) n c1)) (hn : 0 < n)
    (hy0 : w.cell? ad = some (.int .i64 y.f0)) (hy1 : w.cell? ⟨ad.block, ad.off + 1, none⟩ = some (.string y.f1)) :
    Calls Tryz.prog 168 #[.agg (shV x A c), .pointer (some ⟨p, 0, none⟩)] w fun e w' => e = .returned (.bool (mightB x y)) ∧ Below w.heap.size w w' := by
  have l0 := World.block_lt_of_cell? w _ hp
  have l1 := World.block_lt_of_cell? w _ h6
  have l2 := World.block_lt_of_cell? w _ hy0
  have l3 := World.block_lt_of_cell? w _ hy1
  have d0 : (0 : Int) < n := by omega
  go_enter Tryz.func168, Tryz.ntmps168
  go_wp2_with (go_at_call 169; refine (shard_might _ x y A c _ (blk_new _ _)).mono ?_; rintro e w1 ⟨rfl, hb⟩; have HB := Aside0.mk hb; clear hb)
  go_ret
  exact ⟨rfl, below_step (below_alloc (Below.refl _ _) _) HB.out⟩
set_option maxRecDepth 100000 in
theorem tell_index (A : Option Addr) (c : Nat) (l : List S172) (p gs o : Nat) (A1 : Option Addr) (n c1 : Nat) (ad : Addr) (y : S46) (w : World) (hc : Kd.C k172 w A l.length l) (hn : l.length ≤ c) (hl : l.length ≤ 6)
    (hp : w.cell? ⟨p, 0, none⟩ = some (.pointer (some ⟨gs, o, none⟩))) (h6 : w.cell? ⟨gs, o + 6, none⟩ = some (.slice (some ad) n c1)) (hn0 : 0 < n)
    (hy0 : w.cell? ad = some (.int .i64 y.f0)) (hy1 : w.cell? ⟨ad.block, ad.off + 1, none⟩ = some (.string y.f1)) :
    Calls Tryz.prog 200 #[.slice A l.length c, .func (.func 168) #[] #[.pointer (some ⟨p, 0, none⟩)]] w fun e w' => (∃ r, e = .returned (.int .i64 r) ∧ decide (0 ≤ r) = l.any (fun x => mightB x y)) ∧ Below w.heap.size w w' := by
  have HC := Aside0.mk hc
  have HP : Aside0 (∀ W, Below w.heap.size w W → W.cell? ⟨p, 0, none⟩ = some (.pointer (some ⟨gs, o, none⟩)) ∧ W.cell? ⟨gs, o + 6, none⟩ = some (.slice (some ad) n c1) ∧ W.cell? ad = some (.int .i64 y.f0) ∧ W.cell? ⟨ad.block, ad.off + 1, none⟩ = some (.string y.f1)) :=
    ⟨fun W hb => ⟨pw_cell_below hb hp, pw_cell_below hb h6, pw_cell_below hb hy0, pw_cell_below hb hy1⟩⟩
  clear hc hp h6 hy0 hy1
  go_enter Tryz.func200, Tryz.ntmps200
  go_wp2
  go_loopw [8] (fun v wr => ∃ k : Int, v = .int .i64 k ∧ 0 ≤ k ∧ k ≤ l.length ∧ Aside0 ((l.take k.toNat).any (fun x => mightB x y) = false) ∧ Aside0 (Below w.heap.size w wr)) (fun v _ => l.length - (intOf v).toNat)
  case atStart => exact ⟨0, rfl, by omega, by omega, ⟨by simp⟩, ⟨Below.refl _ _⟩⟩
  case round =>
    obtain ⟨k, rfl, hk0, hk, HF, HB⟩ := hrel
    rcases Mem.dec_or (k < (l.length : Int)) with hlt | hlt
    · have hlt' : k < (l.length : Int) := of_decide_eq_true hlt
      have hkn : k.toNat < l.length := by omega
      obtain ⟨ad1, A6, c6, rfl, x0, x1, x2, x3, x4, x5, x6, _, _⟩ := at_T172 (Kd.C_below HC.out HB.out) k hk0 hlt'
      have HG := Aside0.mk (rd172_get hk0 hlt')
      rcases Mem.bool_or (mightB (rd_T172 l k) y) with hq | hq
      all_goals
        go_wp2_with (go_at_call 168; refine (tell_pred p gs o (rd_T172 l k) A6 none c6 n c1 ad y _ (HP.out _ HB.out).1 (HP.out _ HB.out).2.1 hn0 (HP.out _ HB.out).2.2.1 (HP.out _ HB.out).2.2.2).mono ?_; rintro e w1 ⟨rfl, hb⟩; have HB1 := Aside0.mk (below_step HB.out hb); clear hb)
      · go_ret
        refine ⟨⟨k, rfl, ?_⟩, HB1.out⟩
        rw [any_here l _ k.toNat hkn (by rw [HG.out]; exact hq)]
        simp [hk0]
      · go_roundw
        case rel =>
          refine ⟨k + 1, rfl, by omega, by omega, ⟨?_⟩, HB1⟩
          rw [show (k + 1).toNat = k.toNat + 1 from by omega, any_snoc _ _ _ hkn, HF.out, HG.out, hq]
          rfl
        case measure =>
          simp [intOf]
          omega
    · go_wp2
      go_ret
      refine ⟨⟨-1, rfl, ?_⟩, HB.out⟩
      have e : k.toNat = l.length := by simp at hlt; omega
      have h := HF.out
      rw [e, List.take_length] at h
      rw [h]
      rfl
theorem tell_contains (A : Option Addr) (c : Nat) (l : List S172) (p gs o : Nat) (n c1 : Nat) (ad : Addr) (y : S46) (w : World) (hc : Kd.C k172 w A l.length l) (hn : l.length ≤ c) (hl : l.length ≤ 6)
    (hp : w.cell? ⟨p, 0, none⟩ = some (.pointer (some ⟨gs, o, none⟩))) (h6 : w.cell? ⟨gs, o + 6, none⟩ = some (.slice (some ad) n c1)) (hn0 : 0 < n)
    (hy0 : w.cell? ad = some (.int .i64 y.f0)) (hy1 : w.cell? ⟨ad.block, ad.off + 1, none⟩ = some (.string y.f1)) :
    Calls Tryz.prog 167 #[.slice A l.length c, .func (.func 168) #[] #[.pointer (some ⟨p, 0, none⟩)]] w fun e w' => e = .returned (.bool (l.any fun x => mightB x y)) ∧ Below w.heap.size w w' := by
  have HC := Aside0.mk hc
  have HP := Aside0.mk hp
  have H6 := Aside0.mk h6
  have H0 := Aside0.mk hy0
  have H1 := Aside0.mk hy1
  clear hc hp h6 hy0 hy1
  go_enter Tryz.func167, Tryz.ntmps167
  go_wp2_with (go_at_call 200; refine (tell_index A c l p gs o none n c1 ad y _ HC.out hn hl HP.out H6.out hn0 H0.out H1.out).mono ?_; rintro e w1 ⟨⟨r, rfl, hr⟩, hb⟩; have HR := Aside0.mk hr; clear hr)
  go_ret
  exact ⟨congrArg (fun b => Ending.returned (Value.bool b)) HR.out, hb⟩
/-- The first shard whose head is ahead of all others. -/
abbrev ptrSh (gs : Nat) : Option Nat → Value
  | none => .pointer none
  | some i => .pointer (some ⟨gs, i * 7, none⟩)
end Go.Proofs.YthbngidbfhcdaaaGreat.C
/- Which shard's first item is ahead of all others. -/
namespace Go.Proofs.YthbngidbfhcdaaaGreat.C
open Go.RowKit Go.Maps Go.Proofs.YthbngidbfhcdaaaGreat.Mem Go.Proofs.YthbngidbfhcdaaaGreatW.PrintWords Go.Proofs.YthbngidbfhcdaaaGreat.PCoordScript
set_option linter.unusedVariables false
set_option linter.unusedSimpArgs false
def aheadC (l : List S172) (k : Nat) : Option Nat → Bool
  | none => waitsB (rd_T172 l k)
  | some b => waitsB (rd_T172 l k) && ilt (head (rd_T172 l k)) (head (rd_T172 l b))
theorem aheadN_succ (l : List S172) (k : Nat) : aheadN l (k + 1) = if aheadC l k (aheadN l k) = true then some k else aheadN l k := by
  show (if _ then _ else _) = _
  cases aheadN l k with
  | none => simp only [aheadC, Bool.and_true]; rfl
  | some b => rfl
theorem aheadN_lt {l : List S172} : ∀ {k i : Nat}, aheadN l k = some i → i < k ∧ waitsB (rd_T172 l i) = true
  | 0, i, h => by cases h
  | k + 1, i, h => by
    rw [aheadN_succ] at h
    split at h
    · rename_i hc
      cases h
      refine ⟨Nat.lt_succ_self _, ?_⟩
      cases hb : aheadN l k with
      | none =>
        rw [hb] at hc
        exact hc
      | some b =>
        rw [hb] at hc
        unfold aheadC at hc
        rw [Bool.and_eq_true] at hc
        exact hc.1
    · have := aheadN_lt h
      exact ⟨by omega, this.2⟩
/-- The first item of a shard that has one. -/
theorem MgAt.first {W : World} {base : Nat} {okM okW : Nat → Prop} {g gs cap : Nat} {tv : Value} {M : Mg} (h : MgAt W base okM okW g gs cap tv M) (i : Nat) (hi : i < M.sh.length) (hw : waitsB (rd_T172 M.sh i) = true) :
    ∃ ad c, W.cell? ⟨gs, i * 7 + 6, none⟩ = some (.slice (some ad) (rd_T172 M.sh i).f5.length c) ∧ W.cell? ad = some (.int .i64 (head (rd_T172 M.sh i)).f0) ∧ W.cell? ⟨ad.block, ad.off + 1, none⟩ = some (.string (head (rd_T172 M.sh i)).f1) := by
  obtain ⟨A, c, hc, hwt⟩ := h.get i hi
  have hpos : 0 < (rd_T172 M.sh i).f5.length := by
    exact of_decide_eq_true hw
  obtain ⟨ad, c', e, _, hK, hcell⟩ := hwt.1.get_ z46 0 (by omega) (by omega)
  subst e
  have hh : (rd_T172 M.sh i).f5.getD (0 : Int).toNat z46 = head (rd_T172 M.sh i) := by
    unfold head
    cases (rd_T172 M.sh i).f5 <;> rfl
  rw [hh] at hK
  have hc' := k46_inv hK
  subst hc'
  refine ⟨ad, c, hc 6 _ rfl, ?_, ?_⟩
  · have := hcell 0 _ rfl
    simpa [Addr.add] using this
  · have := hcell 1 _ rfl
    rw [show ((0 : Int).toNat * k46.sz + 1) = 1 from by simp] at this
    have e : ad.add 1 = ⟨ad.block, ad.off + 1, none⟩ := add_field ad 0 1 (by omega) |>.symm ▸ rfl
    rw [e] at this
    exact this
set_option maxRecDepth 100000 in
set_option maxHeartbeats 2000000 in
theorem merge_ahead (W0 : World) (base : Nat) (okM okW : Nat → Prop) (g gs cap : Nat) (tv : Value) (M : Mg) (h : MgAt W0 base okM okW g gs cap tv M) (hl : M.sh.length ≤ 6) :
    Calls Tryz.prog 166 #[.pointer (some ⟨g, 0, none⟩)] W0 fun e w' => e = .returned (ptrSh gs M.ahead) ∧ Below W0.heap.size W0 w' := by
  have H := Aside0.mk h
  have c1 : W0.cell? ⟨g, 1, none⟩ = some (shSl gs M.sh.length cap) := (blk_cell h.box 1).trans rfl
  clear h
  go_enter Tryz.func166, Tryz.ntmps166
  go_wp2
  go_loopw [3, 11] (fun v3 v wr => ∃ k : Int, v = .int .i64 k ∧ 0 ≤ k ∧ k ≤ M.sh.length ∧ v3 = ptrSh gs (aheadN M.sh k.toNat) ∧ Aside0 (Below W0.heap.size W0 wr)) (fun _ v _ => M.sh.length - (intOf v).toNat)
  case atStart => exact ⟨0, rfl, by omega, by omega, rfl, ⟨Below.refl _ _⟩⟩
  case round =>
    obtain ⟨k, rfl, hk0, hk, rfl, HB⟩ := hrel
    have H1 := Aside0.mk (H.out.fresh HB.out)
    have c1 : wr.cell? ⟨g, 1, none⟩ = some (shSl gs M.sh.length cap) := (blk_cell H1.out.box 1).trans rfl
    rcases Mem.dec_or (k < (M.sh.length : Int)) with hlt | hlt
    · have hlt' : k < (M.sh.length : Int) := of_decide_eq_true hlt
      obtain ⟨q, rfl⟩ := Int.eq_ofNat_of_zero_le hk0
      have hq : q < M.sh.length := by omega
      rw [Int.toNat_natCast]
      rcases Mem.bool_or (waitsB (rd_T172 M.sh q)) with hw | hw
      · obtain ⟨ad, c, y6, y0, y1⟩ := H1.out.first q hq hw
        have hw' : decide (0 < (rd_T172 M.sh q).f5.length) = true := hw
        have hw2 : 0 < (rd_T172 M.sh q).f5.length := of_decide_eq_true hw
        cases hb : aheadN M.sh q with
        | none =>
          have HN : Aside0 (aheadN M.sh (q + 1) = some q) := ⟨by rw [aheadN_succ, hb]; simp [aheadC, hw]⟩
          go_wp2
          go_quiet (fail)
          go_wp2
          refine ⟨⟨(q : Int) + 1, rfl, by omega, by omega, ?_, ⟨pw_below_drewN HB.out _⟩⟩, by simp [intOf]; omega⟩
          rw [show ((q : Int) + 1).toNat = q + 1 from by omega, HN.out]
        | some b =>
          obtain ⟨hb1, hb2⟩ := aheadN_lt hb
          obtain ⟨ad', c', z6, z0, z1⟩ := H1.out.first b (by omega) hb2
          have hb3 : 0 < (rd_T172 M.sh b).f5.length := of_decide_eq_true hb2
          have HN : Aside0 (aheadN M.sh (q + 1) = if ilt (head (rd_T172 M.sh q)) (head (rd_T172 M.sh b)) = true then some q else some b) := ⟨by rw [aheadN_succ, hb]; simp [aheadC, hw]⟩
          rcases Mem.bool_or (ilt (head (rd_T172 M.sh q)) (head (rd_T172 M.sh b))) with hq2 | hq2
          all_goals
            rw [hq2] at HN
            go_wp2
            (refine Mem.still_tail 22 (by kernel_rfl) (by kernel_rfl) (R := (fun W => Below W0.heap.size W0 W ∧ W.cell? ⟨gs, q * 7 + 6, none⟩ = some (.slice (some ad) (rd_T172 M.sh q).f5.length c) ∧ W.cell? ad = some (.int .i64 (head (rd_T172 M.sh q)).f0) ∧ W.cell? ⟨ad.block, ad.off + 1, none⟩ = some (.string (head (rd_T172 M.sh q)).f1) ∧
               W.cell? ⟨gs, b * 7 + 6, none⟩ = some (.slice (some ad') (rd_T172 M.sh b).f5.length c') ∧ W.cell? ad' = some (.int .i64 (head (rd_T172 M.sh b)).f0) ∧ W.cell? ⟨ad'.block, ad'.off + 1, none⟩ = some (.string (head (rd_T172 M.sh b)).f1))) ⟨below_drew1 HB.out, y6, y0, y1, z6, z0, z1⟩ ?_)
            clear y6 y0 y1 z6 z0 z1 HB
            rintro W ⟨hB, y6, y0, y1, z6, z0, z1⟩
            (simp only [List.take_succ_cons, List.take_zero, List.drop_succ_cons, List.drop_zero]; repeat still_step)
            refine wpStill_nil ?_
            go_wp2_with (go_at_call 88; refine (rank_Less _ _ _).mono ?_; rintro e w1 ⟨rfl, hb⟩; have HB1 := Aside0.mk (below_step hB hb); clear hb)
            refine ⟨⟨(q : Int) + 1, rfl, by omega, by omega, ?_, HB1⟩, by simp [intOf]; omega⟩
            rw [show ((q : Int) + 1).toNat = q + 1 from by omega, HN.out]
            first | rfl | (rw [hb]; rfl)
      · obtain ⟨A, c, hc, hwt⟩ := H1.out.get q hq
        have y6 : wr.cell? ⟨gs, q * 7 + 6, none⟩ = some (.slice A (rd_T172 M.sh q).f5.length c) := hc 6 _ rfl
        have hw' : decide (0 < (rd_T172 M.sh q).f5.length) = false := hw
        clear hc
        have HN : Aside0 (aheadN M.sh (q + 1) = aheadN M.sh q) := ⟨by rw [aheadN_succ]; cases aheadN M.sh q <;> simp [aheadC, hw]⟩
        go_wp2
        go_quiet (fail)
        go_wp2
        refine ⟨⟨(q : Int) + 1, rfl, by omega, by omega, ?_, ⟨pw_below_drewN HB.out _⟩⟩, by simp [intOf]; omega⟩
        rw [show ((q : Int) + 1).toNat = q + 1 from by omega, HN.out]
    · have e : k.toNat = M.sh.length := by simp at hlt; omega
      rw [e]
      go_wp2
      go_ret
      exact ⟨rfl, HB.out⟩
end Go.Proofs.YthbngidbfhcdaaaGreat.C
/- What a merge tells: merge.Tell. -/
namespace Go.Proofs.YthbngidbfhcdaaaGreat.C
open Go.RowKit Go.Maps Go.Proofs.YthbngidbfhcdaaaGreat.Mem Go.Proofs.YthbngidbfhcdaaaGreatW.PrintWords Go.Proofs.YthbngidbfhcdaaaGreat.PCoordScript
set_option linter.unusedVariables false
set_option linter.unusedSimpArgs false
/-- Rows of items: where they may lie counts for their own block alone. -/
theorem R46_ok {e : Nat} {w : World} {base : Nat} {ok ok' : Nat → Prop} {v : Value} {xs : List S46} (h : Kd.R k46 e w base ok v xs) (hok : ∀ k, v.ownBlock = some k → ok' k) : Kd.R k46 e w base ok' v xs :=
  ⟨hok, h.2.imp_ fun _ _ hp => hp⟩
theorem R46_grown {e : Nat} {w w1 : World} {base : Nat} {ok : Nat → Prop} {v : Value} {xs : List S46} {row : Option Nat} (h : Kd.R k46 e w base ok v xs) (hg : w.grownBy w1 row) (hne : ∀ k, v.ownBlock = some k → some k ≠ row) : Kd.R k46 e w1 base ok v xs := by
  have h1 : Kd.R k46 e w base (fun k => v.ownBlock = some k) v xs := R46_ok h fun k hk => hk
  exact R46_ok (Kd.R_grown h1 hg hne) h.1
theorem R46_lower {e : Nat} {w : World} {base base' : Nat} {ok : Nat → Prop} {v : Value} {xs : List S46} (h : Kd.R k46 e w base ok v xs) (hb : base' ≤ base) : Kd.R k46 e w base' ok v xs := Kd.R_lower h hb
theorem info46 : (Tryz.prog.info? 46).map (fun i => (i.zero, i.size, i.bytes)) = some (some (.agg #[.int .i64 0, .string ⟨#[]⟩]), 2, 24) := by kernel_rfl
/-- Where a telling stands: what was told so far (l), the merge. -/
structure TellSt (w W : World) (base : Nat) (okM okW : Nat → Prop) (g gs cap : Nat) (v tv : Value) (acc : List S46) (M : Mg) : Prop where
  mg : MgAt W base (fun k => okM k ∨ some k = tv.ownBlock) okW g gs cap tv M
  l : Kd.R k46 46 W w.heap.size (fun k => some k ≠ tv.ownBlock) v acc
  only : Only okM w W
  gw : g < w.heap.size ∧ gs < w.heap.size ∧ okM g ∧ okM gs
  fresh : ∀ k, tv.ownBlock = some k → okM k ∨ w.heap.size ≤ k
section
variable {w W W1 : World} {base : Nat} {okM okW : Nat → Prop} {g gs cap : Nat} {v tv v1 tv1 : Value} {acc : List S46} {M : Mg} {x : S46}
theorem TellSt.step (h : TellSt w W base okM okW g gs cap v tv acc M) (hb : Below W.heap.size W W1) : TellSt w W1 base okM okW g gs cap v tv acc M :=
  ⟨h.mg.fresh hb, Kd.R_below h.l hb, h.only.next (Only.fresh hb _), h.gw, h.fresh⟩
theorem TellSt.appL (h : TellSt w W base okM okW g gs cap v tv acc M) {ok : Nat → Prop} (hW : ∀ k, okW k → k < w.heap.size) (hr : Kd.R k46 46 W1 w.heap.size ok v1 (acc ++ [x])) (hg : W.grownBy W1 v.ownBlock) (hat : v1.ownBlock = v.ownBlock ∨ ∃ b, v1.ownBlock = some b ∧ W.heap.size ≤ b) : TellSt w W1 base okM okW g gs cap v1 tv (acc ++ [x]) M := by
  obtain ⟨inner, hlo⟩ := Kd.R_own h.l
  have hv : ∀ k, v.ownBlock = some k → w.heap.size ≤ k ∧ some k ≠ tv.ownBlock := fun k hk => ⟨own_base hlo k hk, h.l.1 k hk⟩
  have hgs := h.gw.2.1
  refine ⟨?_, R46_ok hr fun k hk => ?_, h.only.trans (G := fun k => some k = v.ownBlock) (Only.grown hg fun k hk hl => hk.symm) fun k hk e => absurd (hv k e.symm).1 (Nat.not_le.2 hk), h.gw, h.fresh⟩
  · obtain ⟨b1, r1, t1, g1, v1'⟩ := h.mg
    have key : ∀ k, k < w.heap.size → W1.heap[k]? = W.heap[k]? := fun k hk => hg.block k (Nat.lt_of_lt_of_le hk h.only.size) fun e => by
      have := (hv k e.symm).1
      omega
    obtain ⟨ir, hro, hrr⟩ := r1
    refine ⟨(key g h.gw.1).trans b1, ⟨ir, own_move hro fun k hk => ?_, hrr.imp_ fun y cs ⟨A, c, e, hw⟩ => ⟨A, c, e, hw.move fun k _ ho => key k (hW k ho)⟩⟩, R46_grown t1 hg fun k hk e => (hv k e.symm).2 hk.symm, g1, v1'⟩
    cases hk
    exact key gs hgs
  · rcases hat with hat | ⟨b, hat, hb⟩
    · exact (hv k (hat ▸ hk)).2
    · rw [hat] at hk
      cases hk
      intro e
      have := Kd.R_lt h.mg.told k e.symm
      omega
/-- An item told: onto what was told in all. -/
theorem TellSt.appT (h : TellSt w W base okM okW g gs cap v tv acc M) {ok : Nat → Prop} (hW : ∀ k, okW k → k < w.heap.size) (hWM : ∀ k, okW k → ¬ okM k) (hr : Kd.R k46 46 W1 base ok tv1 (M.told ++ [x])) (hg : W.grownBy W1 tv.ownBlock) (hat : tv1.ownBlock = tv.ownBlock ∨ ∃ b, tv1.ownBlock = some b ∧ W.heap.size ≤ b) :
    W1.heap[g]? = some (MergeB M.n (shSl gs M.sh.length cap) tv) ∧ TellSt w (W1.setCell ⟨g, 2, none⟩ tv1) base okM okW g gs cap v tv1 acc { M with told := M.told ++ [x] } := by
  obtain ⟨b1, r1, t1, g1, v1'⟩ := h.mg
  obtain ⟨cur, hcur⟩ := own_at r1.choose_spec.1 rfl
  obtain ⟨tin, hto⟩ := Kd.R_own t1
  have ht : ∀ k, tv.ownBlock = some k → okM k ∨ w.heap.size ≤ k := h.fresh
  have hg0 : W1.heap[g]? = some (MergeB M.n (shSl gs M.sh.length cap) tv) := blk_grown b1 hg (Kd.R_ne t1 b1 (by decide))
  have hgs0 : W1.heap[gs]? = W.heap[gs]? := hg.block gs (blk_lt hcur) (Kd.R_ne t1 hcur (by decide))
  have hne : g ≠ gs := by
    rintro rfl
    rw [b1] at hcur
    cases hcur
  have hWk : ∀ k, okW k → W1.heap[k]? = W.heap[k]? := fun k hk => hg.block k (Nat.lt_of_lt_of_le (hW k hk) h.only.size) fun e => by
    rcases ht k e.symm with h1 | h1
    · exact hWM k hk h1
    · have := hW k hk
      omega
  have hset : ∀ k, k ≠ g → (W1.setCell ⟨g, 2, none⟩ tv1).heap[k]? = W1.heap[k]? := fun k hk => Below.heap_setCell _ _ _ _ hk
  have hb1 : ∀ k, tv1.ownBlock = some k → tv.ownBlock = some k ∨ W.heap.size ≤ k := fun k hk => by
    rcases hat with hat | ⟨b, hat, hb⟩
    · exact .inl (hat ▸ hk)
    · rw [hat] at hk
      cases hk
      exact .inr hb
  obtain ⟨ir, hro, hrr⟩ := r1
  refine ⟨hg0, ⟨⟨blk_put hg0 2 _ rfl, ⟨ir, own_move hro fun k hk => ?_, hrr.imp_ fun y cs ⟨A, c, e, hw⟩ => ⟨A, c, e, hw.move fun k _ ho => ?_⟩⟩, R46_ok (Kd.R_set hr hg0 (by decide) 2 tv1) fun k hk => .inr hk.symm, .inl h.gw.2.2.1, .inl h.gw.2.2.2⟩, ?_, ?_, h.gw, fun k hk => ?_⟩⟩
  · cases hk
    rw [hset gs (Ne.symm hne)]
    exact hgs0
  · rw [hset k (fun e => hWM k ho (e ▸ h.gw.2.2.1))]
    exact hWk k ho
  · refine R46_ok (Kd.R_set (R46_grown h.l hg fun k hk e => h.l.1 k hk e) hg0 (by decide) 2 tv1) fun k hk e => ?_
    rcases hb1 k e.symm with h1 | h1
    · exact h.l.1 k hk h1.symm
    · have := Kd.R_lt h.l k hk
      omega
  · refine (h.only.trans (G := fun k => some k = tv.ownBlock) (Only.grown hg fun k hk hl => hk.symm) fun k hk e => ?_).set (p := ⟨g, 2, none⟩) (fun _ => h.gw.2.2.1) _
    rcases ht k e.symm with h1 | h1
    · exact h1
    · omega
  · rcases hb1 k hk with h1 | h1
    · exact ht k h1
    · exact .inr (Nat.le_trans h.only.size h1)
/-- An item told: off what waits. -/
theorem TellSt.off (h : TellSt w W base okM okW g gs cap v tv acc M) (hW : ∀ k, okW k → k < w.heap.size) (hWM : ∀ k, okW k → ¬ okM k) (i : Nat) (A : Option Addr) (c : Nat) (hw : Wt okW W A c ((rd_T172 M.sh i).f5.drop 1)) :
    TellSt w (W.setCell ⟨gs, i * 7 + 6, none⟩ (.slice A ((rd_T172 M.sh i).f5.drop 1).length c)) base okM okW g gs cap v tv acc { M with sh := M.sh.set i { rd_T172 M.sh i with f5 := (rd_T172 M.sh i).f5.drop 1 } } := by
  obtain ⟨cur, hcur⟩ := h.mg.blk
  have hd : ∀ k, okW k → ¬ (okM k ∨ some k = tv.ownBlock) := fun k hk hh => by
    rcases hh with h1 | h1
    · exact hWM k hk h1
    · rcases h.fresh k h1.symm with h2 | h2
      · exact hWM k hk h2
      · have := hW k hk
        omega
  refine ⟨h.mg.put i 6 (by omega) _ _ (fun A' c' hw' => ⟨A, c, rfl, hw⟩) hd, Kd.R_set h.l hcur (by decide) _ _, h.only.set (p := ⟨gs, _, none⟩) (fun _ => h.gw.2.2.2) _, h.gw, h.fresh⟩
end
/-! ### what is left to tell -/
theorem sum_set {α : Type} (f : α → Nat) (l : List α) (i : Nat) (hi : i < l.length) (y : α) : ((l.set i y).map f).sum + f l[i] = (l.map f).sum + f y := by
  induction l generalizing i with
  | nil => simp at hi
  | cons a l ih =>
    cases i with
    | zero => simp; omega
    | succ i =>
      have := ih i (by simpa using hi)
      simp only [List.set_cons_succ, List.map_cons, List.sum_cons, List.getElem_cons_succ]
      omega
theorem rd_get {l : List S172} {i : Nat} (hi : i < l.length) : rd_T172 l i = l[i] := by simp [rd_T172, List.getD_eq_getElem?_getD, List.getElem?_eq_getElem hi]
theorem Mg.left_tells (M : Mg) (i : Nat) (hi : i < M.sh.length) (hw : waitsB (rd_T172 M.sh i) = true) : (M.tells i).left + 1 = M.left := by
  have h1 := sum_set (fun x : S172 => x.f5.length) M.sh i hi { rd_T172 M.sh i with f5 := (rd_T172 M.sh i).f5.drop 1 }
  have h2 : 0 < (rd_T172 M.sh i).f5.length := of_decide_eq_true hw
  rw [rd_get hi] at h2
  simp only [rd_get hi, List.length_drop] at h1
  unfold Mg.left Mg.tells
  simp only [rd_get hi]
  omega
theorem Mg.next_some {M : Mg} {i : Nat} (h : M.next = some i) : i < M.sh.length ∧ waitsB (rd_T172 M.sh i) = true := by
  unfold Mg.next at h
  split at h
  · cases h
  · split at h
    · cases h
    · rename_i j hj
      split at h
      · cases h
      · cases h
        exact aheadN_lt hj
theorem Mg.tellN_none {M : Mg} (h : M.next = none) (k : Nat) : M.tellN k = ([], M) := by
  cases k with
  | zero => rfl
  | succ k =>
    show (match M.next with | none => _ | some i => _) = _
    rw [h]
theorem Mg.tellN_some {M : Mg} {i : Nat} (h : M.next = some i) (k : Nat) : M.tellN (k + 1) = (head (rd_T172 M.sh i) :: (Mg.tellN k (M.tells i)).1, (Mg.tellN k (M.tells i)).2) := by
  show (match M.next with | none => _ | some i => _) = _
  rw [h]
end Go.Proofs.YthbngidbfhcdaaaGreat.C
/- How a coordinator stands: in plain words, and in memory. -/
namespace Go.Proofs.YthbngidbfhcdaaaGreat.C
open Go.RowKit Go.Maps Go.Proofs.YthbngidbfhcdaaaGreat.Mem Go.Proofs.YthbngidbfhcdaaaGreatW.PrintWords Go.Proofs.YthbngidbfhcdaaaGreat.PCoordScript
set_option linter.unusedVariables false
set_option linter.unusedSimpArgs false
/-- Whose a block is: nobody's; one that never turns; a coordinator's (by parts); a query's; what was told to an asker. -/
inductive Own where
  | z
  | imm
  | co (n : Nat)
  | q (id : Int)
  | qb (id : Int)
  | it (i : Nat)
deriving DecidableEq
/-- How a query stands with a shard. -/
structure Tn where
  turn : Int
  tries : Int
  first : Int
  hedged : Bool
def Tn.none : Tn := ⟨0, 0, 0, false⟩
/-- A query that has a slot. -/
structure Qy where
  id : Int
  q : S40
  m : Mg
  t : Nat → Tn
/-- A coordinator. -/
structure Co where
  now : Int
  L : Nat → Ls
  last : Int
  Q : Nat → Option Qy
  T : Int → Option Int
  told : List S58
/-- The slot of a query with this number, among the first k. -/
def slotN (Q : Nat → Option Qy) (id : Int) : Nat → Option Nat
  | 0 => none
  | k + 1 => match slotN Q id k with
    | some s => some s
    | none => match Q k with
      | some y => if y.id = id then some k else none
      | none => none
def Co.slot (S : Co) (id : Int) : Option Nat := slotN S.Q id 4
/-- How many queries are under way. -/
def liveN (Q : Nat → Option Qy) : Nat → Nat
  | 0 => 0
  | k + 1 => liveN Q k + (if (Q k).isSome then 1 else 0)
def Co.live (S : Co) : Nat := liveN S.Q 4
theorem slotN_some {Q : Nat → Option Qy} {id : Int} : ∀ {k s : Nat}, slotN Q id k = some s → s < k ∧ ∃ y, Q s = some y ∧ y.id = id
  | 0, s, h => by cases h
  | k + 1, s, h => by
    unfold slotN at h
    cases h1 : slotN Q id k with
    | some s' =>
      rw [h1] at h
      cases h
      obtain ⟨a, b⟩ := slotN_some h1
      exact ⟨by omega, b⟩
    | none =>
      rw [h1] at h
      cases h2 : Q k with
      | none =>
        rw [h2] at h
        cases h
      | some y =>
        rw [h2] at h
        by_cases h3 : y.id = id
        · simp [h3] at h
          subst h
          exact ⟨Nat.lt_succ_self _, y, h2, h3⟩
        · simp [h3] at h
theorem slotN_none {Q : Nat → Option Qy} {id : Int} : ∀ {k : Nat}, slotN Q id k = none → ∀ s y, s < k → Q s = some y → y.id ≠ id
  | 0, h, s, y, hs, _ => by omega
  | k + 1, h, s, y, hs, hy => by
    unfold slotN at h
    cases h1 : slotN Q id k with
    | some s' =>
      rw [h1] at h
      cases h
    | none =>
      rw [h1] at h
      by_cases hsk : s = k
      · subst hsk
        rw [hy] at h
        intro e
        simp [e] at h
      · exact slotN_none h1 s y (by omega) hy
/-- No two queries under way have one number. -/
def Uniq (Q : Nat → Option Qy) : Prop := ∀ s s' y y', s < 4 → s' < 4 → Q s = some y → Q s' = some y' → y.id = y'.id → s = s'
theorem slot_of {S : Co} (hu : Uniq S.Q) {s : Nat} {y : Qy} (hs : s < 4) (hy : S.Q s = some y) : S.slot y.id = some s := by
  cases h : S.slot y.id with
  | none => exact absurd rfl (slotN_none h s y hs hy)
  | some s' =>
    obtain ⟨h1, y', h2, h3⟩ := slotN_some h
    rw [hu s' s y' y h1 hs h2 hy h3]
theorem slot_some {S : Co} {id : Int} {s : Nat} (h : S.slot id = some s) : s < 4 ∧ ∃ y, S.Q s = some y ∧ y.id = id := slotN_some h
/-! ### in memory -/
abbrev tnV (t : Tn) : List Value := [.int .i64 t.turn, .int .i64 t.tries, .int .i64 t.first, .bool t.hedged]
abbrev qyV (s : Nat) (y : Qy) (g : Nat) : Array Value := #[.int .i64 y.id, .int .i64 s, .string y.q.f0, .int .i64 y.q.f1, .int .i64 y.q.f2, .pointer (some ⟨g, 0, none⟩),
  .int .i64 (y.t 0).turn, .int .i64 (y.t 0).tries, .int .i64 (y.t 0).first, .bool (y.t 0).hedged,
  .int .i64 (y.t 1).turn, .int .i64 (y.t 1).tries, .int .i64 (y.t 1).first, .bool (y.t 1).hedged,
  .int .i64 (y.t 2).turn, .int .i64 (y.t 2).tries, .int .i64 (y.t 2).first, .bool (y.t 2).hedged,
  .int .i64 (y.t 3).turn, .int .i64 (y.t 3).tries, .int .i64 (y.t 3).first, .bool (y.t 3).hedged,
  .int .i64 (y.t 4).turn, .int .i64 (y.t 4).tries, .int .i64 (y.t 4).first, .bool (y.t 4).hedged,
  .int .i64 (y.t 5).turn, .int .i64 (y.t 5).tries, .int .i64 (y.t 5).first, .bool (y.t 5).hedged]
abbrev QyB (s : Nat) (y : Qy) (g : Nat) : Obj := .cells (qyV s y g) 141 (0, 0)
/-- A query's parts. -/
structure QAt (ρ : Nat → Own) (W : World) (base s b : Nat) (y : Qy) (g gs cap : Nat) (tv : Value) : Prop where
  box : W.heap[b]? = some (QyB s y g)
  bo : ρ b = .qb y.id
  mg : MgAt W base (fun k => ρ k = .q y.id) (fun k => ρ k = .imm) g gs cap tv y.m
abbrev toldV (t : S58) (v : Value) : List Value := [.int .i64 t.f0, .string t.f1.f0, .int .i64 t.f1.f1, .int .i64 t.f1.f2, v, .bool t.f3, .bool t.f4]
def ToldR (ρ : Nat → Own) (W : World) (base : Nat) (p : S58 × Nat) (cs : List Value) : Prop := ∃ v, cs = toldV p.1 v ∧ Kd.R k46 46 W base (fun k => ρ k = .it p.2) v p.1.f2
structure ToldAt (ρ : Nat → Own) (W : World) (base : Nat) (v : Value) (l : List S58) : Prop where
  row : OwnRow (ToldR ρ W base) 58 7 W base v l.zipIdx
  own : ∀ k, v.ownBlock = some k → ρ k = .co 7
structure CoAt (c : Cfg) (base : Nat) (ρ : Nat → Own) (I : CoIds) (blk : Int → Nat) (S : Co) (W : World) : Prop where
  co : ∃ dv, W.heap[I.x]? = some (CoB (c.bare I.A1 I.c1) I.cv S.now (.pointer (some ⟨I.l, 0, none⟩)) (.pointer (some ⟨I.s, 0, none⟩)) (.pointer (some ⟨I.t, 0, none⟩)) (.map (some I.m)) dv) ∧ ToldAt ρ W base dv S.told
  cuts : Kd.R k107 107 W base (fun k => ρ k = .imm) (.slice I.A1 c.cuts.length I.c1) c.cuts
  copies : Kd.R dcopies 26 W base (fun k => ρ k = .imm) I.cv (c.allCopies (c.cuts.length + 1))
  tab : W.heap[I.l]? = some (Tab c.wk c.le S.L)
  sl : ∃ fof fat, SlAt W I.s I.a I.b c.sl S.last S.live fof fat ∧ (∀ id, fof id = (S.slot id).map fun s : Nat => (s : Int)) ∧ ∀ k : Int, fat k = if 0 ≤ k ∧ k < 4 then (S.Q k.toNat).map fun y => y.id else none
  tim : TmF W base (fun k => ρ k = .co 3) I.t S.T
  qs : ∃ fq, MapAt Tryz.prog 3 encP W I.m S.live fq ∧ ∀ id, fq id = (S.slot id).map fun _ => blk id
  qat : ∀ s y, s < 4 → S.Q s = some y → ∃ g gs cap tv, QAt ρ W base s (blk y.id) y g gs cap tv
  roles : ρ I.x = .co 0 ∧ ρ I.l = .co 1 ∧ ρ I.s = .co 2 ∧ ρ I.t = .co 3 ∧ ρ I.a = .co 4 ∧ ρ I.b = .co 5 ∧ ρ I.m = .co 6
  own : ∀ k, ρ k ≠ .z → base ≤ k ∧ k < W.heap.size
  uniq : Uniq S.Q
  top : ∀ s y, S.Q s = some y → s < c.sl.toNat ∧ 1 ≤ y.id ∧ y.id ≤ S.last
  len : (S.told.length : Int) = S.last
  tin : ∀ id a, S.T id = some a → 0 ≤ id ∧ id < 24
section
variable {c : Cfg} {base : Nat} {ρ : Nat → Own} {I : CoIds} {blk : Int → Nat} {S : Co} {W W1 : World}
theorem QAt.move {s b : Nat} {y : Qy} {g gs cap : Nat} {tv : Value} (h : QAt ρ W base s b y g gs cap tv) (hm : ∀ k, k < W.heap.size → ρ k = .q y.id ∨ ρ k = .qb y.id ∨ ρ k = .imm → W1.heap[k]? = W.heap[k]?) : QAt ρ W1 base s b y g gs cap tv :=
  ⟨(hm b (blk_lt h.box) (.inr (.inl h.bo))).trans h.box, h.bo, h.mg.move fun k hk ho => hm k hk (ho.imp (fun h => h) .inr)⟩
theorem ToldAt.move {v : Value} {l : List S58} (h : ToldAt ρ W base v l) (hm : ∀ k, k < W.heap.size → ρ k = .co 7 ∨ (∃ i, ρ k = .it i) → W1.heap[k]? = W.heap[k]?) : ToldAt ρ W1 base v l := by
  obtain ⟨⟨inner, ho, hr⟩, hv⟩ := h
  refine ⟨⟨inner, own_move ho fun k hk => hm k (own_lt ho k hk) (.inl (hv k hk)), hr.imp_ fun p cs ⟨v, e, hR⟩ => ⟨v, e, ?_⟩⟩, hv⟩
  exact Kd.R_step hR fun k hk hl => hm k hl (.inr ⟨_, hk⟩)
theorem TmF.move {ok : Nat → Prop} {t : Nat} {f : Int → Option Int} (h : TmF W base ok t f) (ht : W1.heap[t]? = W.heap[t]?) (hm : ∀ k, k < W.heap.size → ok k → W1.heap[k]? = W.heap[k]?) : TmF W1 base ok t f := by
  obtain ⟨l, ⟨v, h1, h2⟩, h3⟩ := h
  exact ⟨l, ⟨v, ht.trans h1, Kd.R_step h2 fun k hk hl => hm k hl hk⟩, h3⟩
theorem SlAt.move {s a b : Nat} {most last : Int} {n : Nat} {fof fat : Int → Option Int} (h : SlAt W s a b most last n fof fat) (hs : W1.heap[s]? = W.heap[s]?) (ha : W1.heap[a]? = W.heap[a]?) (hb : W1.heap[b]? = W.heap[b]?) : SlAt W1 s a b most last n fof fat :=
  ⟨hs.trans h.box, h.of_.keep ha, h.at_.keep hb, h.ne⟩
/-- What is nobody's may turn. -/
theorem CoAt.frame (h : CoAt c base ρ I blk S W) (hz : W.heap.size ≤ W1.heap.size) (hm : ∀ k, k < W.heap.size → ρ k ≠ .z → W1.heap[k]? = W.heap[k]?) : CoAt c base ρ I blk S W1 := by
  obtain ⟨r0, r1, r2, r3, r4, r5, r6⟩ := h.roles
  obtain ⟨dv, hco, htold⟩ := h.co
  obtain ⟨fof, fat, hsl, hf1, hf2⟩ := h.sl
  obtain ⟨fq, hq, hq2⟩ := h.qs
  have at_ : ∀ k (r : Own), ρ k = r → r ≠ .z → W1.heap[k]? = W.heap[k]? := fun k r hr hne => hm k (h.own k (by rw [hr]; exact hne)).2 (by rw [hr]; exact hne)
  refine ⟨⟨dv, (at_ _ _ r0 (by simp)).trans hco, htold.move fun k hk hr => hm k hk ?_⟩, Kd.R_step h.cuts fun k hk hl => hm k hl (by rw [hk]; simp), Kd.R_step h.copies fun k hk hl => hm k hl (by rw [hk]; simp), (at_ _ _ r1 (by simp)).trans h.tab,
    ⟨fof, fat, hsl.move (at_ _ _ r2 (by simp)) (at_ _ _ r4 (by simp)) (at_ _ _ r5 (by simp)), hf1, hf2⟩, h.tim.move (at_ _ _ r3 (by simp)) (fun k hk hr => hm k hk (by rw [hr]; simp)), ⟨fq, hq.keep (at_ _ _ r6 (by simp)), hq2⟩, fun s y hs hy => ?_, h.roles, fun k hk => ⟨(h.own k hk).1, Nat.lt_of_lt_of_le (h.own k hk).2 hz⟩, h.uniq, h.top, h.len, h.tin⟩
  · rcases hr with hr | ⟨i, hr⟩ <;> (rw [hr]; simp)
  · obtain ⟨g, gs, cap, tv, hQ⟩ := h.qat s y hs hy
    exact ⟨g, gs, cap, tv, hQ.move fun k hk hr => hm k hk (by rcases hr with hr | hr | hr <;> (rw [hr]; simp))⟩
theorem CoAt.fresh (h : CoAt c base ρ I blk S W) (hb : Below W.heap.size W W1) : CoAt c base ρ I blk S W1 := h.frame hb.size fun k hk _ => hb.block k hk
end
end Go.Proofs.YthbngidbfhcdaaaGreat.C
/- A coordinator that is new; its time; a worker's word. -/
namespace Go.Proofs.YthbngidbfhcdaaaGreat.C
open Go.RowKit Go.Maps Go.Proofs.YthbngidbfhcdaaaGreat.Mem Go.Proofs.YthbngidbfhcdaaaGreatW.PrintWords Go.Proofs.YthbngidbfhcdaaaGreat.PCoordScript
set_option linter.unusedVariables false
set_option linter.unusedSimpArgs false
def Co.new : Co := ⟨0, fun _ => ⟨0, 0, 0⟩, 0, fun _ => none, fun _ => none, []⟩
theorem R_off {α : Type} {d : Kd α} {e base : Nat} {W : World} {v : Value} {xs : List α} (h : d.R e W base (fun _ => True) v xs) (bad : Nat → Prop) (hbad : ∀ k, bad k → ∀ q ∈ e :: d.E, ∀ cells, W.heap[k]? ≠ some (.cells cells q (0, 0))) : d.R e W base (fun k => base ≤ k ∧ k < W.heap.size ∧ ¬ bad k) v xs :=
  Kd.R_mono (Kd.R_bound h) fun k ⟨_, h1, h2, q, hq, cells, hc⟩ => ⟨h1, h2, fun hb => hbad k hb q hq cells hc⟩
theorem CoAt.of_new {c : Cfg} {base : Nat} {I : CoIds} {W : World} (h : CoSt c base I newG W) (hba : base ≤ W.heap.size) : ∃ ρ, CoAt c base ρ I (fun _ => 0) Co.new W := by
  have hx := blk_lt h.co
  have hl := blk_lt h.tab
  have hs := blk_lt h.slot
  have ht := blk_lt h.tim
  have ha := h.of_.lt
  have hb := h.at_.lt
  have hm := h.qs.lt
  obtain ⟨g1, g2, g3, g4, g5, g6, g7⟩ := h.ges
  obtain ⟨n1, n2, n3⟩ := h.nes
  have xl := blk_ne h.co h.tab (by decide)
  have xs := blk_ne h.co h.slot (by decide)
  have xt := blk_ne h.co h.tim (by decide)
  have ls := blk_ne h.tab h.slot (by decide)
  have lt := blk_ne h.tab h.tim (by decide)
  have st := blk_ne h.slot h.tim (by decide)
  have nomap : ∀ {k : Nat} {cs : Array Value} {q : Nat} {b : Nat}, W.heap[k]? = some (.cells cs q (0, 0)) → (∃ es clk, W.heap[b]? = some (.map es clk)) → k ≠ b := by
    rintro k cs q b h1 ⟨es, clk, h2⟩ rfl
    rw [h1] at h2
    cases h2
  have ma := h.of_.isMap
  have mb := h.at_.isMap
  have mm := h.qs.isMap
  let ρ : Nat → Own := fun k => if k = I.x then .co 0 else if k = I.l then .co 1 else if k = I.s then .co 2 else if k = I.t then .co 3 else if k = I.a then .co 4 else if k = I.b then .co 5 else if k = I.m then .co 6 else if base ≤ k ∧ k < W.heap.size then .imm else .z
  have hρ : ∀ k, base ≤ k → k < W.heap.size → ¬ (k = I.x ∨ k = I.l ∨ k = I.s ∨ k = I.t ∨ k = I.a ∨ k = I.b ∨ k = I.m) → ρ k = .imm := by
    intro k h1 h2 h3
    simp only [not_or] at h3
    obtain ⟨a1, a2, a3, a4, a5, a6, a7⟩ := h3
    show (if _ then _ else _) = _
    rw [if_neg a1, if_neg a2, if_neg a3, if_neg a4, if_neg a5, if_neg a6, if_neg a7, if_pos ⟨h1, h2⟩]
  have hbad : ∀ (T : List Nat), (∀ q ∈ T, q ≠ 120 ∧ q ≠ 217 ∧ q ≠ 220 ∧ q ≠ 224) → ∀ k, (k = I.x ∨ k = I.l ∨ k = I.s ∨ k = I.t ∨ k = I.a ∨ k = I.b ∨ k = I.m) → ∀ q ∈ T, ∀ cells, W.heap[k]? ≠ some (.cells cells q (0, 0)) := by
    intro T hT k hk q hq cells hc
    obtain ⟨t1, t2, t3, t4⟩ := hT q hq
    rcases hk with rfl | rfl | rfl | rfl | rfl | rfl | rfl
    · rw [h.co] at hc; cases hc; exact t1 rfl
    · rw [h.tab] at hc; cases hc; exact t2 rfl
    · rw [h.slot] at hc; cases hc; exact t3 rfl
    · rw [h.tim] at hc; cases hc; exact t4 rfl
    · exact nomap hc ma rfl
    · exact nomap hc mb rfl
    · exact nomap hc mm rfl
  refine ⟨ρ, ⟨_, h.co, ⟨OwnRow.none_ _ _ _ _ _, (fun k hk => by cases hk)⟩⟩, ?_, ?_, h.tab, ⟨_, _, ⟨h.slot, h.of_, h.at_, n1⟩, fun id => rfl, fun k => by simp [Co.new, newG]⟩, ⟨[], ⟨_, h.tim, Kd.R_nil _ _ _ _ _⟩, by simp [TmSays, Co.new]⟩, ⟨_, h.qs, fun id => rfl⟩, (fun s y hs hy => by cases hy), ?_, ?_, (fun s s' y y' _ _ hy => by cases hy), (fun s y hy => by cases hy), rfl, (fun id a ha => by cases ha)⟩
  · exact Kd.R_mono (R_off (h.cuts) _ (hbad _ (by decide))) fun k hk => hρ k hk.1 hk.2.1 hk.2.2
  · exact Kd.R_mono (R_off (h.copies) _ (hbad _ (by decide))) fun k hk => hρ k hk.1 hk.2.1 hk.2.2
  · have xa := nomap h.co ma
    have xb := nomap h.co mb
    have xm := nomap h.co mm
    have la := nomap h.tab ma
    have lb := nomap h.tab mb
    have lm := nomap h.tab mm
    have sa := nomap h.slot ma
    have sb := nomap h.slot mb
    have sm := nomap h.slot mm
    have ta := nomap h.tim ma
    have tb := nomap h.tim mb
    have tm := nomap h.tim mm
    refine ⟨?_, ?_, ?_, ?_, ?_, ?_, ?_⟩ <;> simp [ρ, *, Ne.symm xl, Ne.symm xs, Ne.symm xt, Ne.symm ls, Ne.symm lt, Ne.symm st, Ne.symm xa, Ne.symm xb, Ne.symm xm, Ne.symm la, Ne.symm lb, Ne.symm lm, Ne.symm sa, Ne.symm sb, Ne.symm sm, Ne.symm ta, Ne.symm tb, Ne.symm tm, Ne.symm n1, Ne.symm n2, Ne.symm n3]
  · intro k hk
    by_cases h1 : k = I.x ∨ k = I.l ∨ k = I.s ∨ k = I.t ∨ k = I.a ∨ k = I.b ∨ k = I.m
    · rcases h1 with rfl | rfl | rfl | rfl | rfl | rfl | rfl <;> exact ⟨by assumption, by assumption⟩
    · simp only [not_or] at h1
      obtain ⟨a1, a2, a3, a4, a5, a6, a7⟩ := h1
      by_cases h2 : base ≤ k ∧ k < W.heap.size
      · exact h2
      · exfalso
        refine hk ?_
        show (if _ then _ else _) = _
        rw [if_neg a1, if_neg a2, if_neg a3, if_neg a4, if_neg a5, if_neg a6, if_neg a7, if_neg h2]
end Go.Proofs.YthbngidbfhcdaaaGreat.C
