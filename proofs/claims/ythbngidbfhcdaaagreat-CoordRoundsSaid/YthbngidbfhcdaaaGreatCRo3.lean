/- Texts of this proof, joined: part 3. -/
import Derived.Deep.RegionHeld3
import Derived.Deep.RegionLaw
import Derived.BigRegion
import Derived.Test.YthbngidbfhcdaaaGreatPCoordScriptx4
import Derived.Test.YthbngidbfhcdaaaGreatCRo2
set_option linter.unusedVariables false
set_option linter.unusedSimpArgs false
/- Letters; what a coordinator says of its time and its leases; a worker's word. -/
namespace Go.Proofs.YthbngidbfhcdaaaGreat.C
open Go.RowKit Go.Maps Go.Proofs.YthbngidbfhcdaaaGreat.Mem Go.Proofs.YthbngidbfhcdaaaGreatW.PrintWords Go.Proofs.YthbngidbfhcdaaaGreat.PCoordScript
set_option linter.unusedVariables false
set_option linter.unusedSimpArgs false
/-- An Ask. -/
structure AskD where
  slot : Int
  query : Int
  shard : Int
  seq : Int
  epoch : Int
  text : ByteArray
  k : Int
  batch : Int
  first : Bool
  after : S46
/-- What a coordinator sends. -/
inductive MsgD where
  | grant (w life ep : Int)
  | ask (a : AskD)
  | stop (slot query : Int)
structure LetD where
  dest : Int
  msg : MsgD
abbrev askV (a : AskD) : Value := .agg #[.int .i64 a.slot, .int .i64 a.query, .int .i64 a.shard, .int .i64 a.seq, .int .i64 a.epoch, .string a.text, .int .i64 a.k, .int .i64 a.batch, .bool a.first, .int .i64 a.after.f0, .string a.after.f1]
def msgV : MsgD → Value
  | .grant w l e => .iface 99 (.agg #[.int .i64 w, .int .i64 l, .int .i64 e])
  | .ask a => .iface 48 (askV a)
  | .stop s q => .iface 87 (.agg #[.int .i64 s, .int .i64 q])
theorem msgV_one (m : MsgD) : (msgV m).oneCell' = true := by cases m <;> rfl
def kLet : Kd LetD := Kd.iso (Kd.pair (Kd.int .i64) (Kd.scalar msgV msgV_one)) fun x => (x.dest, x.msg)
theorem kLet_M {W : World} {base : Nat} {ok : Nat → Prop} (x : LetD) : kLet.M W base ok x [.int .i64 x.dest, msgV x.msg] := ⟨[.int .i64 x.dest], [msgV x.msg], rfl, rfl, rfl⟩
theorem RL_ok {e : Nat} {w : World} {base : Nat} {ok ok' : Nat → Prop} {v : Value} {xs : List LetD} (h : Kd.R kLet e w base ok v xs) (hok : ∀ k, v.ownBlock = some k → ok' k) : Kd.R kLet e w base ok' v xs :=
  ⟨hok, h.2.imp_ fun _ _ hp => hp⟩
/-- One letter, laid by a literal. -/
theorem RL_one {W1 : World} {g : Nat} (x : LetD) (hb : W1.heap[g]? = some (.cells #[.int .i64 x.dest, msgV x.msg] 51 (0, 0))) {base : Nat} (hg : base ≤ g) : Kd.R kLet 51 W1 base (fun _ => True) (.slice (some ⟨g, 0, none⟩) 1 1) [x] :=
  ⟨fun _ _ => trivial, [.int .i64 x.dest, msgV x.msg], ⟨rfl, .inr ⟨g, 1, _, rfl, hg, hb, Nat.le_refl _, by decide, rfl, rfl⟩⟩, Rd.reps_cons (cs := []) (kLet_M x) rfl (Rd.reps_nil _ _)⟩
section
variable {c : Cfg} {base : Nat} {ρ : Nat → Own} {I : CoIds} {blk : Int → Nat} {S : Co} {W W1 : World}
/-- What a part's role keeps. -/
theorem CoAt.role_ne {k k' : Nat} {r r' : Own} (h : ρ k = r) (h' : ρ k' = r') (hne : r ≠ r') : k ≠ k' := by
  rintro rfl
  exact hne (h.symm.trans h')
/-- The time turns. -/
theorem CoAt.setNow (h : CoAt c base ρ I blk S W) (v : Int) : CoAt c base ρ I blk { S with now := v } (W.setCell ⟨I.x, 13, none⟩ (.int .i64 v)) := by
  obtain ⟨r0, r1, r2, r3, r4, r5, r6⟩ := h.roles
  obtain ⟨dv, hco, htold⟩ := h.co
  obtain ⟨fof, fat, hsl, hf1, hf2⟩ := h.sl
  obtain ⟨fq, hq, hq2⟩ := h.qs
  have at_ : ∀ k, ρ k ≠ .co 0 → (W.setCell ⟨I.x, 13, none⟩ (.int .i64 v)).heap[k]? = W.heap[k]? := fun k hk => Below.heap_setCell _ _ _ _ fun e => hk (e ▸ r0)
  have ne : ∀ {k : Nat} {r : Own}, ρ k = r → r ≠ .co 0 → ρ k ≠ .co 0 := fun h hr e => hr (h.symm.trans e)
  refine ⟨⟨dv, blk_put hco 13 _ rfl, htold.move fun k hk hr => at_ k ?_⟩, Kd.R_step h.cuts fun k hk hl => at_ k (ne hk (by simp)), Kd.R_step h.copies fun k hk hl => at_ k (ne hk (by simp)), (at_ _ (ne r1 (by simp))).trans h.tab,
    ⟨fof, fat, hsl.move (at_ _ (ne r2 (by simp))) (at_ _ (ne r4 (by simp))) (at_ _ (ne r5 (by simp))), hf1, hf2⟩, h.tim.move (at_ _ (ne r3 (by simp))) (fun k hk hr => at_ k (ne hr (by simp))), ⟨fq, hq.keep (at_ _ (ne r6 (by simp))), hq2⟩, fun s y hs hy => ?_, h.roles, fun k hk => ⟨(h.own k hk).1, by simpa [World.setCell] using (h.own k hk).2⟩, h.uniq, h.top, h.len, h.tin⟩
  · rcases hr with hr | ⟨i, hr⟩ <;> exact ne hr (by simp)
  · obtain ⟨g, gs, cap, tv, hQ⟩ := h.qat s y hs hy
    exact ⟨g, gs, cap, tv, hQ.move fun k hk hr => at_ k (by rcases hr with hr | hr | hr <;> exact ne hr (by simp))⟩
/-- The leases turn. -/
theorem CoAt.setLeases (h : CoAt c base ρ I blk S W) {L : Nat → Ls} (ho : Only (fun i => i = I.l) W W1) (hb : W1.heap[I.l]? = some (Tab c.wk c.le L)) : CoAt c base ρ I blk { S with L := L } W1 := by
  obtain ⟨r0, r1, r2, r3, r4, r5, r6⟩ := h.roles
  obtain ⟨dv, hco, htold⟩ := h.co
  obtain ⟨fof, fat, hsl, hf1, hf2⟩ := h.sl
  obtain ⟨fq, hq, hq2⟩ := h.qs
  have at_ : ∀ k r, k < W.heap.size → ρ k = r → r ≠ .co 1 → W1.heap[k]? = W.heap[k]? := fun k r hk hr hne => ho.block k hk fun e => hne (hr.symm.trans (e ▸ r1))
  have lt : ∀ {k : Nat} {r : Own}, ρ k = r → r ≠ .z → k < W.heap.size := fun {k r} hr hne => (h.own k (by rw [hr]; exact hne)).2
  have st : ∀ {k : Nat} {r : Own}, ρ k = r → r ≠ .z → r ≠ .co 1 → W1.heap[k]? = W.heap[k]? := fun hr h1 h2 => at_ _ _ (lt hr h1) hr h2
  refine ⟨⟨dv, (st r0 (by simp) (by simp)).trans hco, htold.move fun k hk hr => ?_⟩, Kd.R_step h.cuts fun k hk hl => at_ k _ hl hk (by simp), Kd.R_step h.copies fun k hk hl => at_ k _ hl hk (by simp), hb,
    ⟨fof, fat, hsl.move (st r2 (by simp) (by simp)) (st r4 (by simp) (by simp)) (st r5 (by simp) (by simp)), hf1, hf2⟩, h.tim.move (st r3 (by simp) (by simp)) (fun k hk hr => at_ k _ hk hr (by simp)), ⟨fq, hq.keep (st r6 (by simp) (by simp)), hq2⟩, fun s y hs hy => ?_, h.roles, fun k hk => ⟨(h.own k hk).1, Nat.lt_of_lt_of_le (h.own k hk).2 ho.size⟩, h.uniq, h.top, h.len, h.tin⟩
  · rcases hr with hr | ⟨i, hr⟩ <;> exact at_ k _ hk hr (by simp)
  · obtain ⟨g, gs, cap, tv, hQ⟩ := h.qat s y hs hy
    exact ⟨g, gs, cap, tv, hQ.move fun k hk hr => by rcases hr with hr | hr | hr <;> exact at_ k _ hk hr (by simp)⟩
end
theorem coord_New' (c : Cfg) (w : World) (hc : c.At w) (hm : c.May) :
    Calls Tryz.prog 15 #[c.val] w fun e w' => ∃ I ρ, e = .returned (.tuple #[.pointer (some ⟨I.x, 0, none⟩), .int .i64 0]) ∧ CoAt c w.heap.size ρ I (fun _ => 0) Co.new w' ∧ Below w.heap.size w w' := by
  refine (coord_New c w hc hm).mono ?_
  rintro e w' ⟨I, rfl, h, hb⟩
  obtain ⟨ρ, hρ⟩ := CoAt.of_new h hb.size
  exact ⟨I, ρ, rfl, hρ, hb⟩
theorem coord_Now (c : Cfg) (base : Nat) (ρ : Nat → Own) (I : CoIds) (blk : Int → Nat) (S : Co) (w : World) (h : CoAt c base ρ I blk S w) :
    Calls Tryz.prog 18 #[.pointer (some ⟨I.x, 0, none⟩)] w fun e w' => e = .returned (.int .i64 S.now) ∧ w' = w := by
  obtain ⟨dv, hco, _⟩ := h.co
  have c0 : w.cell? ⟨I.x, 13, none⟩ = some (.int .i64 S.now) := (blk_cell hco 13).trans rfl
  go_enter Tryz.func18, Tryz.ntmps18
  go_wp2
  go_ret
  exact ⟨rfl, rfl⟩
def tickN (n : Int) : Int := min (n + 1) 1099511627776
set_option maxRecDepth 100000 in
theorem coord_Tick (c : Cfg) (base : Nat) (ρ : Nat → Own) (I : CoIds) (blk : Int → Nat) (S : Co) (w : World) (h : CoAt c base ρ I blk S w) (h0 : 0 ≤ S.now) (h1 : S.now ≤ 1099511627776) :
    Calls Tryz.prog 23 #[.pointer (some ⟨I.x, 0, none⟩)] w fun e w' => e = .returned (.tuple #[]) ∧ CoAt c base ρ I blk { S with now := tickN S.now } w' ∧ Only (fun k => k = I.x) w w' := by
  obtain ⟨dv, hco, _⟩ := h.co
  have c0 : w.cell? ⟨I.x, 13, none⟩ = some (.int .i64 S.now) := (blk_cell hco 13).trans rfl
  have f0 := blk_frozen hco 13
  go_enter Tryz.func23, Tryz.ntmps23
  go_wp2
  go_end0
  exact ⟨rfl, h.setNow _, Only.setB _ _ _ _⟩
theorem coord_Epoch (c : Cfg) (base : Nat) (ρ : Nat → Own) (I : CoIds) (blk : Int → Nat) (S : Co) (k : Int) (w : World) (h : CoAt c base ρ I blk S w) (hm : c.May) :
    Calls Tryz.prog 34 #[.pointer (some ⟨I.x, 0, none⟩), .int .i64 k] w fun e w' => e = .returned (.int .i64 (if 1 ≤ k ∧ k ≤ c.wk then (S.L k.toNat).epoch else 0)) ∧ w' = w := by
  obtain ⟨⟨_, hk2⟩, _⟩ := hm.nums
  obtain ⟨dv, hco, _⟩ := h.co
  have c0 : w.cell? ⟨I.x, 14, none⟩ = some (.pointer (some ⟨I.l, 0, none⟩)) := (blk_cell hco 14).trans rfl
  have ht := h.tab
  by_cases hk : 1 ≤ k ∧ k ≤ c.wk
  · rw [if_pos hk]
    go_enter Tryz.func34, Tryz.ntmps34
    go_wp2_with (go_at_call 77; refine (lease_Epoch I.l c.wk c.le k S.L _ ht hk.1 hk.2 hk2).mono ?_; rintro e w1 ⟨rfl, hw⟩; obtain rfl := hw.symm)
    go_ret
    exact ⟨rfl, rfl⟩
  · rw [if_neg hk]
    go_enter Tryz.func34, Tryz.ntmps34
    go_wp2_with (go_at_call 77; refine (lease_Epoch_none I.l c.wk c.le k S.L _ ht (by omega)).mono ?_; rintro e w1 ⟨rfl, hw⟩; obtain rfl := hw.symm)
    go_ret
    exact ⟨rfl, rfl⟩
end Go.Proofs.YthbngidbfhcdaaaGreat.C
/- A query that is over. -/
namespace Go.Proofs.YthbngidbfhcdaaaGreat.C
open Go.RowKit Go.Maps Go.Proofs.YthbngidbfhcdaaaGreat.Mem Go.Proofs.YthbngidbfhcdaaaGreatW.PrintWords Go.Proofs.YthbngidbfhcdaaaGreat.PCoordScript
set_option linter.unusedVariables false
set_option linter.unusedSimpArgs false
def updQ (Q : Nat → Option Qy) (s : Nat) (v : Option Qy) : Nat → Option Qy := fun k => if k = s then v else Q k
/-- The timers, those of the first n shards of a slot taken off. -/
def clearT (T : Int → Option Int) (s n : Nat) : Int → Option Int := fun id => if 6 * (s : Int) ≤ id ∧ id < 6 * (s : Int) + n then none else T id
def Co.over (c : Cfg) (S : Co) (s : Nat) : Co := { S with T := clearT S.T s (c.cuts.length + 1), Q := updQ S.Q s none }
def stops (s : Nat) (id : Int) (k : Nat) : List LetD := (List.range k).map fun w : Nat => ⟨(w : Int) + 1, .stop s id⟩
theorem clearT_succ (T : Int → Option Int) (s n : Nat) : updT (clearT T s n) (6 * (s : Int) + n) none = clearT T s (n + 1) := by
  funext id
  unfold updT clearT
  by_cases h1 : id = 6 * (s : Int) + n
  · rw [if_pos h1, if_pos ⟨by omega, by omega⟩]
  · rw [if_neg h1]
    by_cases h2 : 6 * (s : Int) ≤ id ∧ id < 6 * (s : Int) + n
    · rw [if_pos h2, if_pos ⟨h2.1, by omega⟩]
    · rw [if_neg h2, if_neg (by omega)]
theorem clearT_zero (T : Int → Option Int) (s : Nat) : clearT T s 0 = T := by
  funext id
  unfold clearT
  rw [if_neg (by omega)]
theorem clearT_in {T : Int → Option Int} (h : InT T) (s n : Nat) : InT (clearT T s n) := fun id a ha => by
  unfold clearT at ha
  split at ha
  · cases ha
  · exact h id a ha
theorem coord_timerID (s k : Int) (w : World) (h0 : 0 ≤ s ∧ s ≤ 1000) (h1 : 0 ≤ k ∧ k ≤ 1000) :
    Calls Tryz.prog 112 #[.int .i64 s, .int .i64 k] w fun e w' => e = .returned (.int .i64 (6 * s + k)) ∧ w' = w := by
  go_enter Tryz.func112, Tryz.ntmps112
  go_wp2
  go_ret
  exact ⟨rfl, rfl⟩
theorem allCopies_len (c : Cfg) (n : Nat) : (c.allCopies n).length = n := by simp [Cfg.allCopies]
theorem stops_succ (s : Nat) (id : Int) (k : Nat) : stops s id (k + 1) = stops s id k ++ [⟨(k : Int) + 1, .stop s id⟩] := by simp [stops, List.range_succ]
theorem infoLet : (Tryz.prog.info? 51).map (fun i => (i.zero, i.size, i.bytes)) = some (some (.agg #[.int .i64 0, .nilIface]), 2, 24) := by kernel_rfl
/-- Behind what over does, in memory: timers, slots, the queries' map. -/
structure OverSt (c : Cfg) (base : Nat) (ρ : Nat → Own) (I : CoIds) (blk : Int → Nat) (S : Co) (s : Nat) (y : Qy) (w W : World) : Prop where
  tim : TmF W base (fun k => ρ k = .co 3) I.t (clearT S.T s (c.cuts.length + 1))
  sl : ∃ fof fat, SlAt W I.s I.a I.b c.sl S.last (S.live - 1) (upd fof y.id none) (upd fat s none) ∧ (∀ id, fof id = (S.slot id).map fun s : Nat => (s : Int)) ∧ ∀ k : Int, fat k = if 0 ≤ k ∧ k < 4 then (S.Q k.toNat).map fun y => y.id else none
  qs : ∃ fq, MapAt Tryz.prog 3 encP W I.m (S.live - 1) (upd fq y.id none) ∧ ∀ id, fq id = (S.slot id).map fun _ => blk id
  only : Only (fun k => ρ k = .co 3 ∨ ρ k = .co 2 ∨ ρ k = .co 4 ∨ ρ k = .co 5 ∨ ρ k = .co 6) w W
set_option maxRecDepth 100000 in
set_option maxHeartbeats 4000000 in
theorem coord_over (c : Cfg) (base : Nat) (ρ : Nat → Own) (I : CoIds) (blk : Int → Nat) (S : Co) (s : Nat) (y : Qy) (w : World) (h : CoAt c base ρ I blk S w) (hm : c.May) (hs : s < 4) (hy : S.Q s = some y) (hid : y.id ≤ 1000000) :
    Calls Tryz.prog 74 #[.pointer (some ⟨I.x, 0, none⟩), .pointer (some ⟨blk y.id, 0, none⟩)] w fun e w' => (∃ v, e = .returned v ∧ Kd.R kLet 51 w' w.heap.size (fun _ => True) v (stops s y.id c.wk.toNat)) ∧ OverSt c base ρ I blk S s y w w' := by
  obtain ⟨⟨hk1, hk2⟩, _⟩ := hm.nums
  have hcl := hm.2.1.1
  obtain ⟨dv, hco, _⟩ := h.co
  obtain ⟨g, gs, cap, tv, hQ⟩ := h.qat s y hs hy
  obtain ⟨r0, r1, r2, r3, r4, r5, r6⟩ := h.roles
  obtain ⟨Ac, cc, hcv⟩ := Kd.R_slice h.copies
  rw [allCopies_len] at hcv
  have HX : Aside0 (∀ W : World, (∀ k, k < w.heap.size → ρ k = .co 0 ∨ ρ k = .qb y.id → W.heap[k]? = w.heap[k]?) → W.heap[I.x]? = some (CoB (c.bare I.A1 I.c1) (.slice Ac (c.cuts.length + 1) cc) S.now (.pointer (some ⟨I.l, 0, none⟩)) (.pointer (some ⟨I.s, 0, none⟩)) (.pointer (some ⟨I.t, 0, none⟩)) (.map (some I.m)) dv) ∧ W.heap[blk y.id]? = some (QyB s y g)) :=
    ⟨fun W hW => ⟨by rw [← hcv]; exact (hW _ (blk_lt hco) (.inl r0)).trans hco, (hW _ (blk_lt hQ.box) (.inr hQ.bo)).trans hQ.box⟩⟩
  have H := Aside0.mk h
  have hs0 : (0 : Int) ≤ s ∧ (s : Int) ≤ 1000 := by omega
  have hin := Aside0.mk h.tin
  have hbas : base ≤ w.heap.size := by have := h.own I.x (by rw [r0]; simp); omega
  have hx0 := (HX.out w fun _ _ _ => rfl)
  have c12 : w.cell? ⟨I.x, 12, none⟩ = some (.slice Ac (c.cuts.length + 1) cc) := (blk_cell hx0.1 12).trans rfl
  have HR := Aside0.mk (And.intro r0 (And.intro r2 (And.intro r3 (And.intro r4 (And.intro r5 r6)))))
  clear h hco hQ hcv hx0 r0 r1 r2 r3 r4 r5 r6
  go_enter Tryz.func74, Tryz.ntmps74
  go_wp2
  go_loopw [13] (fun v wr => ∃ k : Nat, v = .int .i64 k ∧ k ≤ c.cuts.length + 1 ∧ Aside0 (TmF wr base (fun k => ρ k = .co 3) I.t (clearT S.T s k) ∧ Only (fun k => ρ k = .co 3) w wr)) (fun v _ => (c.cuts.length + 1) - (intOf v).toNat)
  case atStart => exact ⟨0, rfl, by omega, ⟨by rw [clearT_zero]; exact H.out.tim, Only.refl _ _⟩⟩
  case round =>
    obtain ⟨k, rfl, hk, HK⟩ := hrel
    have hxx := HX.out wr fun i hi hr => HK.out.2.block i hi (by rintro e; rcases hr with hr | hr <;> (rw [hr] at e; cases e))
    have HXX := Aside0.mk hxx
    rcases Nat.lt_or_ge k (c.cuts.length + 1) with hlt | hge
    · have hlt1 : decide (k < c.cuts.length + 1) = true := decide_eq_true hlt
      have hk0 : (0 : Int) ≤ k ∧ (k : Int) ≤ 1000 := by omega
      clear hxx c12
      go_upto_region 4 with fail
      (refine Mem.still_tail 10 (by kernel_rfl) (by kernel_rfl) (R := (fun V => TmF V base (fun k => ρ k = .co 3) I.t (clearT S.T s k) ∧ Only (fun k => ρ k = .co 3) w V ∧ V.cell? ⟨I.x, 16, none⟩ = some (.pointer (some ⟨I.t, 0, none⟩)) ∧ V.cell? ⟨blk y.id, 1, none⟩ = some (.int .i64 s))) ⟨HK.out.1.move rfl fun _ _ _ => rfl, HK.out.2.drew, (blk_cell HXX.out.1 16).trans rfl, (blk_cell HXX.out.2 1).trans rfl⟩ ?_)
      rintro V ⟨hT, hO, x16, y1⟩
      have HT := Aside0.mk hT
      have HO := Aside0.mk hO
      clear hT hO
      (simp only [List.take_succ_cons, List.take_zero, List.drop_succ_cons, List.drop_zero]; repeat still_step)
      still_call (coord_timerID _ _ _ hs0 hk0)
      repeat still_step
      refine wpStill_nil ?_
      go_wp2_with (go_at_call 111; refine (timer_Cancel base (fun k => ρ k = .co 3) I.t (clearT S.T s k) (6 * (s : Int) + k) _ HT.out (clearT_in hin.out s k)).mono ?_; rintro e w3 ⟨rfl, hT3, hO3⟩; rw [clearT_succ] at hT3; have HT3 := Aside0.mk hT3; have HO3 := Aside0.mk (HO.out.next (hO3.mono fun i _ hi => hi.elim (fun e => by rw [e]; exact HR.out.2.2.1) fun h => h)); clear hT3 hO3)
      exact ⟨⟨k + 1, by go_num, by omega, ⟨HT3.out, HO3.out⟩⟩, by simp [intOf]; omega⟩
    · obtain rfl : k = c.cuts.length + 1 := by omega
      have hlt1 : decide (c.cuts.length + 1 < c.cuts.length + 1) = false := by simp
      clear hxx c12
      go_upto_region 6 with fail
      (refine Mem.still_tail 8 (by kernel_rfl) (by kernel_rfl) (R := (fun V => (TmF V base (fun k => ρ k = .co 3) I.t (clearT S.T s (c.cuts.length + 1)) ∧ Only (fun k => ρ k = .co 3) w V) ∧ V.cell? ⟨I.x, 15, none⟩ = some (.pointer (some ⟨I.s, 0, none⟩)) ∧ V.cell? ⟨blk y.id, 0, none⟩ = some (.int .i64 y.id))) ⟨⟨HK.out.1.move rfl fun _ _ _ => rfl, HK.out.2.drew⟩, (blk_cell HXX.out.1 15).trans rfl, (blk_cell HXX.out.2 0).trans rfl⟩ ?_)
      rintro V ⟨hTO, x15, y0⟩
      have HTO := Aside0.mk hTO
      obtain ⟨fof, fat, hsl, hf1, hf2⟩ := H.out.sl
      have rl := HR.out
      have no3 : ∀ {k : Nat} {r : Own}, ρ k = r → r ≠ .co 3 → r ≠ .z → V.heap[k]? = w.heap[k]? := fun {k r} hr h1 h2 => hTO.2.block k (H.out.own k (by rw [hr]; exact h2)).2 fun e => h1 (hr.symm.trans e)
      have hslV := Aside0.mk (hsl.move (no3 rl.2.1 (by simp) (by simp)) (no3 rl.2.2.2.1 (by simp) (by simp)) (no3 rl.2.2.2.2.1 (by simp) (by simp)))
      have hfy : fof y.id = some (s : Int) := by rw [hf1, slot_of H.out.uniq hs hy]; rfl
      have hfs : (fat (s : Int)).isSome = true := by rw [hf2, if_pos ⟨by omega, by omega⟩, Int.toNat_natCast, hy]; rfl
      have hidlo := (H.out.top s y hy).2.1
      have HFY := Aside0.mk hfy
      have HFS := Aside0.mk hfs
      have HF1 := Aside0.mk hf1
      have HF2 := Aside0.mk hf2
      clear hTO hsl hf1 hf2 no3 hfy hfs rl
      (simp only [List.take_succ_cons, List.take_zero, List.drop_succ_cons, List.drop_zero]; repeat still_step)
      refine wpStill_nil ?_
      go_wp2_with (go_at_call 124; refine (slots_Free I.s I.a I.b c.sl S.last S.live fof fat y.id s _ hslV.out (wf_i64 (by omega) (by omega)) (wf_i64 (by omega) (by omega)) HFY.out HFS.out).mono ?_; rintro e w5 ⟨rfl, hs5, ho5⟩; have HS5 := Aside0.mk hs5; have HO5 := Aside0.mk ho5; clear hs5 ho5)
      refine Rd.gen_wp (R := fun V5 => SlAt V5 I.s I.a I.b c.sl S.last (S.live - 1) (upd fof y.id none) (upd fat s none) ∧ Only (fun i => i = I.a ∨ i = I.b) V V5) ⟨HS5.out, HO5.out⟩ ?_
      clear HS5 HO5
      rintro V5 ⟨hs5, ho5⟩
      have rl := HR.out
      have hO : Only (fun k => ρ k = .co 3 ∨ ρ k = .co 4 ∨ ρ k = .co 5) w V5 := (HTO.out.2.mono fun i _ hi => .inl hi).next (ho5.mono fun i _ hi => by rcases hi with rfl | rfl; exact .inr (.inl rl.2.2.2.1); exact .inr (.inr rl.2.2.2.2.1))
      have hT5 : TmF V5 base (fun k => ρ k = .co 3) I.t (clearT S.T s (c.cuts.length + 1)) := HTO.out.1.move (ho5.block _ (Nat.lt_of_lt_of_le (H.out.own I.t (by rw [rl.2.2.1]; simp)).2 HTO.out.2.size) (by rintro (e | e) <;> (have := congrArg ρ e; rw [rl.2.2.1] at this; first | (rw [rl.2.2.2.1] at this; cases this) | (rw [rl.2.2.2.2.1] at this; cases this)))) fun k hk hr => ho5.block k hk (by rintro (e | e) <;> (subst e; first | (rw [rl.2.2.2.1] at hr; cases hr) | (rw [rl.2.2.2.2.1] at hr; cases hr)))
      obtain ⟨fq, hq, hq2⟩ := H.out.qs
      have hfqy : (fq y.id).isSome = true := by rw [hq2, slot_of H.out.uniq hs hy]; rfl
      have hq5 : MapAt Tryz.prog 3 encP V5 I.m S.live fq := hq.keep (hO.block _ (H.out.own I.m (by rw [rl.2.2.2.2.2]; simp)).2 (by rw [rl.2.2.2.2.2]; simp))
      have hxx5 := HX.out V5 fun i hi hr => hO.block i hi (by rcases hr with hr | hr <;> (rw [hr]; simp))
      have HQ5 := Aside0.mk hq5
      have HS5 := Aside0.mk hs5
      have HO5 := Aside0.mk hO
      have HT5 := Aside0.mk hT5
      have HX5 := Aside0.mk hxx5
      have HQ2 := Aside0.mk hq2
      have HNQ := Aside0.mk hfqy
      clear hs5 ho5 hO hT5 hq hfqy hq2 hq5 hxx5 rl x15 y0
      go_upto_region 7 with fail
      (refine Mem.still_tail 8 (by kernel_rfl) (by kernel_rfl) (R := (fun V => (Below V5.heap.size V5 V) ∧ V.cell? ⟨I.x, 17, none⟩ = some (.map (some I.m)) ∧ V.cell? ⟨blk y.id, 0, none⟩ = some (.int .i64 y.id))) ⟨below_drew1 (Below.refl _ _), (blk_cell HX5.out.1 17).trans rfl, (blk_cell HX5.out.2 0).trans rfl⟩ ?_)
      rintro V6 ⟨hb6, x18, y0⟩
      obtain ⟨V7, hr7, hm7, hg7⟩ := (HQ5.out.keep (hb6.block _ HQ5.out.lt)).del lawK Tryz.underlying114 Tryz.underlying3 (wf_i64 (n := y.id) (by omega) (by omega)) 0
      have hO7 : Only (fun k => ρ k = .co 3 ∨ ρ k = .co 2 ∨ ρ k = .co 4 ∨ ρ k = .co 5 ∨ ρ k = .co 6) w V7 := ((HO5.out.mono fun i _ hi => hi.elim .inl fun h => .inr (.inr (h.elim .inl fun h => .inr (.inl h)))).next (Only.fresh hb6 _)).next (Only.grown hg7 fun i hi _ => by cases hi; exact .inr (.inr (.inr (.inr HR.out.2.2.2.2.2))))
      have rl := HR.out
      have hm5 : ∀ {k : Nat} {r : Own}, ρ k = r → r ≠ .co 6 → r ≠ .z → V7.heap[k]? = V5.heap[k]? := fun {k r} hr h1 h2 => (hg7.block k (Nat.lt_of_lt_of_le (Nat.lt_of_lt_of_le (H.out.own k (by rw [hr]; exact h2)).2 HO5.out.size) hb6.size) (fun e => by cases e; exact h1 (hr.symm.trans rl.2.2.2.2.2))).trans (hb6.block k (Nat.lt_of_lt_of_le (H.out.own k (by rw [hr]; exact h2)).2 HO5.out.size))
      have HOV : Aside0 (OverSt c base ρ I blk S s y w V7) := ⟨⟨HT5.out.move (hm5 rl.2.2.1 (by simp) (by simp)) fun k hk hr => hm5 hr (by simp) (by simp),
        ⟨fof, fat, HS5.out.move (hm5 rl.2.1 (by simp) (by simp)) (hm5 rl.2.2.2.1 (by simp) (by simp)) (hm5 rl.2.2.2.2.1 (by simp) (by simp)), HF1.out, HF2.out⟩, ⟨fq, by rw [HNQ.out] at hm7; exact hm7, HQ2.out⟩, hO7⟩⟩
      have hx7 := HX.out V7 fun i hi hr => hO7.block i hi (by rcases hr with hr | hr <;> (rw [hr]; simp))
      have HX7 := Aside0.mk hx7
      have x2 : V7.cell? ⟨I.x, 2, none⟩ = some (.int .i64 c.wk) := (blk_cell hx7.1 2).trans rfl
      clear hm5 hm7 hg7 hO7 rl hb6 HT5 HS5 HQ5 HX5 HO5 hx7
      (simp only [List.take_succ_cons, List.take_zero, List.drop_succ_cons, List.drop_zero]; repeat still_step)
      refine wpStill_nil ?_
      go_wp2
      obtain ⟨n, hn⟩ := Int.eq_ofNat_of_zero_le (show 0 ≤ c.wk by omega)
      have hn5 : n ≤ 5 := by omega
      have e7 : c.wk.toNat = n := by omega
      have HE7 := Aside0.mk e7
      have hwB : w.heap.size ≤ V7.heap.size := HOV.out.only.size
      have hbx := Aside0.mk (HX7.out.2)
      have hbl := blk_lt HX7.out.2
      rw [hn] at x2 ⊢
      clear HX7 e7 x2 hn
      go_loopw [6, 50] (fun v6 v wr => ∃ k : Nat, v = .int .i64 k ∧ k ≤ n ∧ Aside0 (Kd.R kLet 51 wr V7.heap.size (fun _ => True) v6 (stops s y.id k) ∧ Below V7.heap.size V7 wr)) (fun _ v _ => n - (intOf v).toNat)
      case atStart => exact ⟨0, rfl, by omega, ⟨Kd.R_nil _ _ _ _ _, Below.refl _ _⟩⟩
      case round =>
        obtain ⟨q, rfl, hq, HK⟩ := hrel
        have hrr := HK.out.1
        obtain ⟨A6, c6, hv6⟩ := Kd.R_slice hrr
        subst hv6
        have HR6 := Aside0.mk hrr
        have HB6 := Aside0.mk HK.out.2
        have hlen : (stops s y.id q).length = q := by simp [stops]
        have hlen2 : ((stops s y.id q).length + 1) * 24 ≤ 140737488355328 := by omega
        have HN : Aside0 (stops s y.id (q + 1) = stops s y.id q ++ [⟨(q : Int) + 1, .stop s y.id⟩]) := ⟨stops_succ _ _ _⟩
        clear HK hrr hlen
        rcases Nat.lt_or_ge q n with hlt | hge
        · have hlt1 : decide (q < n) = true := decide_eq_true hlt
          have z0 : wr.cell? ⟨blk y.id, 0, none⟩ = some (.int .i64 y.id) := (blk_cell (blk_below hbx.out HB6.out) 0).trans rfl
          have z1 : wr.cell? ⟨blk y.id, 1, none⟩ = some (.int .i64 s) := (blk_cell (blk_below hbx.out HB6.out) 1).trans rfl
          have hbs : V7.heap.size ≤ wr.heap.size := HB6.out.size
          generalize stops s y.id q = ls at *
          have hw1 : IntKind.i64.wrap ((q : Int) + 1) = (q : Int) + 1 := IntWalk.i64_in _ (by omega)
          go_upto_region 12 with fail
          go_region_law (refine Kd.R_append_step (W := wr.drew) kLet (w0 := V7) V7.heap.size rfl (.tmp 53) (.tmp 67) 33 51 (.agg #[.int .i64 0, .nilIface]) 24 rfl Tryz.underlying33 infoLet rfl (by decide) (by decide) (.slice A6 ls.length c6) ls ⟨(q : Int) + 1, .stop s y.id⟩ [.int .i64 ((q : Int) + 1), .iface 87 (.agg #[.int .i64 s, .int .i64 y.id])] (fun _ => True) (fun _ => False) rfl rfl (kLet_M ⟨(q : Int) + 1, .stop s y.id⟩) (fun _ h => h.elim) (fun _ _ => trivial) (Kd.R_drew HR6.out) (below_drew1 HB6.out) hbs hlen2 ?_; intro v9 w9 hr9 hb9 hg9 _; have HR9 := Aside0.mk hr9; have HB9 := Aside0.mk hb9; clear hr9 hb9 hg9)
          all_goals
            go_wp2
            exact ⟨⟨q + 1, by go_num, by omega, ⟨by rw [HN.out]; exact HR9.out, HB9.out⟩⟩, by simp [intOf]; omega⟩
        · obtain rfl : q = n := by omega
          have hlt1 : decide (q < q) = false := by simp
          go_wp2
          go_ret
          have hov := HOV.out
          refine ⟨⟨_, rfl, by rw [HE7.out]; exact Kd.R_lower HR6.out hwB⟩, hov.tim.move (HB6.out.block _ (by obtain ⟨l, ⟨v, h1, _⟩, _⟩ := hov.tim; exact blk_lt h1)) (fun k hk _ => HB6.out.block k hk), ?_, ?_, hov.only.next (Only.fresh HB6.out _)⟩
          · obtain ⟨fof, fat, h1, h2, h3⟩ := hov.sl
            exact ⟨fof, fat, h1.fresh HB6.out, h2, h3⟩
          · obtain ⟨fq, h1, h3⟩ := hov.qs
            exact ⟨fq, h1.keep (HB6.out.block _ h1.lt), h3⟩
end Go.Proofs.YthbngidbfhcdaaaGreat.C
/- A coordinator, a query over. -/
namespace Go.Proofs.YthbngidbfhcdaaaGreat.C
open Go.RowKit Go.Maps Go.Proofs.YthbngidbfhcdaaaGreat.Mem Go.Proofs.YthbngidbfhcdaaaGreatW.PrintWords Go.Proofs.YthbngidbfhcdaaaGreat.PCoordScript
set_option linter.unusedVariables false
set_option linter.unusedSimpArgs false
theorem slot_iff {Q : Nat → Option Qy} (hu : Uniq Q) (id : Int) (r : Nat) : slotN Q id 4 = some r ↔ r < 4 ∧ ∃ y, Q r = some y ∧ y.id = id := by
  constructor
  · exact slotN_some
  · rintro ⟨hr, y, hy, rfl⟩
    exact slot_of (S := ⟨0, fun _ => ⟨0, 0, 0⟩, 0, Q, fun _ => none, []⟩) hu hr hy
theorem Uniq.none {Q : Nat → Option Qy} (hu : Uniq Q) (s : Nat) : Uniq (updQ Q s none) := by
  intro a b y y' ha hb hy hy' he
  unfold updQ at hy hy'
  by_cases h1 : a = s
  · rw [if_pos h1] at hy; cases hy
  · by_cases h2 : b = s
    · rw [if_pos h2] at hy'; cases hy'
    · rw [if_neg h1] at hy
      rw [if_neg h2] at hy'
      exact hu a b y y' ha hb hy hy' he
theorem slot_none {Q : Nat → Option Qy} (hu : Uniq Q) {s : Nat} {y : Qy} (hs : s < 4) (hy : Q s = some y) (id : Int) : slotN (updQ Q s none) id 4 = if id = y.id then none else slotN Q id 4 := by
  refine Option.ext fun r => ?_
  rw [slot_iff (hu.none s)]
  by_cases he : id = y.id
  · rw [if_pos he]
    refine ⟨?_, fun h => by cases h⟩
    rintro ⟨hr, z, hz, hzi⟩
    exfalso
    unfold updQ at hz
    by_cases h1 : r = s
    · rw [if_pos h1] at hz; cases hz
    · rw [if_neg h1] at hz
      exact h1 (hu r s z y hr hs hz hy (hzi.trans he))
  · rw [if_neg he, slot_iff hu]
    constructor
    · rintro ⟨hr, z, hz, hzi⟩
      refine ⟨hr, z, ?_, hzi⟩
      unfold updQ at hz
      by_cases h1 : r = s
      · rw [if_pos h1] at hz; cases hz
      · rwa [if_neg h1] at hz
    · rintro ⟨hr, z, hz, hzi⟩
      refine ⟨hr, z, ?_, hzi⟩
      unfold updQ
      rw [if_neg, hz]
      rintro rfl
      rw [hy] at hz
      cases hz
      exact he hzi.symm
theorem live_out (Q : Nat → Option Qy) (s : Nat) (v : Option Qy) : ∀ k, k ≤ s → liveN (updQ Q s v) k = liveN Q k
  | 0, _ => rfl
  | k + 1, h => by
    have e : updQ Q s v k = Q k := by unfold updQ; rw [if_neg (show ¬ k = s by omega)]
    unfold liveN
    rw [live_out Q s v k (by omega), e]
theorem live_in (Q : Nat → Option Qy) (s : Nat) (v : Option Qy) : ∀ k, s < k → liveN (updQ Q s v) k + (if (Q s).isSome then 1 else 0) = liveN Q k + (if v.isSome then 1 else 0)
  | 0, h => by omega
  | k + 1, h => by
    unfold liveN
    by_cases hk : s = k
    · subst hk
      rw [live_out Q s v s (Nat.le_refl _)]
      have e : updQ Q s v s = v := by unfold updQ; rw [if_pos rfl]
      rw [e]
      omega
    · have := live_in Q s v k (by omega)
      have e : updQ Q s v k = Q k := by unfold updQ; rw [if_neg (Ne.symm hk)]
      rw [e]
      omega
theorem CoAt.over_done {c : Cfg} {base : Nat} {ρ : Nat → Own} {I : CoIds} {blk : Int → Nat} {S : Co} {s : Nat} {y : Qy} {w W : World} (h : CoAt c base ρ I blk S w) (ho : OverSt c base ρ I blk S s y w W) (hs : s < 4) (hy : S.Q s = some y) : CoAt c base ρ I blk (S.over c s) W := by
  obtain ⟨r0, r1, r2, r3, r4, r5, r6⟩ := h.roles
  obtain ⟨dv, hco, htold⟩ := h.co
  have st : ∀ k (r : Own), k < w.heap.size → ρ k = r → r ≠ .co 3 → r ≠ .co 2 → r ≠ .co 4 → r ≠ .co 5 → r ≠ .co 6 → W.heap[k]? = w.heap[k]? := fun k r hk hr h1 h2 h3 h4 h5 => ho.only.block k hk (by rw [hr]; simp [h1, h2, h3, h4, h5])
  have lt : ∀ {k : Nat} {r : Own}, ρ k = r → r ≠ .z → k < w.heap.size := fun {k r} hr hne => (h.own k (by rw [hr]; exact hne)).2
  refine ⟨⟨dv, (st _ _ (lt r0 (by simp)) r0 (by simp) (by simp) (by simp) (by simp) (by simp)).trans hco, htold.move fun k hk hr => ?_⟩, Kd.R_step h.cuts fun k hk hl => st k _ hl hk (by simp) (by simp) (by simp) (by simp) (by simp), Kd.R_step h.copies fun k hk hl => st k _ hl hk (by simp) (by simp) (by simp) (by simp) (by simp), (st _ _ (lt r1 (by simp)) r1 (by simp) (by simp) (by simp) (by simp) (by simp)).trans h.tab,
    ?_, ho.tim, ?_, fun s' y' hs' hy' => ?_, h.roles, fun k hk => ⟨(h.own k hk).1, Nat.lt_of_lt_of_le (h.own k hk).2 ho.only.size⟩, h.uniq.none s, fun s' y' hy' => ?_, h.len, clearT_in h.tin _ _⟩
  · rcases hr with hr | ⟨i, hr⟩ <;> exact st k _ hk hr (by simp) (by simp) (by simp) (by simp) (by simp)
  · obtain ⟨fof, fat, hsl, hf1, hf2⟩ := ho.sl
    have hlv : (S.over c s).live = S.live - 1 := by
      have := live_in S.Q s none 4 hs
      rw [hy] at this
      simp at this
      show liveN (updQ S.Q s none) 4 = liveN S.Q 4 - 1
      omega
    refine ⟨_, _, by rw [hlv]; exact hsl, fun id => ?_, fun k => ?_⟩
    · show upd fof y.id none id = (slotN (updQ S.Q s none) id 4).map _
      rw [slot_none h.uniq hs hy]
      unfold upd
      by_cases he : id = y.id
      · rw [if_pos he, if_pos he]; rfl
      · rw [if_neg he, if_neg he]; exact hf1 id
    · show upd fat (s : Int) none k = if 0 ≤ k ∧ k < 4 then (updQ S.Q s none k.toNat).map _ else none
      unfold upd updQ
      by_cases he : k = (s : Int)
      · subst he
        rw [if_pos rfl, Int.toNat_natCast, if_pos rfl]
        split <;> rfl
      · rw [if_neg he, hf2 k]
        by_cases hk : 0 ≤ k ∧ k < 4
        · rw [if_pos hk, if_pos hk, if_neg (by omega)]
        · rw [if_neg hk, if_neg hk]
  · obtain ⟨fq, hq, hq2⟩ := ho.qs
    have hlv : (S.over c s).live = S.live - 1 := by
      have := live_in S.Q s none 4 hs
      rw [hy] at this
      simp at this
      show liveN (updQ S.Q s none) 4 = liveN S.Q 4 - 1
      omega
    refine ⟨_, by rw [hlv]; exact hq, fun id => ?_⟩
    show upd fq y.id none id = (slotN (updQ S.Q s none) id 4).map _
    rw [slot_none h.uniq hs hy]
    unfold upd
    by_cases he : id = y.id
    · rw [if_pos he, if_pos he]; rfl
    · rw [if_neg he, if_neg he]; exact hq2 id
  · have h1 : s' ≠ s := by
      rintro rfl
      have : updQ S.Q s' none s' = some y' := hy'
      unfold updQ at this
      rw [if_pos rfl] at this
      cases this
    have h2 : S.Q s' = some y' := by
      have : updQ S.Q s none s' = some y' := hy'
      unfold updQ at this
      rwa [if_neg h1] at this
    obtain ⟨g, gs, cap, tv, hQ⟩ := h.qat s' y' hs' h2
    exact ⟨g, gs, cap, tv, hQ.move fun k hk hr => by rcases hr with hr | hr | hr <;> exact st k _ hk hr (by simp) (by simp) (by simp) (by simp) (by simp)⟩
  · have : updQ S.Q s none s' = some y' := hy'
    unfold updQ at this
    split at this
    · cases this
    · exact h.top s' y' this
end Go.Proofs.YthbngidbfhcdaaaGreat.C
/- merge.Tell, walked. -/
namespace Go.Proofs.YthbngidbfhcdaaaGreat.C
open Go.RowKit Go.Maps Go.Proofs.YthbngidbfhcdaaaGreat.Mem Go.Proofs.YthbngidbfhcdaaaGreatW.PrintWords Go.Proofs.YthbngidbfhcdaaaGreat.PCoordScript
set_option linter.unusedVariables false
set_option linter.unusedSimpArgs false
def sliceLen : Value → Nat
  | .slice _ n _ => n
  | _ => 0
/-- So far: the rest comes to what the whole does. -/
def TellGoes (M0 : Mg) (acc : List S46) (M : Mg) : Prop := acc ++ (M.tellN M.left).1 = M0.tell.1 ∧ (M.tellN M.left).2 = M0.tell.2 ∧ acc.length + M.left = M0.left ∧ M.sh.length = M0.sh.length
theorem TellGoes.start (M : Mg) : TellGoes M [] M := ⟨rfl, rfl, by simp, rfl⟩
theorem TellGoes.tells {M0 M : Mg} {acc : List S46} (h : TellGoes M0 acc M) {i : Nat} (hn : M.next = some i) : TellGoes M0 (acc ++ [head (rd_T172 M.sh i)]) (M.tells i) := by
  obtain ⟨h1, h2, h3, h4⟩ := h
  obtain ⟨hi, hw⟩ := Mg.next_some hn
  have hl := M.left_tells i hi hw
  rw [← hl, Mg.tellN_some hn] at h1 h2
  refine ⟨?_, h2, ?_, ?_⟩
  · rw [List.append_assoc]
    exact h1
  · rw [List.length_append, List.length_singleton]
    omega
  · show (M.sh.set i _).length = _
    rw [List.length_set]
    exact h4
theorem TellGoes.ends {M0 M : Mg} {acc : List S46} (h : TellGoes M0 acc M) (hn : M.next = none) : acc = M0.tell.1 ∧ M = M0.tell.2 := by
  obtain ⟨h1, h2, _, _⟩ := h
  rw [Mg.tellN_none hn] at h1 h2
  rw [List.append_nil] at h1
  exact ⟨h1, h2⟩
theorem next_done {M : Mg} (h : M.done = true) : M.next = none := by unfold Mg.next; rw [if_pos h]
theorem next_ahead {M : Mg} (h : M.done = false) (ha : M.ahead = none) : M.next = none := by unfold Mg.next; rw [if_neg (by simp [h]), ha]
theorem next_any {M : Mg} (h : M.done = false) {i : Nat} (ha : M.ahead = some i) (hb : (M.sh.any fun o => mightB o (head (rd_T172 M.sh i))) = true) : M.next = none := by unfold Mg.next; rw [if_neg (by simp [h]), ha]; simp [hb]
theorem next_goes {M : Mg} (h : M.done = false) {i : Nat} (ha : M.ahead = some i) (hb : (M.sh.any fun o => mightB o (head (rd_T172 M.sh i))) = false) : M.next = some i := by unfold Mg.next; rw [if_neg (by simp [h]), ha]; simp [hb]
set_option maxRecDepth 100000 in
set_option maxHeartbeats 4000000 in
theorem merge_Tell (base : Nat) (okM okW : Nat → Prop) (g gs cap : Nat) (tv : Value) (M : Mg) (w : World) (h : MgAt w base okM okW g gs cap tv M) (hW : ∀ k, okW k → k < w.heap.size) (hWM : ∀ k, okW k → ¬ okM k) (hl : M.sh.length ≤ 6) (hM : M.left ≤ 1000) (hT : M.told.length ≤ 1000) (hba : base ≤ w.heap.size) :
    Calls Tryz.prog 113 #[.pointer (some ⟨g, 0, none⟩)] w fun e w' => ∃ v tv1, e = .returned v ∧ TellSt w w' base okM okW g gs cap v tv1 M.tell.1 M.tell.2 := by
  have HS : Aside0 (TellSt w w base okM okW g gs cap (.slice none 0 0) tv [] M) := ⟨⟨⟨h.box, h.rows, R46_ok h.told fun k hk => .inr hk.symm, .inl h.gok, .inl h.vok⟩, Kd.R_nil _ _ _ _ _, Only.refl _ _, ⟨blk_lt h.box, by obtain ⟨cur, hc⟩ := h.blk; exact blk_lt hc, h.gok, h.vok⟩, fun k hk => .inl (h.told.1 k hk)⟩⟩
  clear h
  go_enter Tryz.func113, Tryz.ntmps113
  go_wp2
  go_loopw [3] (fun v wr => Aside0 (∃ tv1 acc M1, TellSt w wr base okM okW g gs cap v tv1 acc M1 ∧ TellGoes M acc M1 ∧ M1.told.length = M.told.length + acc.length)) (fun v _ => M.left - sliceLen v)
  case atStart => exact ⟨_, _, _, HS.out, TellGoes.start M, by simp⟩
  case round =>
    obtain ⟨tv1, acc, M1, hS, hG, hlen⟩ := hrel.out
    clear HS hrel
    have hsl1 := hG.2.2.2
    obtain ⟨A3, c3, hv3⟩ := Kd.R_slice hS.l
    subst hv3
    obtain ⟨TA, tc, htv⟩ := Kd.R_slice hS.mg.told
    subst htv
    have H := Aside0.mk hS
    have HG := Aside0.mk hG
    have HL := Aside0.mk hlen
    clear hS hG hlen
    have hl1 : M1.sh.length ≤ 6 := by omega
    clear hsl1
    rcases Mem.bool_or M1.done with hd | hd
    · have hd' : doneB M1.n M1.told.length M1.sh = true := hd
      go_wp2_with (go_at_call 114; refine (merge_Done g M1.n (some ⟨gs, 0, none⟩) cap M1.sh TA M1.told.length tc _ H.out.mg.box H.out.mg.reads H.out.mg.len hl1).mono ?_; rintro e w1 ⟨rfl, hb⟩; have H1 := Aside0.mk (H.out.step hb); clear hb)
      go_ret
      obtain ⟨e1, e2⟩ := HG.out.ends (next_done hd)
      rw [← e1, ← e2]
      exact ⟨_, _, rfl, H1.out⟩
    · have hd' : doneB M1.n M1.told.length M1.sh = false := hd
      cases ha : M1.ahead with
      | none =>
        have HA := Aside0.mk ha
        clear ha
        go_wp2_with (first
          | (go_at_call 114; refine (merge_Done g M1.n (some ⟨gs, 0, none⟩) cap M1.sh TA M1.told.length tc _ H.out.mg.box H.out.mg.reads H.out.mg.len hl1).mono ?_; rintro e w1 ⟨rfl, hb⟩; have H1 := Aside0.mk (H.out.step hb); clear hb)
          | (go_at_call 166; refine (merge_ahead _ base _ okW g gs cap _ M1 H1.out.mg hl1).mono ?_; rintro e w2 ⟨rfl, hb⟩; have H2 := Aside0.mk (H1.out.step hb); clear hb; rw [HA.out]))
        go_ret
        obtain ⟨e1, e2⟩ := HG.out.ends (next_ahead hd HA.out)
        rw [← e1, ← e2]
        exact ⟨_, _, rfl, H2.out.step (below_alloc (Below.refl _ _) _)⟩
      | some i =>
        have HA := Aside0.mk ha
        obtain ⟨hi, hwi⟩ := aheadN_lt ha
        have hpos : 0 < (rd_T172 M1.sh i).f5.length := of_decide_eq_true hwi
        clear ha
        rcases Mem.bool_or (M1.sh.any fun o => mightB o (head (rd_T172 M1.sh i))) with hb | hb
        · go_wp2_with (first
            | (go_at_call 114; refine (merge_Done g M1.n (some ⟨gs, 0, none⟩) cap M1.sh TA M1.told.length tc _ H.out.mg.box H.out.mg.reads H.out.mg.len hl1).mono ?_; rintro e w1 ⟨rfl, hb⟩; have H1 := Aside0.mk (H.out.step hb); clear hb)
            | (go_at_call 166; refine (merge_ahead _ base _ okW g gs cap _ M1 H1.out.mg hl1).mono ?_; rintro e w2 ⟨rfl, hb⟩; have H2 := Aside0.mk (H1.out.step hb); have lg := blk_lt H2.out.mg.box; have c1 : w2.cell? ⟨g, 1, none⟩ = some (shSl gs M1.sh.length cap) := (blk_cell H2.out.mg.box 1).trans rfl; clear hb; rw [HA.out]; have hb3 : Below w2.heap.size w2 (w2.alloc (.cells #[ptrSh gs (some i)] 257 (0, 0))) := below_alloc (Below.refl _ _) _; have H3 := Aside0.mk (H2.out.step hb3); have HP : Aside0 ((w2.alloc (.cells #[ptrSh gs (some i)] 257 (0, 0))).cell? ⟨w2.heap.size, 0, none⟩ = some (.pointer (some ⟨gs, i * 7, none⟩))) := ⟨(blk_cell (blk_new _ _) 0).trans rfl⟩; obtain ⟨ad, c, z6, z0, z1⟩ := H3.out.mg.first i hi hwi; have y6 := Aside0.mk z6; have y0 := Aside0.mk z0; have y1 := Aside0.mk z1; clear z6 z0 z1 hb3)
            | (go_at_call 167; refine (tell_contains (some ⟨gs, 0, none⟩) cap M1.sh _ gs (i * 7) _ _ _ (head (rd_T172 M1.sh i)) _ H3.out.mg.reads H3.out.mg.len hl1 HP.out y6.out hpos y0.out y1.out).mono ?_; rintro e w4 ⟨rfl, hbb⟩; have H4 := Aside0.mk (H3.out.step hbb); clear hbb))
          go_ret
          obtain ⟨e1, e2⟩ := HG.out.ends (next_any hd HA.out hb)
          rw [← e1, ← e2]
          exact ⟨_, _, rfl, H4.out⟩
        · go_upto_region 7 with (first
            | (go_at_call 114; refine (merge_Done g M1.n (some ⟨gs, 0, none⟩) cap M1.sh TA M1.told.length tc _ H.out.mg.box H.out.mg.reads H.out.mg.len hl1).mono ?_; rintro e w1 ⟨rfl, hb⟩; have H1 := Aside0.mk (H.out.step hb); clear hb)
            | (go_at_call 166; refine (merge_ahead _ base _ okW g gs cap _ M1 H1.out.mg hl1).mono ?_; rintro e w2 ⟨rfl, hb⟩; have H2 := Aside0.mk (H1.out.step hb); have lg := blk_lt H2.out.mg.box; have c1 : w2.cell? ⟨g, 1, none⟩ = some (shSl gs M1.sh.length cap) := (blk_cell H2.out.mg.box 1).trans rfl; clear hb; rw [HA.out]; have hb3 : Below w2.heap.size w2 (w2.alloc (.cells #[ptrSh gs (some i)] 257 (0, 0))) := below_alloc (Below.refl _ _) _; have H3 := Aside0.mk (H2.out.step hb3); have HP : Aside0 ((w2.alloc (.cells #[ptrSh gs (some i)] 257 (0, 0))).cell? ⟨w2.heap.size, 0, none⟩ = some (.pointer (some ⟨gs, i * 7, none⟩))) := ⟨(blk_cell (blk_new _ _) 0).trans rfl⟩; obtain ⟨ad, c, z6, z0, z1⟩ := H3.out.mg.first i hi hwi; have y6 := Aside0.mk z6; have y0 := Aside0.mk z0; have y1 := Aside0.mk z1; clear z6 z0 z1 hb3)
            | (go_at_call 167; refine (tell_contains (some ⟨gs, 0, none⟩) cap M1.sh _ gs (i * 7) _ _ _ (head (rd_T172 M1.sh i)) _ H3.out.mg.reads H3.out.mg.len hl1 HP.out y6.out hpos y0.out y1.out).mono ?_; rintro e w4 ⟨rfl, hbb⟩; have H4 := Aside0.mk (H3.out.step hbb); have HPB := Aside0.mk (blk_below (blk_new w2 (.cells #[ptrSh gs (some i)] 257 (0, 0))) hbb); clear hbb))
          clear y6 y0 y1 HP H3 H2 H1 H c1 lg
          have hlenA : (acc.length + 1) * 24 ≤ 140737488355328 := by have := HG.out.2.2.1; omega
          have hlenT : (M1.told.length + 1) * 24 ≤ 140737488355328 := by have := HG.out.2.2.1; have := HL.out; omega
          have hpw : w2.heap.size < w4.heap.size := blk_lt HPB.out
          generalize w2.heap.size = p at *
          obtain ⟨ad, c, y6, y0, y1⟩ := H4.out.mg.first i hi hwi
          have yp : w4.cell? ⟨p, 0, none⟩ = some (.pointer (some ⟨gs, i * 7, none⟩)) := (blk_cell HPB.out 0).trans rfl
          have hbw : w.heap.size ≤ w4.heap.size := H4.out.only.size
          go_upto_region 8 with (at_builtin; refine Kd.R_append k46 (w0 := w4) w.heap.size rfl (.tmp 22) (.tmp 29) 56 46 (.agg #[.int .i64 0, .string ⟨#[]⟩]) 24 rfl Tryz.underlying56 info46 rfl (by decide) (by omega) (.slice A3 acc.length c3) acc (head (rd_T172 M1.sh i)) [.int .i64 (head (rd_T172 M1.sh i)).f0, .string (head (rd_T172 M1.sh i)).f1] (fun _ => True) (fun _ => False) rfl rfl ⟨[.int .i64 (head (rd_T172 M1.sh i)).f0], [.string (head (rd_T172 M1.sh i)).f1], rfl, rfl, rfl⟩ (fun _ h => h.elim) (fun _ _ => trivial) (R46_ok H4.out.l fun _ _ => trivial) (Below.refl _ _) hbw hlenA ?_; intro v5 w5 hr hb5 hg hat; have hne5 := Kd.R_ne H4.out.l HPB.out (by decide); have HPB5 := Aside0.mk (blk_grown HPB.out hg hne5); have H5 := Aside0.mk (H4.out.appL hW hr hg hat); obtain ⟨A5, c5, rfl⟩ := Kd.R_slice hr; clear hr hb5 hg hat hne5 y6 y0 y1 yp)
          have hpw5 : p < w5.heap.size := blk_lt HPB5.out
          clear H4 HPB hpw hbw
          obtain ⟨ad, c, y6, y0, y1⟩ := H5.out.mg.first i hi hwi
          have yp : w5.cell? ⟨p, 0, none⟩ = some (.pointer (some ⟨gs, i * 7, none⟩)) := (blk_cell HPB5.out 0).trans rfl
          have z2 : w5.cell? ⟨g, 2, none⟩ = some (.slice TA M1.told.length tc) := (blk_cell H5.out.mg.box 2).trans rfl
          have l1 := blk_lt H5.out.mg.box
          have l2 := World.block_lt_of_cell? w5 _ y6
          have l3 := World.block_lt_of_cell? w5 _ y0
          have hbaW : base ≤ w5.heap.size := Nat.le_trans hba H5.out.only.size
          go_region_law (go_loud (refine Kd.R_append_step (W := w5.drew) k46 (w0 := w5.drew) base rfl (.tmp 35) (.tmp 42) 56 46 (.agg #[.int .i64 0, .string ⟨#[]⟩]) 24 rfl Tryz.underlying56 info46 rfl (by decide) (by decide) (.slice TA M1.told.length tc) M1.told (head (rd_T172 M1.sh i)) [.int .i64 (head (rd_T172 M1.sh i)).f0, .string (head (rd_T172 M1.sh i)).f1] (fun _ => True) (fun _ => False) rfl rfl ⟨[.int .i64 (head (rd_T172 M1.sh i)).f0], [.string (head (rd_T172 M1.sh i)).f1], rfl, rfl, rfl⟩ (fun _ h => h.elim) (fun _ _ => trivial) (Kd.R_drew (R46_ok H5.out.mg.told fun _ _ => trivial)) (Below.refl _ _) hbaW hlenT ?_; intro v6 w6 hr hb6 hg hat; have hne6 := Kd.R_ne H5.out.mg.told HPB5.out (by decide); have HPB6 := Aside0.mk (blk_grown (blk_drew HPB5.out) hg hne6); obtain ⟨q1, q2⟩ := (H5.out.step (below_drew1 (Below.refl _ _))).appT hW hWM hr hg hat; have H6 := Aside0.mk q2; have yg : w6.cell? ⟨g, 2, none⟩ = some (.slice TA M1.told.length tc) := (blk_cell q1 2).trans rfl; have fg := blk_frozen q1 2; have Q1 := Aside0.mk q1; obtain ⟨A6, c6, rfl⟩ := Kd.R_slice hr; clear hr hb6 hg hat hne6 y6 y0 y1 yp z2 q1 q2))
          all_goals
            go_wp2
            refine Rd.gen_wp (R := fun W => TellSt w W base okM okW g gs cap (.slice A5 (acc ++ [head (rd_T172 M1.sh i)]).length c5) (.slice A6 (M1.told ++ [head (rd_T172 M1.sh i)]).length c6) (acc ++ [head (rd_T172 M1.sh i)]) { M1 with told := M1.told ++ [head (rd_T172 M1.sh i)] } ∧ W.heap[p]? = some (.cells #[ptrSh gs (some i)] 257 (0, 0)))
              ⟨by have h := H6.out; simp only [List.length_append, List.length_singleton] at h ⊢; exact h, (Below.heap_setCell _ _ _ _ (blk_ne HPB6.out Q1.out (by decide))).trans HPB6.out⟩ ?_
            clear H6 HPB6 Q1 yg fg
            rintro W ⟨hS, hP⟩
            obtain ⟨A, c, hcells, hwt⟩ := hS.mg.get i hi
            obtain ⟨cur, hcur⟩ := hS.mg.blk
            have fz := blk_frozen hcur (i * 7 + 6)
            have yp : W.cell? ⟨p, 0, none⟩ = some (.pointer (some ⟨gs, i * 7, none⟩)) := (blk_cell hP 0).trans rfl
            have y6 : W.cell? ⟨gs, i * 7 + 6, none⟩ = some (.slice A (rd_T172 M1.sh i).f5.length c) := hcells 6 _ rfl
            have hwt' : Wt okW W A c (rd_T172 M1.sh i).f5 := hwt
            have hC := Kd.C_drop hwt'.1 (m := 1) hpos hwt'.2.1
            obtain ⟨A', hA'⟩ : ∃ A', A' = if c = 1 then A else A.map (·.add (1 * k46.sz)) := ⟨_, rfl⟩
            rw [← hA'] at hC
            have hcut : ∀ V : World, (Instr.slice 56 (.slice A (rd_T172 M1.sh i).f5.length c) (some (.int .i64 1)) none none).run Tryz.prog V = .ok (.slice A' ((rd_T172 M1.sh i).f5.drop 1).length (c - 1)) V := by
              intro V
              have hel : Tryz.prog.elem 56 = 46 := by simp [Program.elem, Tryz.underlying56]
              have hu : Tryz.prog.underlying 56 = some (.slice (Tryz.prog.elem 56)) := by rw [hel]; exact Tryz.underlying56
              obtain ⟨i0, hi0, hz0, hz1, hz2⟩ := info_parts info46
              rw [run_slice_l V 56 A (rd_T172 M1.sh i).f5.length c hu .i64 1 (by omega) (by omega), hel, hA']
              simp [sizeOf, typeInfo, hi0, hz1, sliced, Result.andThen, List.length_drop]
              rfl
            have hblk : ∀ ad, A' = some ad → okW ad.block := by
              intro ad e
              rw [hA'] at e
              split at e
              · exact hwt'.2.2 ad e
              · cases A with
                | none => cases e
                | some ad0 =>
                  cases e
                  rw [addr_block]
                  exact hwt'.2.2 ad0 rfl
            have HWT : Aside0 (Wt okW W A' (c - 1) ((rd_T172 M1.sh i).f5.drop 1)) := ⟨⟨hC, by rw [List.length_drop]; have := hwt'.2.1; omega, hblk⟩⟩
            have HS := Aside0.mk hS
            clear hS hP hwt hwt' hC hcur hcells hA' hblk
            go_region
            all_goals
              go_wp2
              have h9 : TellSt w _ base okM okW g gs cap (.slice A5 (acc ++ [head (rd_T172 M1.sh i)]).length c5) _ (acc ++ [head (rd_T172 M1.sh i)]) (M1.tells i) := (HS.out.off hW hWM i A' (c - 1) HWT.out).step (below_drew1 (Below.refl _ _))
              simp only [List.length_append, List.length_singleton, List.length_drop] at h9
              refine ⟨⟨_, _, _, h9, ?_, ?_⟩, ?_⟩
              · exact HG.out.tells (next_goes hd HA.out hb)
              · show (M1.told ++ [_]).length = _
                rw [List.length_append, List.length_append, HL.out]
                rfl
              · have h1 := HG.out.2.2.1
                have h2 := M1.left_tells i hi hwi
                simp [sliceLen]
                omega
end Go.Proofs.YthbngidbfhcdaaaGreat.C
/- A query goes on: what is told. -/
namespace Go.Proofs.YthbngidbfhcdaaaGreat.C
open Go.RowKit Go.Maps Go.Proofs.YthbngidbfhcdaaaGreat.Mem Go.Proofs.YthbngidbfhcdaaaGreatW.PrintWords Go.Proofs.YthbngidbfhcdaaaGreat.PCoordScript
set_option linter.unusedVariables false
set_option linter.unusedSimpArgs false
theorem Reps.put2 {α : Type} {R R' : α → List Value → Prop} {sz : Nat} {ps : List α} {cs : List Value} (h : Reps R sz ps cs) (i j : Nat) (hj : j < sz) (u : Value) (p : α)
    (hR : ∀ k q c, k ≠ i → ps[k]? = some q → R q c → R' q c) (hp : ∀ q c, ps[i]? = some q → c.length = sz → R q c → R' p (c.set j u)) : Reps R' sz (ps.set i p) (cs.set (i * sz + j) u) := by
  refine ⟨by rw [List.length_set, List.length_set, h.1], fun k q hq => ?_⟩
  by_cases hk : k = i
  · subst hk
    have hlt : k < ps.length := by
      have := (List.getElem?_eq_some_iff.1 hq).1
      rwa [List.length_set] at this
    rw [List.getElem?_set_self hlt] at hq
    cases hq
    rw [chunk_same _ _ _ _ _ hj]
    refine hp _ _ (List.getElem?_eq_getElem hlt) ?_ (h.2 k _ (List.getElem?_eq_getElem hlt))
    rw [List.length_take, List.length_drop, h.1]
    have := Nat.mul_le_mul_right sz (show k + 1 ≤ ps.length from hlt)
    rw [Nat.add_mul, Nat.one_mul] at this
    omega
  · rw [List.getElem?_set_ne (Ne.symm hk)] at hq
    rw [chunk_other _ _ _ _ _ _ hj hk]
    exact hR k q _ hk hq (h.2 k q hq)
theorem OwnRow.put2 {α : Type} {R R' : α → List Value → Prop} {e : TypeId} {sz : Nat} {W : World} {base : Nat} {ps : List α} {g n cap : Nat} (h : OwnRow R e sz W base (.slice (some ⟨g, 0, none⟩) n cap) ps) (i j : Nat) (hj : j < sz) (u : Value) (p : α)
    (hR : ∀ k q c, k ≠ i → ps[k]? = some q → R q c → R' q c) (hp : ∀ q c, ps[i]? = some q → c.length = sz → R q c → R' p (c.set j u)) :
    OwnRow R' e sz (W.setCell ⟨g, i * sz + j, none⟩ u) base (.slice (some ⟨g, 0, none⟩) n cap) (ps.set i p) := by
  obtain ⟨inner, ho, hr⟩ := h
  refine ⟨inner.set (i * sz + j) u, ?_, Reps.put2 hr i j hj u p hR hp⟩
  have hn : n = ps.length := by
    obtain ⟨A, c, he⟩ := own_slice ho
    cases he
    rfl
  subst hn
  rw [List.length_set]
  exact (ho.stored (i * sz + j) u).1
theorem zip_set {α : Type} (l : List α) (j : Nat) (x : α) : (l.set j x).zipIdx = l.zipIdx.set j (x, j) := by
  refine List.ext_getElem? fun k => ?_
  by_cases hk : k = j
  · subst hk
    by_cases hl : k < l.length
    · rw [List.getElem?_zipIdx, List.getElem?_set_self hl, List.getElem?_set_self (by rw [List.length_zipIdx]; exact hl)]
      simp
    · rw [List.getElem?_eq_none (by rw [List.length_zipIdx, List.length_set]; omega), List.getElem?_eq_none (by rw [List.length_set, List.length_zipIdx]; omega)]
  · rw [List.getElem?_zipIdx, List.getElem?_set_ne (Ne.symm hk), List.getElem?_set_ne (Ne.symm hk), List.getElem?_zipIdx]
theorem zip_at {α : Type} {l : List α} {k : Nat} {q : α × Nat} (h : l.zipIdx[k]? = some q) : q.2 = k ∧ l[k]? = some q.1 := by
  rw [List.getElem?_zipIdx] at h
  cases hk : l[k]? with
  | none => rw [hk] at h; cases h
  | some a =>
    rw [hk] at h
    cases h
    exact ⟨by simp, rfl⟩
def z58 : S58 := ⟨0, ⟨⟨#[]⟩, 0, 0⟩, [], false, false⟩
def toldAt (S : Co) (j : Nat) : S58 := S.told.getD j z58
/-- What is told of a query, put on what its asker was told. -/
def Co.tells (S : Co) (s : Nat) (y : Qy) : Co := { S with Q := updQ S.Q s (some { y with m := y.m.tell.2 }), told := S.told.set (y.id - 1).toNat { toldAt S (y.id - 1).toNat with f2 := (toldAt S (y.id - 1).toNat).f2 ++ y.m.tell.1 } }
theorem Uniq.same {Q : Nat → Option Qy} (hu : Uniq Q) {s : Nat} {y y' : Qy} (hs : s < 4) (hy : Q s = some y) (he : y'.id = y.id) : Uniq (updQ Q s (some y')) := by
  intro a b z z' ha hb hz hz' hzz
  have key : ∀ a z, a < 4 → updQ Q s (some y') a = some z → ∃ u, Q a = some u ∧ u.id = z.id := by
    intro a z ha hz
    unfold updQ at hz
    by_cases h1 : a = s
    · subst h1
      rw [if_pos rfl] at hz
      cases hz
      exact ⟨y, hy, he.symm⟩
    · rw [if_neg h1] at hz
      exact ⟨z, hz, rfl⟩
  obtain ⟨u, hu1, hu2⟩ := key a z ha hz
  obtain ⟨u', hu1', hu2'⟩ := key b z' hb hz'
  exact hu a b u u' ha hb hu1 hu1' (by rw [hu2, hu2', hzz])
theorem slot_same {Q : Nat → Option Qy} (hu : Uniq Q) {s : Nat} {y y' : Qy} (hs : s < 4) (hy : Q s = some y) (he : y'.id = y.id) (id : Int) : slotN (updQ Q s (some y')) id 4 = slotN Q id 4 := by
  refine Option.ext fun r => ?_
  rw [slot_iff (hu.same hs hy he), slot_iff hu]
  unfold updQ
  by_cases h1 : r = s
  · subst h1
    rw [if_pos rfl, hy]
    constructor
    · rintro ⟨h, z, hz, hzi⟩
      cases hz
      exact ⟨h, y, rfl, he ▸ hzi⟩
    · rintro ⟨h, z, hz, hzi⟩
      cases hz
      exact ⟨h, y', rfl, he.trans hzi⟩
  · rw [if_neg h1]
theorem live_same {Q : Nat → Option Qy} {s : Nat} {y y' : Qy} (hs : s < 4) (hy : Q s = some y) : liveN (updQ Q s (some y')) 4 = liveN Q 4 := by
  have := live_in Q s (some y') 4 hs
  rw [hy] at this
  simpa using this
theorem QAt.role {ρ ρ' : Nat → Own} {W : World} {base s b : Nat} {y : Qy} {g gs cap : Nat} {tv : Value} (h : QAt ρ W base s b y g gs cap tv) (hρ : ∀ k, ρ k ≠ .z → ρ' k = ρ k) : QAt ρ' W base s b y g gs cap tv :=
  ⟨h.box, (hρ b (by rw [h.bo]; simp)).trans h.bo, h.mg.box, h.mg.rows.imp_ fun x cs ⟨A, c, e, hw⟩ => ⟨A, c, e, hw.1, hw.2.1, fun ad ha => (hρ _ (by rw [hw.2.2 ad ha]; simp)).trans (hw.2.2 ad ha)⟩,
    R46_ok h.mg.told fun k hk => (hρ k (by rw [h.mg.told.1 k hk]; simp)).trans (h.mg.told.1 k hk), (hρ g (by rw [h.mg.gok]; simp)).trans h.mg.gok, (hρ gs (by rw [h.mg.vok]; simp)).trans h.mg.vok⟩
/-- A told element's row of items. -/
theorem ToldAt.get {ρ : Nat → Own} {W : World} {base : Nat} {v : Value} {l : List S58} (h : ToldAt ρ W base v l) (j : Nat) (hj : j < l.length) :
    ∃ gt cap u, v = .slice (some ⟨gt, 0, none⟩) l.length cap ∧ ρ gt = .co 7 ∧ (∃ cur, W.heap[gt]? = some (.cells cur 58 (0, 0))) ∧ (∀ i x, (toldV (l.getD j z58) u)[i]? = some x → W.cell? ⟨gt, j * 7 + i, none⟩ = some x) ∧ Kd.R k46 46 W base (fun k => ρ k = .it j) u (l.getD j z58).f2 := by
  obtain ⟨inner, ho, hr⟩ := h.row
  have hlen : l.zipIdx.length = l.length := List.length_zipIdx
  rcases ho.2 with ⟨_, h0⟩ | ⟨gt, cap, cur, rfl, _⟩
  · omega
  obtain ⟨A, c, e, _, hC⟩ := OwnRow.reads ⟨inner, ho, hr⟩
  cases e
  have hz : l.zipIdx.getD j (z58, 0) = (l.getD j z58, j) := by
    simp [List.getD_eq_getElem?_getD, List.getElem?_zipIdx, List.getElem?_eq_getElem hj]
  obtain ⟨ad, cs, e, _, ⟨u, rfl, hR⟩, hcell⟩ := hC.get_ (z58, 0) (j : Int) (by omega) (by rw [hlen]; omega)
  cases e
  rw [Int.toNat_natCast] at hcell hR
  rw [hz] at hcell hR
  rw [hlen] at *
  refine ⟨gt, cap, u, rfl, h.own gt rfl, ⟨_, (own_at ho rfl).choose_spec⟩, fun i x hx => ?_, hR⟩
  have := hcell i x hx
  rwa [add_plain] at this
/-- Whose blocks are, later on: what was somebody's stays so; what is new may be anybody's. -/
structure Ext (ρ ρ' : Nat → Own) (w : World) : Prop where
  keep : ∀ k, ρ k ≠ .z → ρ' k = ρ k
  new : ∀ k, ρ' k ≠ .z → ρ k ≠ .z ∨ w.heap.size ≤ k
theorem Ext.refl (ρ : Nat → Own) (w : World) : Ext ρ ρ w := ⟨fun _ _ => rfl, fun _ h => .inl h⟩
theorem Ext.trans {a b c : Nat → Own} {w w1 : World} (h : Ext a b w) (k : Ext b c w1) (hz : w.heap.size ≤ w1.heap.size) : Ext a c w :=
  ⟨fun i hi => (k.keep i (by rw [h.keep i hi]; exact hi)).trans (h.keep i hi), fun i hi => (k.new i hi).elim (fun h1 => h.new i h1) fun h1 => .inr (Nat.le_trans hz h1)⟩
theorem CoAt.tells {c : Cfg} {base : Nat} {ρ : Nat → Own} {I : CoIds} {blk : Int → Nat} {S : Co} {s : Nat} {y : Qy} {w w1 w2 : World} {g gs cap gt capt : Nat} {tv tv1 v u u' : Value} {j : Nat} (h : CoAt c base ρ I blk S w) (hs : s < 4) (hy : S.Q s = some y) (hQ : QAt ρ w base s (blk y.id) y g gs cap tv)
    (hj : j = (y.id - 1).toNat) {dv : Value} (hco : w.heap[I.x]? = some (CoB (c.bare I.A1 I.c1) I.cv S.now (.pointer (some ⟨I.l, 0, none⟩)) (.pointer (some ⟨I.s, 0, none⟩)) (.pointer (some ⟨I.t, 0, none⟩)) (.map (some I.m)) dv)) (htold : ToldAt ρ w base dv S.told) (hdv : dv = .slice (some ⟨gt, 0, none⟩) S.told.length capt) (hgt : ρ gt = .co 7)
    (hTS : TellSt w w1 base (fun k => ρ k = .q y.id) (fun k => ρ k = .imm) g gs cap v tv1 y.m.tell.1 y.m.tell.2) (hu : Kd.R k46 46 w base (fun k => ρ k = .it j) u (toldAt S j).f2)
    (hr : Kd.R k46 46 w2 base (fun _ => True) u' ((toldAt S j).f2 ++ y.m.tell.1)) (hg : w1.grownBy w2 u.ownBlock) (hat : u'.ownBlock = u.ownBlock ∨ u'.ownBlock = some w1.heap.size) :
    ∃ ρ', CoAt c base ρ' I blk (S.tells s y) (w2.setCell ⟨gt, j * 7 + 4, none⟩ u') ∧ Ext ρ ρ' w ∧ Only (fun k => ρ k = .q y.id ∨ ρ k = .it j ∨ ρ k = .co 7) w (w2.setCell ⟨gt, j * 7 + 4, none⟩ u') := by
  obtain ⟨r0, r1, r2, r3, r4, r5, r6⟩ := h.roles
  have hown : ∀ k, ρ k ≠ .z → k < w.heap.size := fun k hk => (h.own k hk).2
  have hub : ∀ k, u.ownBlock = some k → ρ k = .it j := hu.1
  have htb : ∀ k, tv1.ownBlock = some k → ρ k = .q y.id ∨ w.heap.size ≤ k := hTS.fresh
  have htb1 : ∀ k, tv1.ownBlock = some k → k < w1.heap.size := Kd.R_lt hTS.mg.told
  have hub2 : ∀ k, u'.ownBlock = some k → ρ k = .it j ∨ w1.heap.size = k := fun k hk => by
    rcases hat with e | e
    · exact .inl (hub k (e ▸ hk))
    · rw [e] at hk
      exact .inr (Option.some.inj hk)
  have hzf : ∀ k, w.heap.size ≤ k → ρ k = .z := fun k hk => by
    cases e : ρ k with
    | z => rfl
    | _ => exact absurd (hown k (by rw [e]; simp)) (Nat.not_lt.2 hk)
  have ho2 : Only (fun k => ρ k = .q y.id ∨ ρ k = .it j) w w2 := (hTS.only.mono fun k _ hk => .inl hk).trans (G := fun k => some k = u.ownBlock) (Only.grown hg fun k hk _ => hk.symm) fun k _ hk => .inr (hub k hk.symm)
  have hoW : Only (fun k => ρ k = .q y.id ∨ ρ k = .it j ∨ ρ k = .co 7) w (w2.setCell ⟨gt, j * 7 + 4, none⟩ u') := (ho2.mono fun k _ hk => hk.elim .inl fun h => .inr (.inl h)).set (p := ⟨gt, _, none⟩) (fun _ => .inr (.inr hgt)) _
  let ρ' : Nat → Own := fun k => if tv1.ownBlock = some k then .q y.id else if u'.ownBlock = some k then .it j else ρ k
  have hρ : ∀ k, ρ k ≠ .z → ρ' k = ρ k := fun k hk => by
    have hk1 := hown k hk
    have hk2 : k < w1.heap.size := Nat.lt_of_lt_of_le hk1 hTS.only.size
    show (if _ then _ else if _ then _ else _) = _
    by_cases h1 : tv1.ownBlock = some k
    · rw [if_pos h1]
      rcases htb k h1 with h2 | h2
      · exact h2.symm
      · omega
    · rw [if_neg h1]
      by_cases h2 : u'.ownBlock = some k
      · rw [if_pos h2]
        rcases hub2 k h2 with h3 | h3
        · exact h3.symm
        · omega
      · rw [if_neg h2]
  have hext : Ext ρ ρ' w := ⟨hρ, fun k hk => by
    by_cases h1 : tv1.ownBlock = some k
    · rcases htb k h1 with h2 | h2
      · exact .inl (by rw [h2]; simp)
      · exact .inr h2
    · by_cases h2 : u'.ownBlock = some k
      · rcases hub2 k h2 with h3 | h3
        · exact .inl (by rw [h3]; simp)
        · exact .inr (by rw [← h3]; exact hTS.only.size)
      · have h3 : ρ' k = ρ k := by
          show (if _ then _ else if _ then _ else _) = _
          rw [if_neg h1, if_neg h2]
        rw [h3] at hk
        exact .inl hk⟩
  refine ⟨ρ', ?_, hext, hoW⟩
  have st : ∀ {k : Nat} {r : Own}, ρ k = r → r ≠ .z → r ≠ .q y.id → r ≠ .it j → r ≠ .co 7 → (w2.setCell ⟨gt, j * 7 + 4, none⟩ u').heap[k]? = w.heap[k]? := fun {k r} hr h0 h1 h2 h3 => hoW.block k (hown k (by rw [hr]; exact h0)) (by rw [hr]; simp [h1, h2, h3])
  have hgtl : gt < w.heap.size := hown gt (by rw [hgt]; simp)
  have hgtb : ∃ cur, w2.heap[gt]? = some (.cells cur 58 (0, 0)) := by
    subst hdv
    obtain ⟨inner, hro, _⟩ := htold.row
    obtain ⟨cur, hc⟩ := own_at hro rfl
    exact ⟨cur, (ho2.block gt hgtl (by rw [hgt]; simp)).trans hc⟩
  have hyid : ∀ s' y', S.Q s' = some y' → s' < 4 → s' ≠ s → y'.id ≠ y.id := fun s' y' hy' hs' hne he => hne (h.uniq s' s y' y hs' hs hy' hy he)
  refine ⟨⟨dv, (st r0 (by simp) (by simp) (by simp) (by simp)).trans hco, ?_, ?_⟩, ?_, ?_, (st r1 (by simp) (by simp) (by simp) (by simp)).trans h.tab, ?_, ?_, ?_, ?_, ?_, ?_, ?_, ?_, ?_, h.tin⟩
  · subst hdv
    obtain ⟨inner, hro, hrr⟩ := htold.row
    have hro2 : w2.ownsRow base 58 7 (.slice (some ⟨gt, 0, none⟩) S.told.length capt) S.told.zipIdx.length inner := own_move hro fun k hk => by
      cases hk
      exact ho2.block gt hgtl (by rw [hgt]; simp)
    have hlz : S.told.zipIdx.length = S.told.length := List.length_zipIdx
    have hp := OwnRow.put2 (R' := ToldR ρ' (w2.setCell ⟨gt, j * 7 + 4, none⟩ u') base) ⟨inner, hro2, hrr⟩ j 4 (by omega) u' (({ toldAt S j with f2 := (toldAt S j).f2 ++ y.m.tell.1 } : S58), j) ?_ ?_
    · show OwnRow _ _ _ _ _ (.slice (some ⟨gt, 0, none⟩) S.told.length capt) (S.told.set (y.id - 1).toNat _).zipIdx
      rw [← hj, zip_set]
      exact hp
    · rintro k q cs hk hq ⟨vv, e, hR⟩
      obtain ⟨hq2, hq1⟩ := zip_at hq
      refine ⟨vv, e, Kd.R_mono (Kd.R_step hR fun b hb hl => st hb (by simp) (by simp) (by simp; omega) (by simp)) fun b hb => (hρ b (by rw [hb]; simp)).trans hb⟩
    · rintro q cs hq hcl ⟨vv, rfl, hR⟩
      obtain ⟨hq2, hq1⟩ := zip_at hq
      have hqe : q.1 = toldAt S j := by
        unfold toldAt
        rw [List.getD_eq_getElem?_getD, hq1]
        rfl
      rw [hqe]
      obtain ⟨curT, hcurT⟩ := hgtb
      refine ⟨u', rfl, R46_ok (Kd.R_set hr hcurT (by decide) _ _) fun b hb => ?_⟩
      show (if _ then _ else if _ then _ else _) = _
      rw [if_neg, if_pos hb]
      intro h1
      rcases hub2 b hb with h2 | h2
      · rcases htb b h1 with h3 | h3
        · rw [h2] at h3; cases h3
        · rw [hzf b h3] at h2; cases h2
      · have := htb1 b h1
        omega
  · intro k hk
    rw [hdv] at hk
    cases hk
    exact (hρ gt (by rw [hgt]; simp)).trans hgt
  · exact Kd.R_mono (Kd.R_step h.cuts fun k hk hl => st hk (by simp) (by simp) (by simp) (by simp)) fun k hk => (hρ k (by rw [hk]; simp)).trans hk
  · exact Kd.R_mono (Kd.R_step h.copies fun k hk hl => st hk (by simp) (by simp) (by simp) (by simp)) fun k hk => (hρ k (by rw [hk]; simp)).trans hk
  · obtain ⟨fof, fat, hsl, hf1, hf2⟩ := h.sl
    refine ⟨fof, fat, ?_, fun id => ?_, fun k => ?_⟩
    · have := hsl.move (st r2 (by simp) (by simp) (by simp) (by simp)) (st r4 (by simp) (by simp) (by simp) (by simp)) (st r5 (by simp) (by simp) (by simp) (by simp))
      have e : (S.tells s y).live = S.live := live_same hs hy
      rw [e]
      exact this
    · rw [hf1 id]
      show (slotN S.Q id 4).map _ = (slotN (updQ S.Q s (some _)) id 4).map _
      rw [slot_same (y' := { y with m := y.m.tell.2 }) h.uniq hs hy rfl]
    · rw [hf2 k]
      show _ = if 0 ≤ k ∧ k < 4 then (updQ S.Q s (some _) k.toNat).map _ else none
      by_cases hk : 0 ≤ k ∧ k < 4
      · rw [if_pos hk, if_pos hk]
        unfold updQ
        by_cases he : k.toNat = s
        · rw [if_pos he, he, hy]; rfl
        · rw [if_neg he]
      · rw [if_neg hk, if_neg hk]
  · obtain ⟨l, ⟨tvv, h1, h2⟩, h3⟩ := h.tim.move (st r3 (by simp) (by simp) (by simp) (by simp)) fun k hk hr => st hr (by simp) (by simp) (by simp) (by simp)
    exact ⟨l, ⟨tvv, h1, Kd.R_mono h2 fun k hk => (hρ k (by rw [hk]; simp)).trans hk⟩, h3⟩
  · obtain ⟨fq, hq, hq2⟩ := h.qs
    have e : (S.tells s y).live = S.live := live_same hs hy
    refine ⟨fq, by rw [e]; exact hq.keep (st r6 (by simp) (by simp) (by simp) (by simp)), fun id => ?_⟩
    rw [hq2 id]
    show (slotN S.Q id 4).map _ = (slotN (updQ S.Q s (some _)) id 4).map _
    rw [slot_same (y' := { y with m := y.m.tell.2 }) h.uniq hs hy rfl]
  · intro s' y' hs' hy'
    have hy2 : updQ S.Q s (some { y with m := y.m.tell.2 }) s' = some y' := hy'
    unfold updQ at hy2
    by_cases he : s' = s
    · subst he
      rw [if_pos rfl] at hy2
      cases hy2
      obtain ⟨curT, hcurT⟩ := hgtb
      have hst : ∀ k, k < w.heap.size → ρ k = .imm → (w2.setCell ⟨gt, j * 7 + 4, none⟩ u').heap[k]? = w1.heap[k]? := fun k hk hr => (st hr (by simp) (by simp) (by simp) (by simp)).trans (hTS.only.block k hk (by rw [hr]; simp)).symm
      have hgs := hTS.mg.blk
      have hmm : MgAt (w2.setCell ⟨gt, j * 7 + 4, none⟩ u') base (fun k => ρ k = .q y.id ∨ some k = tv1.ownBlock) (fun k => ρ k = .imm) g gs cap tv1 y.m.tell.2 := by
        refine hTS.mg.move fun k hk hr => ?_
        have h1 : k ≠ gt := by
          rintro rfl
          rcases hr with (hr | hr) | hr
          · rw [hgt] at hr; cases hr
          · rcases htb k hr.symm with h2 | h2
            · rw [hgt] at h2; cases h2
            · omega
          · rw [hgt] at hr; cases hr
        rw [Below.heap_setCell _ _ _ _ h1]
        refine hg.block k hk fun e => ?_
        have h2 := hub k e.symm
        rcases hr with (hr | hr) | hr
        · rw [h2] at hr; cases hr
        · rcases htb k hr.symm with h3 | h3
          · rw [h2] at h3; cases h3
          · rw [hzf k h3] at h2; cases h2
        · rw [h2] at hr; cases hr
      refine ⟨g, gs, cap, tv1, (st hQ.bo (by simp) (by simp) (by simp) (by simp)).trans hQ.box, (hρ _ (by rw [hQ.bo]; simp)).trans hQ.bo, hmm.box, hmm.rows.imp_ fun x cs ⟨A, cc, e, hw⟩ => ⟨A, cc, e, hw.1, hw.2.1, fun ad ha => (hρ _ (by rw [hw.2.2 ad ha]; simp)).trans (hw.2.2 ad ha)⟩, R46_ok hmm.told fun k hk => ?_, (hρ g (by rw [hTS.gw.2.2.1]; simp)).trans hTS.gw.2.2.1, (hρ gs (by rw [hTS.gw.2.2.2]; simp)).trans hTS.gw.2.2.2⟩
      show (if _ then _ else if _ then _ else _) = _
      rw [if_pos hk]
    · rw [if_neg he] at hy2
      obtain ⟨g', gs', cap', tv', hQ'⟩ := h.qat s' y' hs' hy2
      have hne := hyid s' y' hy2 hs' he
      exact ⟨g', gs', cap', tv', (hQ'.move fun k hk hr => by rcases hr with hr | hr | hr; exact st hr (by simp) (by simp; exact hne) (by simp) (by simp); exact st hr (by simp) (by simp) (by simp) (by simp); exact st hr (by simp) (by simp) (by simp) (by simp)).role hρ⟩
  · exact ⟨(hρ _ (by rw [r0]; simp)).trans r0, (hρ _ (by rw [r1]; simp)).trans r1, (hρ _ (by rw [r2]; simp)).trans r2, (hρ _ (by rw [r3]; simp)).trans r3, (hρ _ (by rw [r4]; simp)).trans r4, (hρ _ (by rw [r5]; simp)).trans r5, (hρ _ (by rw [r6]; simp)).trans r6⟩
  · intro k hk
    have hsz : w2.heap.size ≤ (w2.setCell ⟨gt, j * 7 + 4, none⟩ u').heap.size := by simp [World.setCell]
    by_cases h1 : tv1.ownBlock = some k
    · obtain ⟨inner, hown1⟩ := Kd.R_own hTS.mg.told
      exact ⟨own_base hown1 k h1, Nat.lt_of_lt_of_le (Nat.lt_of_lt_of_le (htb1 k h1) hg.size) hsz⟩
    · by_cases h2 : u'.ownBlock = some k
      · obtain ⟨inner, hown1⟩ := Kd.R_own hr
        exact ⟨own_base hown1 k h2, Nat.lt_of_lt_of_le (own_lt hown1 k h2) hsz⟩
      · have h3 : ρ' k = ρ k := by
          show (if _ then _ else if _ then _ else _) = _
          rw [if_neg h1, if_neg h2]
        rw [h3] at hk
        exact ⟨(h.own k hk).1, Nat.lt_of_lt_of_le (h.own k hk).2 hoW.size⟩
  · exact h.uniq.same (y' := { y with m := y.m.tell.2 }) hs hy rfl
  · intro s' y' hy'
    have hy2 : updQ S.Q s (some { y with m := y.m.tell.2 }) s' = some y' := hy'
    unfold updQ at hy2
    by_cases he : s' = s
    · subst he
      rw [if_pos rfl] at hy2
      cases hy2
      exact h.top s' y hy
    · rw [if_neg he] at hy2
      exact h.top s' y' hy2
  · show ((S.told.set _ _).length : Int) = S.last
    rw [List.length_set]
    exact h.len
/-- A flag of what was told is set. -/
theorem CoAt.flag {c : Cfg} {base : Nat} {ρ : Nat → Own} {I : CoIds} {blk : Int → Nat} {S : Co} {W : World} {gt n cap : Nat} (h : CoAt c base ρ I blk S W) (hco : W.heap[I.x]? = some (CoB (c.bare I.A1 I.c1) I.cv S.now (.pointer (some ⟨I.l, 0, none⟩)) (.pointer (some ⟨I.s, 0, none⟩)) (.pointer (some ⟨I.t, 0, none⟩)) (.map (some I.m)) (.slice (some ⟨gt, 0, none⟩) n cap)))
    (j : Nat) (i : Nat) (hi : i < 7) (u : Value) (t' : S58) (hset : ∀ v, (toldV (toldAt S j) v).set i u = toldV t' v) (hf2 : t'.f2 = (toldAt S j).f2) : CoAt c base ρ I blk { S with told := S.told.set j t' } (W.setCell ⟨gt, j * 7 + i, none⟩ u) := by
  obtain ⟨r0, r1, r2, r3, r4, r5, r6⟩ := h.roles
  obtain ⟨dv, hco', htold⟩ := h.co
  rw [hco'] at hco
  have hdv : dv = .slice (some ⟨gt, 0, none⟩) n cap := by
    injection hco with hco
    injection hco with hco _
    have := congrArg (fun a : Array Value => a[18]?) hco
    simpa [coCells] using this
  subst hdv
  obtain ⟨fof, fat, hsl, hf1, hf2'⟩ := h.sl
  obtain ⟨fq, hq, hq2⟩ := h.qs
  have hgt : ρ gt = .co 7 := htold.own gt rfl
  have at_ : ∀ k, ρ k ≠ .co 7 → (W.setCell ⟨gt, j * 7 + i, none⟩ u).heap[k]? = W.heap[k]? := fun k hk => Below.heap_setCell _ _ _ _ fun e => hk (e ▸ hgt)
  have ne : ∀ {k : Nat} {r : Own}, ρ k = r → r ≠ .co 7 → ρ k ≠ .co 7 := fun h hr e => hr (h.symm.trans e)
  refine ⟨⟨_, (at_ _ (ne r0 (by simp))).trans hco', ?_, htold.own⟩, Kd.R_step h.cuts fun k hk hl => at_ k (ne hk (by simp)), Kd.R_step h.copies fun k hk hl => at_ k (ne hk (by simp)), (at_ _ (ne r1 (by simp))).trans h.tab,
    ⟨fof, fat, hsl.move (at_ _ (ne r2 (by simp))) (at_ _ (ne r4 (by simp))) (at_ _ (ne r5 (by simp))), hf1, hf2'⟩, h.tim.move (at_ _ (ne r3 (by simp))) (fun k hk hr => at_ k (ne hr (by simp))), ⟨fq, hq.keep (at_ _ (ne r6 (by simp))), hq2⟩, fun s y hs hy => ?_, h.roles, fun k hk => ⟨(h.own k hk).1, by simpa [World.setCell] using (h.own k hk).2⟩, h.uniq, h.top, ?_, h.tin⟩
  · obtain ⟨inner, hro, hrr⟩ := htold.row
    show OwnRow _ _ _ _ _ _ (S.told.set j t').zipIdx
    rw [zip_set]
    refine OwnRow.put2 (R := ToldR ρ W base) ⟨inner, by
      have hlz : S.told.zipIdx.length = S.told.length := List.length_zipIdx
      exact hro, hrr⟩ j i hi u (t', j) ?_ ?_
    · rintro k q cs hk hq ⟨vv, e, hR⟩
      exact ⟨vv, e, Kd.R_step hR fun b hb hl => at_ b (ne hb (by simp))⟩
    · rintro q cs hq hcl ⟨vv, rfl, hR⟩
      obtain ⟨hq2, hq1⟩ := zip_at hq
      have hqe : q.1 = toldAt S j := by
        unfold toldAt
        rw [List.getD_eq_getElem?_getD, hq1]
        rfl
      rw [hqe] at hR ⊢
      rw [hq2] at hR
      refine ⟨vv, hset vv, ?_⟩
      rw [hf2]
      exact Kd.R_step hR fun b hb hl => at_ b (ne hb (by simp))
  · obtain ⟨g, gs, cap', tv, hQ⟩ := h.qat s y hs hy
    exact ⟨g, gs, cap', tv, hQ.move fun k hk hr => at_ k (by rcases hr with hr | hr | hr <;> exact ne hr (by simp))⟩
  · show ((S.told.set j t').length : Int) = S.last
    rw [List.length_set]
    exact h.len
end Go.Proofs.YthbngidbfhcdaaaGreat.C
/- A query's turn changes; the timers change. -/
namespace Go.Proofs.YthbngidbfhcdaaaGreat.C
open Go.RowKit Go.Maps Go.Proofs.YthbngidbfhcdaaaGreat.Mem Go.Proofs.YthbngidbfhcdaaaGreatW.PrintWords Go.Proofs.YthbngidbfhcdaaaGreat.PCoordScript
set_option linter.unusedVariables false
set_option linter.unusedSimpArgs false
theorem Uniq.ne {Q : Nat → Option Qy} (hu : Uniq Q) {s s' : Nat} {y y' : Qy} (hs : s < 4) (hs' : s' < 4) (hy : Q s = some y) (hy' : Q s' = some y') (hne : s' ≠ s) : y'.id ≠ y.id := fun e => hne (hu s' s y' y hs' hs hy' hy e)
theorem CoAt.turned {c : Cfg} {base : Nat} {ρ : Nat → Own} {I : CoIds} {blk : Int → Nat} {S : Co} {W W1 : World} {s : Nat} {y : Qy} (h : CoAt c base ρ I blk S W) (hs : s < 4) (hy : S.Q s = some y) (f : Nat → Tn) (ho : Only (fun k => k = blk y.id) W W1)
    (hb : ∀ g, W.heap[blk y.id]? = some (QyB s y g) → W1.heap[blk y.id]? = some (QyB s { y with t := f } g)) : CoAt c base ρ I blk { S with Q := updQ S.Q s (some { y with t := f }) } W1 := by
  obtain ⟨r0, r1, r2, r3, r4, r5, r6⟩ := h.roles
  obtain ⟨dv, hco, htold⟩ := h.co
  obtain ⟨fof, fat, hsl, hf1, hf2⟩ := h.sl
  obtain ⟨fq, hq, hq2⟩ := h.qs
  obtain ⟨g, gs, cap, tv, hQ⟩ := h.qat s y hs hy
  have at_ : ∀ {k : Nat} {r : Own}, ρ k = r → r ≠ .qb y.id → r ≠ .z → W1.heap[k]? = W.heap[k]? := fun {k r} hr h1 h0 => ho.block k (h.own k (by rw [hr]; exact h0)).2 fun e => h1 (by rw [e] at hr; exact hr.symm.trans hQ.bo)
  refine ⟨⟨dv, (at_ r0 (by simp) (by simp)).trans hco, htold.move fun k hk hr => ?_⟩, Kd.R_step h.cuts fun k hk hl => at_ hk (by simp) (by simp), Kd.R_step h.copies fun k hk hl => at_ hk (by simp) (by simp), (at_ r1 (by simp) (by simp)).trans h.tab,
    ⟨fof, fat, ?_, fun id => ?_, fun k => ?_⟩, h.tim.move (at_ r3 (by simp) (by simp)) (fun k hk hr => at_ hr (by simp) (by simp)), ⟨fq, ?_, fun id => ?_⟩, fun s' y' hs' hy' => ?_, h.roles, fun k hk => ⟨(h.own k hk).1, Nat.lt_of_lt_of_le (h.own k hk).2 ho.size⟩, h.uniq.same (y' := { y with t := f }) hs hy rfl, fun s' y' hy' => ?_, h.len, h.tin⟩
  · rcases hr with hr | ⟨i, hr⟩ <;> exact at_ hr (by simp) (by simp)
  · have e : ({ S with Q := updQ S.Q s (some { y with t := f }) } : Co).live = S.live := live_same hs hy
    rw [e]
    exact hsl.move (at_ r2 (by simp) (by simp)) (at_ r4 (by simp) (by simp)) (at_ r5 (by simp) (by simp))
  · rw [hf1 id]
    show (slotN S.Q id 4).map _ = (slotN (updQ S.Q s (some _)) id 4).map _
    rw [slot_same (y' := { y with t := f }) h.uniq hs hy rfl]
  · rw [hf2 k]
    show _ = if 0 ≤ k ∧ k < 4 then (updQ S.Q s (some _) k.toNat).map _ else none
    by_cases hk : 0 ≤ k ∧ k < 4
    · rw [if_pos hk, if_pos hk]
      unfold updQ
      by_cases he : k.toNat = s
      · rw [if_pos he, he, hy]; rfl
      · rw [if_neg he]
    · rw [if_neg hk, if_neg hk]
  · have e : ({ S with Q := updQ S.Q s (some { y with t := f }) } : Co).live = S.live := live_same hs hy
    rw [e]
    exact hq.keep (at_ r6 (by simp) (by simp))
  · rw [hq2 id]
    show (slotN S.Q id 4).map _ = (slotN (updQ S.Q s (some _)) id 4).map _
    rw [slot_same (y' := { y with t := f }) h.uniq hs hy rfl]
  · have hy2 : updQ S.Q s (some { y with t := f }) s' = some y' := hy'
    unfold updQ at hy2
    by_cases he : s' = s
    · subst he
      rw [if_pos rfl] at hy2
      cases hy2
      refine ⟨g, gs, cap, tv, hb g hQ.box, hQ.bo, hQ.mg.move fun k hk hr => ?_⟩
      rcases hr with hr | hr <;> exact at_ hr (by simp) (by simp)
    · rw [if_neg he] at hy2
      obtain ⟨g', gs', cap', tv', hQ'⟩ := h.qat s' y' hs' hy2
      have hne := h.uniq.ne hs hs' hy hy2 he
      refine ⟨g', gs', cap', tv', hQ'.move fun k hk hr => ?_⟩
      rcases hr with hr | hr | hr
      · exact at_ hr (by simp) (by simp)
      · exact at_ hr (by simpa using hne) (by simp)
      · exact at_ hr (by simp) (by simp)
  · have hy2 : updQ S.Q s (some { y with t := f }) s' = some y' := hy'
    unfold updQ at hy2
    by_cases he : s' = s
    · subst he
      rw [if_pos rfl] at hy2
      cases hy2
      exact h.top s' y hy
    · rw [if_neg he] at hy2
      exact h.top s' y' hy2
theorem CoAt.timed {c : Cfg} {base : Nat} {ρ : Nat → Own} {I : CoIds} {blk : Int → Nat} {S : Co} {W W1 : World} {T' : Int → Option Int} (h : CoAt c base ρ I blk S W) (ht : TmF W1 base (fun k => ρ k = .co 3 ∨ W.heap.size ≤ k) I.t T') (ho : Only (fun k => k = I.t ∨ ρ k = .co 3) W W1) (hin : InT T') :
    ∃ ρ', Ext ρ ρ' W ∧ CoAt c base ρ' I blk { S with T := T' } W1 := by
  obtain ⟨r0, r1, r2, r3, r4, r5, r6⟩ := h.roles
  obtain ⟨dv, hco, htold⟩ := h.co
  obtain ⟨fof, fat, hsl, hf1, hf2⟩ := h.sl
  obtain ⟨fq, hq, hq2⟩ := h.qs
  obtain ⟨l, ⟨v, hbx, hR⟩, hsay⟩ := ht
  have hv : ∀ k, v.ownBlock = some k → ρ k = .co 3 ∨ W.heap.size ≤ k := hR.1
  have hvl := Kd.R_lt hR
  let ρ' : Nat → Own := fun k => if v.ownBlock = some k then .co 3 else ρ k
  have hρ : ∀ k, ρ k ≠ .z → ρ' k = ρ k := fun k hk => by
    show (if _ then _ else _) = _
    by_cases h1 : v.ownBlock = some k
    · rw [if_pos h1]
      have := (h.own k hk).2
      exact ((hv k h1).resolve_right (by omega)).symm
    · rw [if_neg h1]
  have hmv : ∀ {k : Nat} {r : Own}, ρ k = r → r ≠ .z → ρ' k = r := fun {k r} hr h0 => (hρ k (by rw [hr]; exact h0)).trans hr
  have at_ : ∀ {k : Nat} {r : Own}, ρ k = r → r ≠ .co 3 → r ≠ .z → W1.heap[k]? = W.heap[k]? := fun {k r} hr h1 h0 => ho.block k (h.own k (by rw [hr]; exact h0)).2 fun e => e.elim (fun e => h1 (by rw [e] at hr; exact hr.symm.trans r3)) fun e => h1 (hr.symm.trans e)
  refine ⟨ρ', ⟨hρ, fun k hk => ?_⟩, ⟨⟨dv, (at_ r0 (by simp) (by simp)).trans hco, ?_, fun k hk => hmv (htold.own k hk) (by simp)⟩, Kd.R_mono (Kd.R_step h.cuts fun k hk hl => at_ hk (by simp) (by simp)) fun k hk => hmv hk (by simp), Kd.R_mono (Kd.R_step h.copies fun k hk hl => at_ hk (by simp) (by simp)) fun k hk => hmv hk (by simp), (at_ r1 (by simp) (by simp)).trans h.tab,
    ⟨fof, fat, hsl.move (at_ r2 (by simp) (by simp)) (at_ r4 (by simp) (by simp)) (at_ r5 (by simp) (by simp)), hf1, hf2⟩, ⟨l, ⟨v, hbx, ⟨fun k hk => if_pos hk, hR.2.imp_ fun _ _ hp => hp⟩⟩, hsay⟩, ⟨fq, hq.keep (at_ r6 (by simp) (by simp)), hq2⟩, fun s' y' hs' hy' => ?_, ⟨hmv r0 (by simp), hmv r1 (by simp), hmv r2 (by simp), hmv r3 (by simp), hmv r4 (by simp), hmv r5 (by simp), hmv r6 (by simp)⟩, fun k hk => ?_, h.uniq, h.top, h.len, hin⟩⟩
  · by_cases h1 : v.ownBlock = some k
    · exact (hv k h1).imp (fun e => by rw [e]; simp) fun e => e
    · have h3 : ρ' k = ρ k := by
        show (if _ then _ else _) = _
        rw [if_neg h1]
      rw [h3] at hk
      exact .inl hk
  · have := (htold.move (W1 := W1) fun k hk hr => by rcases hr with hr | ⟨i, hr⟩ <;> exact at_ hr (by simp) (by simp)).row
    exact this.imp_ fun p cs ⟨v, e, hR⟩ => ⟨v, e, Kd.R_mono hR fun k hk => hmv hk (by simp)⟩
  · obtain ⟨g', gs', cap', tv', hQ'⟩ := h.qat s' y' hs' hy'
    refine ⟨g', gs', cap', tv', (hQ'.move fun k hk hr => ?_).role hρ⟩
    rcases hr with hr | hr | hr <;> exact at_ hr (by simp) (by simp)
  · by_cases h1 : v.ownBlock = some k
    · obtain ⟨inner, hown1⟩ := Kd.R_own hR
      exact ⟨own_base hown1 k h1, hvl k h1⟩
    · have h3 : ρ' k = ρ k := by
        show (if _ then _ else _) = _
        rw [if_neg h1]
      rw [h3] at hk
      exact ⟨(h.own k hk).1, Nat.lt_of_lt_of_le (h.own k hk).2 ho.size⟩
end Go.Proofs.YthbngidbfhcdaaaGreat.C
/- How far a shard's words are at least from a text. -/
namespace Go.Proofs.YthbngidbfhcdaaaGreat.C
open Go.RowKit Go.Maps Go.Proofs.YthbngidbfhcdaaaGreat.Mem Go.Proofs.YthbngidbfhcdaaaGreatW.PrintWords Go.Proofs.YthbngidbfhcdaaaGreat.PCoordScript
set_option linter.unusedVariables false
set_option linter.unusedSimpArgs false
def lenLow (l : List S107) (s : Int) : Int := if 0 < s then (rd_T107 l (s - 1)).f0 else 1
def lenHigh (l : List S107) (s : Int) : Int := if s < l.length then (if ((rd_T107 l s).f1).toList = ([] : List UInt8) then (rd_T107 l s).f0 - 1 else (rd_T107 l s).f0) else 12
def leastD (l : List S107) (s n : Int) : Int := if lenHigh l s < lenLow l s then -1 else if n < lenLow l s then lenLow l s - n else if lenHigh l s < n then n - lenHigh l s else 0
theorem cut_at {l : List S107} (h : CutsMay l) {i : Int} (h0 : 0 ≤ i) (h1 : i < l.length) : 1 ≤ (rd_T107 l i).f0 ∧ (rd_T107 l i).f0 ≤ 12 := by
  have := h.2.1 _ (snoc_at z107 h0 h1).1
  exact ⟨this.1, this.2.1⟩
theorem wrap_id {n : Int} (h0 : -9223372036854775808 ≤ n) (h1 : n ≤ 9223372036854775807) : wrap64 n = n := by
  unfold wrap64
  omega
theorem lens_f {l : List S107} (h : CutsMay l) {s : Int} (h0 : 0 ≤ s) (h1 : s ≤ l.length) : part_Lens.f 3 l s = some (lenLow l s, lenHigh l s) := by
  have hl := h.1
  have key : ∀ x6, part_Lens.j1 2 l s x6 12 = some (x6, lenHigh l s) := by
    intro x6
    show part_Lens.j1 (1 + 1) l s x6 12 = _
    rw [part_Lens.j1]
    unfold lenHigh
    by_cases hs : s < (l.length : Int)
    · have hc := cut_at h h0 hs
      rw [if_pos hs, if_pos h0, if_pos hs]
      by_cases ht : ((rd_T107 l s).f1).toList = ([] : List UInt8)
      · rw [if_pos ht, if_pos ht, wrap_id (by omega) (by omega)]
      · rw [if_neg ht, if_neg ht]
    · rw [if_neg hs, if_neg hs]
  unfold part_Lens.f
  rw [if_neg (by omega), decide_eq_false (show ¬ s > (l.length : Int) by omega)]
  show part_Lens.j0 (2 + 1) l s false = _
  rw [part_Lens.j0]
  unfold lenLow
  rw [if_neg (by simp)]
  by_cases hp : s > 0
  · rw [if_pos hp, wrap_id (by omega) (by omega), if_pos (by omega), if_pos (by omega), key, if_pos hp]
  · rw [if_neg hp, key, if_neg hp]
theorem len_range {l : List S107} (h : CutsMay l) {s : Int} (h0 : 0 ≤ s) (h1 : s ≤ l.length) : (1 ≤ lenLow l s ∧ lenLow l s ≤ 12) ∧ 0 ≤ lenHigh l s ∧ lenHigh l s ≤ 12 := by
  have hl := h.1
  constructor
  · unfold lenLow
    split
    · exact cut_at h (by omega) (by omega)
    · omega
  · unfold lenHigh
    split
    · have := cut_at h h0 (by omega)
      split <;> omega
    · omega
theorem part_Least (A : Option Addr) (c : Nat) (l : List S107) (s n : Int) (w : World) (hc : Kd.C k107 w A l.length l) (hn : l.length ≤ c) (hm : CutsMay l) (h0 : 0 ≤ s) (h1 : s ≤ l.length) (hr : -1 ≤ n ∧ n ≤ 9223372036854775807) :
    Calls Tryz.prog 27 #[.slice A l.length c, .int .i64 s, .int .i64 n] w fun e w' => e = .returned (.int .i64 (leastD l s n)) ∧ Below w.heap.size w w' := by
  have hg := len_range hm h0 h1
  refine (part_Least.calls 3 A c l s n (leastD l s n) w hc hn ?_).mono fun e w' h => ⟨h.1, h.2.below⟩
  unfold part_Least.f leastD
  rw [lens_f hm h0 h1]
  show (if _ then _ else _) = _
  by_cases a : lenLow l s > lenHigh l s
  · rw [if_pos a, if_pos a]
  · rw [if_neg a, if_neg a]
    by_cases b : n < lenLow l s
    · rw [if_pos b, if_pos b, wrap_id (by omega) (by omega)]
    · rw [if_neg b, if_neg b]
      by_cases d : n > lenHigh l s
      · rw [if_pos d, if_pos d, wrap_id (by omega) (by omega)]
      · rw [if_neg d, if_neg d]
end Go.Proofs.YthbngidbfhcdaaaGreat.C
/- How far a shard is at least from what is asked, as the coordinator says it. -/
namespace Go.Proofs.YthbngidbfhcdaaaGreat.C
open Go.RowKit Go.Maps Go.Proofs.YthbngidbfhcdaaaGreat.Mem Go.Proofs.YthbngidbfhcdaaaGreatW.PrintWords Go.Proofs.YthbngidbfhcdaaaGreat.PCoordScript
set_option linter.unusedVariables false
set_option linter.unusedSimpArgs false
def wantD (l : List S107) (s : Int) (q : S40) : Int := if q.f1 < leastD l s (tlen q.f0) then -1 else leastD l s (tlen q.f0)
abbrev queryB (q : S40) : Obj := .cells #[.string q.f0, .int .i64 q.f1, .int .i64 q.f2] 40 (0, 0)
set_option maxRecDepth 100000 in
theorem coord_least (c : Cfg) (x : Nat) (A1 : Option Addr) (c1 : Nat) (s : Int) (q : S40) (w : World) (hx : w.cell? ⟨x, 1, none⟩ = some (.slice A1 c.cuts.length c1)) (hC : Kd.C k107 w A1 c.cuts.length c.cuts) (hcap : c.cuts.length ≤ c1) (hm : c.May) (h0 : 0 ≤ s) (h1 : s ≤ c.cuts.length) (hs : q.f0.size ≤ 9223372036854775807) :
    Calls Tryz.prog 64 #[.pointer (some ⟨x, 0, none⟩), .int .i64 s, qval q] w fun e w' => e = .returned (.int .i64 (wantD c.cuts s q)) ∧ Below w.heap.size w w' := by
  have htl := tlen_range q.f0
  have H : Aside0 (∀ W, Below w.heap.size w W → W.cell? ⟨x, 1, none⟩ = some (.slice A1 c.cuts.length c1) ∧ Kd.C k107 W A1 c.cuts.length c.cuts) := ⟨fun W hb => ⟨pw_cell_below hb hx, Kd.C_below hC hb⟩⟩
  have hlx := World.block_lt_of_cell? w _ hx
  have HS : Aside0 ((w.alloc (queryB q)).drew.heap[w.heap.size]? = some (queryB q)) := ⟨blk_new _ _⟩
  have HR := Aside0.mk hm.2.1
  have HB : Aside0 (Below w.heap.size w (w.alloc (queryB q)).drew) := ⟨below_drew1 (below_alloc (Below.refl _ _) _)⟩
  clear hx hC hm
  rcases Mem.dec_or (q.f1 < leastD c.cuts s (tlen q.f0)) with d | d
  all_goals
    go_enter Tryz.func64, Tryz.ntmps64
    go_upto_region 1 with fail
    go_region_held3 (fun W => W.heap[w.heap.size]? = some (queryB q) ∧ W.cell? ⟨w.heap.size, 0, none⟩ = some (.string q.f0) ∧ W.cell? ⟨x, 1, none⟩ = some (.slice A1 c.cuts.length c1))
      (first
        | exact ⟨HS.out, (blk_cell HS.out 0).trans rfl, (H.out _ HB.out).1⟩
        | exact ⟨HQ1.out, (blk_cell HQ1.out 0).trans rfl, (H.out _ HB1.out).1⟩
        | exact ⟨HQ2.out, (blk_cell HQ2.out 0).trans rfl, (H.out _ HB2.out).1⟩
        | go_keep)
      ((first
        | (go_simp; go_at_call 28; refine (text_Len _ _ hs).mono ?_; rintro e w1 ⟨rfl, hb⟩; have HQ1 := Aside0.mk (blk_below HS.out hb); have HB1 := Aside0.mk (below_step HB.out hb); clear hb)
        | (go_simp; go_at_call 27; refine (part_Least A1 c1 c.cuts s (tlen q.f0) _ (H.out _ HB1.out).2 hcap HR.out h0 h1 (by omega)).mono ?_; rintro e w2 ⟨rfl, hb⟩; have HQ2 := Aside0.mk (blk_below HQ1.out hb); have HB2 := Aside0.mk (below_step HB1.out hb); clear hb)))
    all_goals
      have e1 : w2.cell? ⟨w.heap.size, 1, none⟩ = some (.int .i64 q.f1) := (blk_cell HQ2.out 1).trans rfl
      go_wp2
      go_ret
      exact ⟨by simp at d; unfold wantD; split <;> first | rfl | (exfalso; omega), HB2.out⟩
end Go.Proofs.YthbngidbfhcdaaaGreat.C
/- A coordinator, a query more. -/
namespace Go.Proofs.YthbngidbfhcdaaaGreat.C
open Go.RowKit Go.Maps Go.Proofs.YthbngidbfhcdaaaGreat.Mem Go.Proofs.YthbngidbfhcdaaaGreatW.PrintWords Go.Proofs.YthbngidbfhcdaaaGreat.PCoordScript
set_option linter.unusedVariables false
set_option linter.unusedSimpArgs false
/-- How far each of the first n shards is at least. -/
def leasts (c : Cfg) (q : S40) (n : Nat) : List Int := (List.range n).map fun s : Nat => wantD c.cuts s q
def newMg (c : Cfg) (q : S40) : Mg := ⟨q.f2, (leasts c q (c.cuts.length + 1)).map newSh, []⟩
def newQy (c : Cfg) (S : Co) (q : S40) : Qy := ⟨S.last + 1, q, newMg c q, fun _ => Tn.none⟩
def Co.add (c : Cfg) (S : Co) (j : Nat) (q : S40) : Co := { S with last := S.last + 1, Q := updQ S.Q j (some (newQy c S q)), told := S.told ++ [⟨S.last + 1, q, [], false, false⟩] }
theorem leasts_succ (c : Cfg) (q : S40) (n : Nat) : leasts c q (n + 1) = leasts c q n ++ [wantD c.cuts n q] := by simp [leasts, List.range_succ]
theorem leasts_len (c : Cfg) (q : S40) (n : Nat) : (leasts c q n).length = n := by simp [leasts]
/-- A new merge, as merges stand. -/
theorem MgAt.of_new {W : World} {base : Nat} {okM okW : Nat → Prop} {g gs cap : Nat} {n : Int} {l : List Int} (hb : W.heap[g]? = some (MergeB n (shSl gs l.length cap) (.slice none 0 0))) (hr : Kd.R kNew 235 W base (fun _ => True) (shSl gs l.length cap) l) (hg : okM g) (hgs : okM gs) :
    MgAt W base okM okW g gs cap (.slice none 0 0) ⟨n, l.map newSh, []⟩ := by
  obtain ⟨_, inner, ho, hrr⟩ := hr
  refine ⟨?_, ⟨inner, ?_, ?_⟩, Kd.R_nil _ _ _ _ _, hg, hgs⟩
  · show _ = some (MergeB n (shSl gs (l.map newSh).length cap) _)
    rw [List.length_map]
    exact hb
  · show W.ownsRow _ _ _ (shSl gs (l.map newSh).length cap) (l.map newSh).length inner
    rw [List.length_map]
    exact ho
  · refine ⟨by rw [List.length_map]; exact hrr.1, fun j p hj => ?_⟩
    rw [List.getElem?_map] at hj
    cases hd : l[j]? with
    | none => rw [hd] at hj; cases hj
    | some d =>
      rw [hd] at hj
      cases hj
      have h2 : _ = newCells d := hrr.2 j d hd
      have h3 : (kNew).sz = 7 := rfl
      rw [h3] at h2
      rw [h2]
      exact ⟨none, 0, rfl, Kd.C_nil _ _, Nat.le_refl _, fun ad e => by cases e⟩
theorem slot_add {Q : Nat → Option Qy} (hu : Uniq Q) {j : Nat} {y : Qy} (hj : j < 4) (hf : Q j = none) (hn : ∀ s z, s < 4 → Q s = some z → z.id ≠ y.id) : Uniq (updQ Q j (some y)) ∧ ∀ id, slotN (updQ Q j (some y)) id 4 = if id = y.id then some j else slotN Q id 4 := by
  have hu' : Uniq (updQ Q j (some y)) := by
    intro a b z z' ha hb hz hz' hzz
    unfold updQ at hz hz'
    by_cases h1 : a = j
    · rw [if_pos h1] at hz
      cases hz
      by_cases h2 : b = j
      · rw [h1, h2]
      · rw [if_neg h2] at hz'
        exact absurd hzz.symm (hn b z' hb hz')
    · rw [if_neg h1] at hz
      by_cases h2 : b = j
      · rw [if_pos h2] at hz'
        cases hz'
        exact absurd hzz (hn a z ha hz)
      · rw [if_neg h2] at hz'
        exact hu a b z z' ha hb hz hz' hzz
  refine ⟨hu', fun id => Option.ext fun r => ?_⟩
  rw [slot_iff hu']
  unfold updQ
  by_cases he : id = y.id
  · rw [if_pos he]
    constructor
    · rintro ⟨hr, z, hz, hzi⟩
      by_cases h1 : r = j
      · rw [h1]
      · rw [if_neg h1] at hz
        exact absurd (hzi.trans he) (hn r z hr hz)
    · intro h
      cases h
      exact ⟨hj, y, by rw [if_pos rfl], he.symm⟩
  · rw [if_neg he, slot_iff hu]
    by_cases h1 : r = j
    · subst h1
      rw [if_pos rfl, hf]
      constructor
      · rintro ⟨_, z, hz, hzi⟩
        cases hz
        exact absurd hzi.symm he
      · rintro ⟨_, z, hz, _⟩
        cases hz
    · rw [if_neg h1]
theorem QAt.told_new {ρ : Nat → Own} {W : World} {base : Nat} {v : Value} {t : S58} {i : Nat} (hv : v = .slice none 0 0) (h : t.f2 = []) : ToldR ρ W base (t, i) (toldV t v) := ⟨v, rfl, by rw [hv, h]; exact Kd.R_nil _ _ _ _ _⟩
theorem row_block {e sz : Nat} {α : Type} {R : α → List Value → Prop} {W : World} {base : Nat} {v : Value} {ps : List α} (h : OwnRow R e sz W base v ps) {k : Nat} (hk : v.ownBlock = some k) : base ≤ k ∧ k < W.heap.size ∧ ∃ cur, W.heap[k]? = some (.cells cur e (0, 0)) := by
  obtain ⟨inner, ho, _⟩ := h
  exact ⟨own_base ho k hk, own_lt ho k hk, own_at ho hk⟩
theorem blk_type {W : World} {k k' : Nat} {cs cs' : Array Value} {t t' : TypeId} (h : W.heap[k]? = some (.cells cs t (0, 0))) (h' : W.heap[k']? = some (.cells cs' t' (0, 0))) (hne : t ≠ t') : k ≠ k' := by
  rintro rfl
  rw [h] at h'
  cases h'
  exact hne rfl
def newTold (S : Co) (q : S40) : S58 := ⟨S.last + 1, q, [], false, false⟩
def updB (blk : Int → Nat) (id : Int) (b : Nat) : Int → Nat := fun i => if i = id then b else blk i
theorem CoAt.add {c : Cfg} {base : Nat} {ρ : Nat → Own} {I : CoIds} {blk : Int → Nat} {S : Co} {w W : World} (h : CoAt c base ρ I blk S w) {q : S40} {j b g gs cap : Nat} {vd : Value} {fof fat : Int → Option Int} {fq : Int → Option Nat} (hj : j < 4) (hjs : j < c.sl.toNat) (hf : S.Q j = none)
    (ho : Only (fun k => ρ k = .co 0 ∨ ρ k = .co 2 ∨ ρ k = .co 4 ∨ ρ k = .co 5 ∨ ρ k = .co 6 ∨ ρ k = .co 7) w W)
    (hco : W.heap[I.x]? = some (CoB (c.bare I.A1 I.c1) I.cv S.now (.pointer (some ⟨I.l, 0, none⟩)) (.pointer (some ⟨I.s, 0, none⟩)) (.pointer (some ⟨I.t, 0, none⟩)) (.map (some I.m)) vd))
    (hsl : SlAt W I.s I.a I.b c.sl (S.last + 1) (S.live + 1) (upd fof (S.last + 1) (some (j : Int))) (upd fat j (some (S.last + 1)))) (hf1 : ∀ id, fof id = (S.slot id).map fun s : Nat => (s : Int)) (hf2 : ∀ k : Int, fat k = if 0 ≤ k ∧ k < 4 then (S.Q k.toNat).map fun y => y.id else none)
    (hq : MapAt Tryz.prog 3 encP W I.m (S.live + 1) (upd fq (S.last + 1) (some b))) (hq2 : ∀ id, fq id = (S.slot id).map fun _ => blk id)
    (hb : W.heap[b]? = some (QyB j (newQy c S q) g)) (hbge : w.heap.size ≤ b)
    (hg : W.heap[g]? = some (MergeB q.f2 (shSl gs (leasts c q (c.cuts.length + 1)).length cap) (.slice none 0 0))) (hgge : w.heap.size ≤ g)
    (hr : Kd.R kNew 235 W base (fun _ => True) (shSl gs (leasts c q (c.cuts.length + 1)).length cap) (leasts c q (c.cuts.length + 1))) (hgs : w.heap.size ≤ gs)
    (hd : OwnRow (ToldR ρ w base) 58 7 W base vd (S.told ++ [newTold S q]).zipIdx) (hdk : ∀ k, vd.ownBlock = some k → ρ k = .co 7 ∨ w.heap.size ≤ k) :
    ∃ ρ', Ext ρ ρ' w ∧ CoAt c base ρ' I (updB blk (S.last + 1) b) (S.add c j q) W := by
  obtain ⟨r0, r1, r2, r3, r4, r5, r6⟩ := h.roles
  have hown : ∀ k, ρ k ≠ .z → k < w.heap.size := fun k hk => (h.own k hk).2
  have hzf : ∀ k, w.heap.size ≤ k → ρ k = .z := fun k hk => by
    cases e : ρ k with
    | z => rfl
    | _ => exact absurd (hown k (by rw [e]; simp)) (Nat.not_lt.2 hk)
  have hbas : base ≤ w.heap.size := by have := h.own I.x (by rw [r0]; simp); omega
  have hgsb : gs < W.heap.size ∧ ∃ cur, W.heap[gs]? = some (.cells cur 235 (0, 0)) := by
    obtain ⟨inner, hro⟩ := Kd.R_own hr
    exact ⟨own_lt hro gs rfl, own_at hro rfl⟩
  obtain ⟨hgsl, cgs, hcgs⟩ := hgsb
  have hbg : b ≠ g := blk_type hb hg (by decide)
  have hbgs : b ≠ gs := blk_type hb hcgs (by decide)
  have hvb : ∀ k, vd.ownBlock = some k → k ≠ b ∧ k ≠ g ∧ k ≠ gs := fun k hk => by
    obtain ⟨_, _, cur, hcur⟩ := row_block hd hk
    exact ⟨blk_type hcur hb (by decide), blk_type hcur hg (by decide), blk_type hcur hcgs (by decide)⟩
  let ρ' : Nat → Own := fun k => if k = b then .qb (S.last + 1) else if k = g ∨ k = gs then .q (S.last + 1) else if vd.ownBlock = some k then .co 7 else ρ k
  have e1 : ρ' b = .qb (S.last + 1) := if_pos rfl
  have e2 : ρ' g = .q (S.last + 1) := by show (if g = b then _ else _) = _; rw [if_neg (Ne.symm hbg), if_pos (.inl rfl)]
  have e3 : ρ' gs = .q (S.last + 1) := by show (if gs = b then _ else _) = _; rw [if_neg (Ne.symm hbgs), if_pos (.inr rfl)]
  have e4 : ∀ k, vd.ownBlock = some k → ρ' k = .co 7 := fun k hk => by
    obtain ⟨a1, a2, a3⟩ := hvb k hk
    show (if k = b then _ else _) = _
    rw [if_neg a1, if_neg (by simp [a2, a3]), if_pos hk]
  have hρ : ∀ k, ρ k ≠ .z → ρ' k = ρ k := fun k hk => by
    have hk1 := hown k hk
    by_cases h1 : vd.ownBlock = some k
    · rw [e4 k h1]
      exact ((hdk k h1).resolve_right (Nat.not_le.2 hk1)).symm
    · show (if k = b then _ else _) = _
      rw [if_neg (show k ≠ b by omega), if_neg (show ¬ (k = g ∨ k = gs) by omega), if_neg h1]
  have hext : Ext ρ ρ' w := ⟨hρ, fun k hk => by
    by_cases h0 : k < w.heap.size
    · by_cases h1 : vd.ownBlock = some k
      · exact .inl (by rw [(hdk k h1).resolve_right (Nat.not_le.2 h0)]; simp)
      · have h3 : ρ' k = ρ k := by
          show (if k = b then _ else _) = _
          rw [if_neg (show k ≠ b by omega), if_neg (show ¬ (k = g ∨ k = gs) by omega), if_neg h1]
        rw [h3] at hk
        exact .inl hk
    · exact .inr (Nat.not_lt.1 h0)⟩
  refine ⟨ρ', hext, ?_⟩
  have st : ∀ {k : Nat} {r : Own}, ρ k = r → r ≠ .z → r ≠ .co 0 → r ≠ .co 2 → r ≠ .co 4 → r ≠ .co 5 → r ≠ .co 6 → r ≠ .co 7 → W.heap[k]? = w.heap[k]? := fun {k r} hr h0 h1 h2 h3 h4 h5 h6 => ho.block k (hown k (by rw [hr]; exact h0)) (by rw [hr]; simp [h1, h2, h3, h4, h5, h6])
  have hfresh : ∀ s y, s < 4 → S.Q s = some y → y.id ≠ S.last + 1 := fun s y _ hy => by
    have := h.top s y hy
    omega
  obtain ⟨hu, hslot⟩ := slot_add h.uniq (y := newQy c S q) hj hf hfresh
  have hlive : (S.add c j q).live = S.live + 1 := by
    have := live_in S.Q j (some (newQy c S q)) 4 hj
    rw [hf] at this
    simp only [Option.isSome_some, Option.isSome_none, if_true] at this
    show liveN (updQ S.Q j (some (newQy c S q))) 4 = liveN S.Q 4 + 1
    simpa using this
  have hmv : ∀ {k : Nat} {r : Own}, ρ k = r → r ≠ .z → ρ' k = r := fun {k r} hr h0 => (hρ k (by rw [hr]; exact h0)).trans hr
  refine ⟨⟨vd, hco, ?_, e4⟩, ?_, ?_, (st r1 (by simp) (by simp) (by simp) (by simp) (by simp) (by simp) (by simp)).trans h.tab, ?_, ?_, ?_, ?_, ⟨hmv r0 (by simp), hmv r1 (by simp), hmv r2 (by simp), hmv r3 (by simp), hmv r4 (by simp), hmv r5 (by simp), hmv r6 (by simp)⟩, ?_, hu, ?_, ?_, h.tin⟩
  · refine hd.imp_ fun p cs ⟨v, e, hR⟩ => ⟨v, e, Kd.R_mono (Kd.R_step hR fun k hk hl => st hk (by simp) (by simp) (by simp) (by simp) (by simp) (by simp) (by simp)) fun k hk => hmv hk (by simp)⟩
  · exact Kd.R_mono (Kd.R_step h.cuts fun k hk hl => st hk (by simp) (by simp) (by simp) (by simp) (by simp) (by simp) (by simp)) fun k hk => hmv hk (by simp)
  · exact Kd.R_mono (Kd.R_step h.copies fun k hk hl => st hk (by simp) (by simp) (by simp) (by simp) (by simp) (by simp) (by simp)) fun k hk => hmv hk (by simp)
  · refine ⟨_, _, by rw [hlive]; exact hsl, fun id => ?_, fun k => ?_⟩
    · show upd fof (S.last + 1) _ id = (slotN (updQ S.Q j (some (newQy c S q))) id 4).map _
      rw [hslot]
      unfold upd
      show (if id = S.last + 1 then _ else _) = (if id = S.last + 1 then _ else _ : Option Nat).map _
      by_cases he : id = S.last + 1
      · rw [if_pos he, if_pos he]; rfl
      · rw [if_neg he, if_neg he]; exact hf1 id
    · show upd fat (j : Int) _ k = if 0 ≤ k ∧ k < 4 then (updQ S.Q j (some (newQy c S q)) k.toNat).map _ else none
      unfold upd updQ
      by_cases he : k = (j : Int)
      · subst he
        rw [if_pos rfl, Int.toNat_natCast, if_pos rfl, if_pos (by omega)]
        rfl
      · rw [if_neg he, hf2 k]
        by_cases hk : 0 ≤ k ∧ k < 4
        · rw [if_pos hk, if_pos hk, if_neg (by omega)]
        · rw [if_neg hk, if_neg hk]
  · obtain ⟨l, ⟨tvv, h1, h2⟩, h3⟩ := h.tim.move (st r3 (by simp) (by simp) (by simp) (by simp) (by simp) (by simp) (by simp)) fun k hk hr => st hr (by simp) (by simp) (by simp) (by simp) (by simp) (by simp) (by simp)
    exact ⟨l, ⟨tvv, h1, Kd.R_mono h2 fun k hk => hmv hk (by simp)⟩, h3⟩
  · refine ⟨_, by rw [hlive]; exact hq, fun id => ?_⟩
    show upd fq (S.last + 1) _ id = (slotN (updQ S.Q j (some (newQy c S q))) id 4).map _
    rw [hslot]
    unfold upd updB
    show (if id = S.last + 1 then _ else _) = (if id = S.last + 1 then _ else _ : Option Nat).map _
    by_cases he : id = S.last + 1
    · rw [if_pos he, if_pos he, if_pos he]; rfl
    · rw [if_neg he, if_neg he, if_neg he]; exact hq2 id
  · intro s y hs hy
    have hy2 : updQ S.Q j (some (newQy c S q)) s = some y := hy
    unfold updQ at hy2
    by_cases he : s = j
    · subst he
      rw [if_pos rfl] at hy2
      cases hy2
      have hbb : updB blk (S.last + 1) b (newQy c S q).id = b := if_pos rfl
      rw [hbb]
      exact ⟨g, gs, cap, _, hb, e1, MgAt.of_new hg hr e2 e3⟩
    · rw [if_neg he] at hy2
      obtain ⟨g', gs', cap', tv', hQ⟩ := h.qat s y hs hy2
      have hbb : updB blk (S.last + 1) b y.id = blk y.id := if_neg (hfresh s y hs hy2)
      rw [hbb]
      exact ⟨g', gs', cap', tv', (hQ.move fun k hk hr => by rcases hr with hr | hr | hr <;> exact st hr (by simp) (by simp) (by simp) (by simp) (by simp) (by simp) (by simp)).role hρ⟩
  · intro k hk
    by_cases h1 : k = b
    · exact ⟨by omega, by rw [h1]; exact blk_lt hb⟩
    · by_cases h2 : k = g ∨ k = gs
      · rcases h2 with h2 | h2
        · exact ⟨by omega, by rw [h2]; exact blk_lt hg⟩
        · exact ⟨by omega, by rw [h2]; exact hgsl⟩
      · by_cases h3 : vd.ownBlock = some k
        · obtain ⟨a1, a2, _⟩ := row_block hd h3
          exact ⟨a1, a2⟩
        · have h4 : ρ' k = ρ k := by
            show (if k = b then _ else _) = _
            rw [if_neg h1, if_neg h2, if_neg h3]
          rw [h4] at hk
          exact ⟨(h.own k hk).1, Nat.lt_of_lt_of_le (h.own k hk).2 ho.size⟩
  · intro s y hy
    have hy2 : updQ S.Q j (some (newQy c S q)) s = some y := hy
    have hl := h.len
    unfold updQ at hy2
    show s < _ ∧ 1 ≤ y.id ∧ y.id ≤ S.last + 1
    by_cases he : s = j
    · rw [if_pos he] at hy2
      cases hy2
      refine ⟨by omega, ?_, ?_⟩
      · show 1 ≤ S.last + 1
        omega
      · exact Int.le_refl _
    · rw [if_neg he] at hy2
      have := h.top s y hy2
      exact ⟨this.1, this.2.1, by omega⟩
  · show (((S.told ++ [newTold S q]).length : Nat) : Int) = S.last + 1
    rw [List.length_append, List.length_singleton]
    have := h.len
    omega
end Go.Proofs.YthbngidbfhcdaaaGreat.C
/- coord.goes, walked. -/
namespace Go.Proofs.YthbngidbfhcdaaaGreat.C
open Go.RowKit Go.Maps Go.Proofs.YthbngidbfhcdaaaGreat.Mem Go.Proofs.YthbngidbfhcdaaaGreatW.PrintWords Go.Proofs.YthbngidbfhcdaaaGreat.PCoordScript
set_option linter.unusedVariables false
set_option linter.unusedSimpArgs false
section
variable {P : Program} {ops : Array Oper} {o : Oper} {a : Act} {Q : Exit → Act → World → Prop} {Kc : Act → World → Prop}
/-- append of whatever items are read onto a row of items, as a step of a region that draws. -/
theorem step_append46 {w : World} (base : Nat) (hw : Region.wanted o (yielded ops a.tmps) = true) (s x : Operand)
    (ho : o.op = .call { callee := .builtin .append, args := #[s, x], argTypes := #[56, 56] }) (v : Value) (xs ys : List S46) (A : Option Addr) (c : Nat) (hs : a.eval s = v) (hx : a.eval x = .slice A ys.length c) {ok : Nat → Prop}
    (HO : Kd.R k46 46 w base ok v xs) (HC : Kd.C k46 w A ys.length ys) (hba : base ≤ w.heap.size) (hl : (xs.length + ys.length) * 24 ≤ 140737488355328)
    (h : ∀ v1 w1, Kd.R k46 46 w1 base (fun _ => True) v1 (xs ++ ys) → w.grownBy w1 v.ownBlock → (v1.ownBlock = v.ownBlock ∨ v1.ownBlock = some w.heap.size) → Kc (a.put o.dst v1) w1) :
    if Region.wanted o (yielded ops a.tmps) = true then Oper.wp Tryz.prog o a w Kc Q else Kc (a.put o.dst undef) w := by
  rw [if_pos hw]
  obtain ⟨cs, hr, hcs⟩ := Rd.flat_of_C HC
  obtain ⟨_, inner, hown, hrr⟩ := HO
  obtain ⟨v', w', hrun, h2, h3, h4⟩ := Rd.run_append_flat (P := Tryz.prog) w base 56 o.type 46 (.agg #[.int .i64 0, .string ⟨#[]⟩]) 2 24 Tryz.underlying56 info46 rfl (by decide) v xs.length inner hown A ys.length c cs hr.1 hcs (Rd.flat_one hr) (by unfold maxLen; omega) hl hba
  unfold Oper.wp execOp
  simp only [ho, resolve, invoke, builtin, Sem.run_bind, Sem.run_pure, Result.andThen_ok, List.map_toArray, List.map_cons, List.map_nil, hs, hx, hrun]
  refine h _ _ ⟨fun _ _ => trivial, inner ++ cs, by rw [List.length_append]; exact h2, ?_⟩ h3 h4
  exact Rd.reps_append (hrr.imp_ fun _ _ hp => hp) (hr.imp_ fun x cells hK => ⟨[.int .i64 x.f0], [.string x.f1], k46_inv hK, rfl, rfl⟩)
end
theorem CoB_dv {c : Cfg} {cv : Value} {now : Int} {l s t q dv dv' : Value} {o : Option Obj} (h : o = some (CoB c cv now l s t q dv)) (h' : o = some (CoB c cv now l s t q dv')) : dv = dv' := by
  rw [h] at h'
  injection h' with h'
  injection h' with h' _
  have := congrArg (fun a : Array Value => a[18]?) h'
  simpa [coCells] using this
/-- What goes on: what is sure is told; done, the query is over. -/
def Co.goes (c : Cfg) (S : Co) (s : Nat) (y : Qy) : Co :=
  if y.m.tell.2.done = true then Co.over c { S.tells s y with told := (S.tells s y).told.set (y.id - 1).toNat { toldAt (S.tells s y) (y.id - 1).toNat with f3 := true } } s else S.tells s y
def goesL (c : Cfg) (s : Nat) (y : Qy) : List LetD := if y.m.tell.2.done = true then stops s y.id c.wk.toNat else []
/-- What a call of a coordinator leaves. -/
structure CoRes (c : Cfg) (base : Nat) (ρ : Nat → Own) (I : CoIds) (S' : Co) (ls : List LetD) (w w' : World) (v : Value) : Prop where
  co : ∃ ρ' blk', Ext ρ ρ' w ∧ CoAt c base ρ' I blk' S' w' ∧ Kd.R kLet 51 w' w.heap.size (fun k => ρ' k = .z) v ls
  only : Only (fun k => ρ k ≠ .z) w w'
/-- Bounds that hold of a query. -/
structure QyOk (S : Co) (y : Qy) : Prop where
  id : y.id ≤ 1000000
  sh : y.m.sh.length ≤ 6
  left : y.m.left ≤ 1000
  told : y.m.told.length ≤ 1000
  items : (toldAt S (y.id - 1).toNat).f2.length + y.m.tell.1.length ≤ 100000
theorem tell_len : ∀ (k : Nat) (M : Mg), (M.tellN k).2.sh.length = M.sh.length
  | 0, M => rfl
  | k + 1, M => by
    cases h : M.next with
    | none => rw [Mg.tellN_none h]
    | some i =>
      rw [Mg.tellN_some h]
      show (Mg.tellN k (M.tells i)).2.sh.length = _
      rw [tell_len k]
      show (M.sh.set i _).length = _
      rw [List.length_set]
set_option maxRecDepth 100000 in
set_option maxHeartbeats 4000000 in
theorem coord_goes (c : Cfg) (base : Nat) (ρ : Nat → Own) (I : CoIds) (blk : Int → Nat) (S : Co) (s : Nat) (y : Qy) (w : World) (h : CoAt c base ρ I blk S w) (hm : c.May) (hs : s < 4) (hy : S.Q s = some y) (hok : QyOk S y) :
    Calls Tryz.prog 66 #[.pointer (some ⟨I.x, 0, none⟩), .pointer (some ⟨blk y.id, 0, none⟩)] w fun e w' => ∃ v, e = .returned v ∧ CoRes c base ρ I (S.goes c s y) (goesL c s y) w w' v := by
  obtain ⟨dv, hco, htold⟩ := h.co
  obtain ⟨g, gs, cap, tv, hQ⟩ := h.qat s y hs hy
  have htop := h.top s y hy
  have hlen := h.len
  have hjl : (y.id - 1).toNat < S.told.length := by omega
  obtain ⟨gt, capt, u, hdv, hgt, ⟨gcur, hgcur⟩, hcell, hu⟩ := htold.get _ hjl
  have hco' := hco
  rw [hdv] at hco'
  have HX : Aside0 (∀ W : World, (∀ k, k < w.heap.size → (ρ k = .co 0 ∨ ρ k = .qb y.id ∨ ρ k = .co 7) → W.heap[k]? = w.heap[k]?) → W.heap[I.x]? = some (CoB (c.bare I.A1 I.c1) I.cv S.now (.pointer (some ⟨I.l, 0, none⟩)) (.pointer (some ⟨I.s, 0, none⟩)) (.pointer (some ⟨I.t, 0, none⟩)) (.map (some I.m)) (.slice (some ⟨gt, 0, none⟩) S.told.length capt)) ∧ W.heap[blk y.id]? = some (QyB s y g) ∧ W.cell? ⟨gt, (y.id - 1).toNat * 7 + 4, none⟩ = some u) :=
    ⟨fun W hW => ⟨(hW _ (blk_lt hco) (.inl h.roles.1)).trans hco', (hW _ (blk_lt hQ.box) (.inr (.inl hQ.bo))).trans hQ.box, (World.cell?_of_block (hW gt (World.block_lt_of_cell? w _ (hcell 4 _ rfl)) (.inr (.inr hgt)))).trans (hcell 4 _ rfl)⟩⟩
  have HXC : Aside0 (∀ W : World, W.heap[I.x]? = w.heap[I.x]? → W.heap[I.x]? = some (CoB (c.bare I.A1 I.c1) I.cv S.now (.pointer (some ⟨I.l, 0, none⟩)) (.pointer (some ⟨I.s, 0, none⟩)) (.pointer (some ⟨I.t, 0, none⟩)) (.map (some I.m)) (.slice (some ⟨gt, 0, none⟩) S.told.length capt))) := ⟨fun W hW => hW.trans hco'⟩
  have H := Aside0.mk h
  have HQ := Aside0.mk hQ
  have HT := Aside0.mk htold
  obtain ⟨t0, ht0⟩ : ∃ t0, t0 = toldAt S (y.id - 1).toNat := ⟨_, rfl⟩
  have hu0 : Kd.R k46 46 w base (fun k => ρ k = .it (y.id - 1).toNat) u t0.f2 := by rw [ht0]; exact hu
  have HU := Aside0.mk hu0
  have HT0 := Aside0.mk ht0
  have hit0 : t0.f2.length + y.m.tell.1.length ≤ 100000 := by rw [ht0]; exact hok.items
  clear hu0 ht0
  have HDV := Aside0.mk hdv
  have HGC := Aside0.mk hgcur
  have HCO := Aside0.mk hco
  have hbas : base ≤ w.heap.size := by have := h.own I.x (by rw [h.roles.1]; simp); omega
  have hx0 := HX.out w fun _ _ _ => rfl
  have x18 : w.cell? ⟨I.x, 18, none⟩ = some (.slice (some ⟨gt, 0, none⟩) S.told.length capt) := (blk_cell hx0.1 18).trans rfl
  have y0 : w.cell? ⟨blk y.id, 0, none⟩ = some (.int .i64 y.id) := (blk_cell hx0.2.1 0).trans rfl
  have hi0 : 0 ≤ y.id - 1 := by omega
  have hi1 : 1 ≤ y.id := by omega
  have hi2 : y.id - 1 < S.told.length := by omega
  have hid := hok.id
  have HG := Aside0.mk hgt
  have hzf : Aside0 (∀ k, w.heap.size ≤ k → ρ k = .z) := ⟨fun k hk => by
    cases e : ρ k with
    | z => rfl
    | _ => exact absurd (h.own k (by rw [e]; simp)).2 (Nat.not_lt.2 hk)⟩
  clear h hco hco' htold hQ hu hcell hx0 hlen hdv hgt htop hgcur
  go_enter Tryz.func66, Tryz.ntmps66
  go_upto_region 1 with fail
  go_region
  go_upto_region 2 with fail
  refine Rd.gen_wp (R := fun V => Below w.heap.size w V) (below_drew1 (Below.refl _ _)) ?_
  clear x18 y0
  rintro V hV
  have hjj : (y.id - 1).toNat = y.id.toNat - 1 := by omega
  have HJ := Aside0.mk hjj
  have hVd := below_drew1 hV
  have hxV := HX.out V.drew fun k hk _ => hVd.block k hk
  have HV := Aside0.mk hVd
  have y5 : V.cell? ⟨blk y.id, 5, none⟩ = some (.pointer (some ⟨g, 0, none⟩)) := (blk_cell hxV.2.1 5).trans rfl
  have z4 : V.cell? ⟨gt, (y.id.toNat - 1) * 7 + 4, none⟩ = some u := by rw [← HJ.out]; exact hxV.2.2
  have y5d : V.drew.cell? ⟨blk y.id, 5, none⟩ = some (.pointer (some ⟨g, 0, none⟩)) := y5
  have HQV := Aside0.mk (HQ.out.move (W1 := V.drew) fun k hk _ => hVd.block k hk)
  have hWM : ∀ k, ρ k = .imm → ¬ ρ k = .q y.id := fun k h1 h2 => by rw [h1] at h2; cases h2
  have hWs : Aside0 (∀ k, ρ k = .imm → k < V.drew.heap.size) := ⟨fun k hk => Nat.lt_of_lt_of_le (H.out.own k (by rw [hk]; simp)).2 hVd.size⟩
  have hbaV : base ≤ V.drew.heap.size := Nat.le_trans hbas hVd.size
  have HUV := Aside0.mk (Kd.R_below HU.out hVd)
  obtain ⟨Au, cu, hu'⟩ := Kd.R_slice HU.out
  subst hu'
  have hl1 := hok.sh
  have hl2 := hok.left
  have hl3 := hok.told
  have hlit : ((t0.f2.length + y.m.tell.1.length) * 24 ≤ 140737488355328) := by omega
  clear hV hVd hxV hjj
  go_region_law (first
    | (go_simp; go_at_call 113; refine (merge_Tell base (fun k => ρ k = .q y.id) (fun k => ρ k = .imm) g gs cap tv y.m _ HQV.out.mg hWs.out hWM hl1 hl2 hl3 hbaV).mono ?_; rintro e w3 ⟨v3, tv3, rfl, hTS⟩; have HTS := Aside0.mk hTS; obtain ⟨A3, c3, hv3⟩ := Kd.R_slice hTS.l; subst hv3; have z4' : w3.cell? ⟨gt, (y.id.toNat - 1) * 7 + 4, none⟩ = some (.slice Au t0.f2.length cu) := (World.cell?_of_block (hTS.only.block gt (World.block_lt_of_cell? V.drew _ z4) (by rw [HG.out]; simp))).trans z4; have HU3 := Aside0.mk (Kd.R_step HUV.out fun k hk hl => hTS.only.block k hl (by rw [hk]; simp)); have HC3 := Aside0.mk (Kd.R_reads' hTS.l).2.2; have hba3 := Nat.le_trans hbaV hTS.only.size; clear hTS)
    | (refine step_append46 (w := w3) base rfl (.tmp 20) (.tmp 25) rfl (.slice Au t0.f2.length cu) t0.f2 y.m.tell.1 A3 c3 rfl rfl HU3.out HC3.out hba3 hlit ?_; intro v4 w4 hr hg hat; have hne : some gt ≠ (Value.slice Au t0.f2.length cu).ownBlock := fun e => (by have h9 : ρ gt = .it (y.id - 1).toNat := HU.out.1 gt e.symm; rw [HG.out] at h9; cases h9); have z4'' : w4.cell? ⟨gt, (y.id.toNat - 1) * 7 + 4, none⟩ = some (.slice Au t0.f2.length cu) := hg.cell z4' hne; obtain ⟨A4, c4, hv4⟩ := Kd.R_slice hr; subst hv4; have HR := Aside0.mk hr; have fz4 := blk_frozen (blk_grown ((HTS.out.only.block gt (Nat.lt_of_lt_of_le (blk_lt HGC.out) HV.out.size) (by rw [HG.out]; simp)).trans (blk_below HGC.out HV.out)) hg hne) ((y.id.toNat - 1) * 7 + 4); have HGR := Aside0.mk hg; have HAT := Aside0.mk hat; clear hr hg hat hne))
  all_goals
    go_upto_region 3 with fail
    have hR4 := HR.out
    have htells := CoAt.tells (j := y.id.toNat - 1) (H.out.fresh HV.out) hs hy HQV.out (by omega) (dv := dv) (blk_below HCO.out HV.out) (HT.out.move fun k hk _ => HV.out.block k hk) HDV.out HG.out HTS.out (by rw [← HJ.out, ← HT0.out]; exact HUV.out) (by rw [← HJ.out, ← HT0.out]; exact hR4) HGR.out HAT.out
    refine Rd.gen_wp (R := fun W => ∃ ρ', CoAt c base ρ' I blk (S.tells s y) W ∧ Ext ρ ρ' V.drew ∧ Only (fun k => ρ k = .q y.id ∨ ρ k = .it (y.id.toNat - 1) ∨ ρ k = .co 7) V.drew W)
      (by obtain ⟨ρ', a1, a2, a3⟩ := htells; simp only [List.length_append] at a1 a3; first | exact ⟨ρ', a1, a2, a3⟩ | exact ⟨ρ', a1.fresh (below_drew1 (Below.refl _ _)), a2, a3.drew⟩) ?_
    clear htells hR4 HTS HR HGR HAT HU3 HC3 z4' fz4 z4'' hba3 y5 y5d z4
    rintro W ⟨ρ', hC, hE, hO⟩
    obtain ⟨y', hy'⟩ : ∃ y' : Qy, y' = { y with m := y.m.tell.2 } := ⟨_, rfl⟩
    have hQ' : (S.tells s y).Q s = some y' := by
      show updQ S.Q s (some _) s = _
      unfold updQ
      rw [if_pos rfl, hy']
    have hid' : y'.id = y.id := by rw [hy']
    obtain ⟨g', gs', cap', tv', hQA⟩ := hC.qat s y' hs hQ'
    rw [hid'] at hQA
    obtain ⟨TA, tc, htv⟩ := Kd.R_slice hQA.mg.told
    subst htv
    have hsh : y'.m.sh.length ≤ 6 := by
      rw [hy']
      show (Mg.tellN _ _).2.sh.length ≤ 6
      rw [tell_len]
      exact hok.sh
    have yy5 : W.cell? ⟨blk y.id, 5, none⟩ = some (.pointer (some ⟨g', 0, none⟩)) := (blk_cell hQA.box 5).trans rfl
    have HQA := Aside0.mk hQA
    have HC := Aside0.mk hC
    have HE := Aside0.mk hE
    have HO := Aside0.mk hO
    have HY' := Aside0.mk hy'
    have hmm : y'.m = y.m.tell.2 := by rw [hy']
    have HMM := Aside0.mk hmm
    clear hQA hC hE hO hy' hmm
    have hOz : Aside0 (Only (fun k => ρ k ≠ .z) w W) := ⟨(Only.fresh HV.out _).next (HO.out.mono fun k _ hk => by rcases hk with hk | hk | hk <;> (rw [hk]; simp))⟩
    have hEz : Aside0 (Ext ρ ρ' w) := ⟨⟨HE.out.keep, fun k hk => (HE.out.new k hk).imp (fun h => h) fun h => Nat.le_trans HV.out.size h⟩⟩
    cases hd : y'.m.done with
    | false =>
      have hd' : doneB y'.m.n y'.m.told.length y'.m.sh = false := hd
      have HD := Aside0.mk hd
      clear hd
      go_wp2_with (go_at_call 114; refine (merge_Done g' y'.m.n (some ⟨gs', 0, none⟩) cap' y'.m.sh TA y'.m.told.length tc _ HQA.out.mg.box HQA.out.mg.reads HQA.out.mg.len hsh).mono ?_; rintro e w5 ⟨rfl, hb⟩; have HB5 := Aside0.mk hb; clear hb)
      go_ret
      have hdd : y.m.tell.2.done = false := by rw [← HMM.out]; exact HD.out
      refine ⟨_, rfl, ⟨⟨ρ', blk, hEz.out, ?_, ?_⟩, hOz.out.next (Only.fresh HB5.out _)⟩⟩
      · rw [Co.goes, if_neg (by simp [hdd])]
        exact HC.out.fresh HB5.out
      · rw [goesL, if_neg (by simp [hdd])]
        exact Kd.R_nil _ _ _ _ _
    | true =>
      have hd' : doneB y'.m.n y'.m.told.length y'.m.sh = true := hd
      have HD := Aside0.mk hd
      clear hd
      go_upto_region 5 with (go_at_call 114; refine (merge_Done g' y'.m.n (some ⟨gs', 0, none⟩) cap' y'.m.sh TA y'.m.told.length tc _ HQA.out.mg.box HQA.out.mg.reads HQA.out.mg.len hsh).mono ?_; rintro e w5 ⟨rfl, hb⟩; have HB5 := Aside0.mk hb; clear hb)
      have HC5 := Aside0.mk (HC.out.fresh HB5.out)
      have hxl : I.x < w.heap.size := (H.out.own I.x (by rw [H.out.roles.1]; simp)).2
      have hx5 := HXC.out w5 ((HB5.out.block _ (Nat.lt_of_lt_of_le hxl hOz.out.size)).trans ((HO.out.block _ (Nat.lt_of_lt_of_le hxl HV.out.size) (by rw [H.out.roles.1]; simp)).trans (HV.out.block _ hxl)))
      obtain ⟨dv5, hco5, htold5⟩ := HC5.out.co
      have hdv5 := CoB_dv hco5 hx5
      subst hdv5
      have hjl5 : y.id.toNat - 1 < (S.tells s y).told.length := by
        show y.id.toNat - 1 < (S.told.set _ _).length
        rw [List.length_set]
        have := HJ.out
        omega
      obtain ⟨gt5, cap5, u5, he5, _, ⟨cur5, hcur5⟩, hcell5, _⟩ := htold5.get _ hjl5
      obtain rfl : gt = gt5 := by
        have := congrArg Value.ownBlock he5
        simpa [Value.ownBlock] using this
      have fz5 := blk_frozen hcur5 ((y.id.toNat - 1) * 7 + 5)
      have zz5 : w5.cell? ⟨gt, (y.id.toNat - 1) * 7 + 5, none⟩ = some (.bool ((S.tells s y).told.getD (y.id.toNat - 1) z58).f3) := hcell5 5 _ rfl
      have hflag := HC5.out.flag hx5 (y.id.toNat - 1) 5 (by omega) (.bool true) { toldAt (S.tells s y) (y.id.toNat - 1) with f3 := true } (fun v => rfl) rfl
      have HFL := Aside0.mk hflag
      have hgt5 : ρ' gt = .co 7 := (HE.out.keep gt (by rw [HG.out]; simp)).trans HG.out
      have HGT5 := Aside0.mk hgt5
      clear hflag hco5 htold5 hx5 hcur5 hcell5 hgt5
      go_upto_region 6 with fail
      refine Rd.gen_wp (R := fun W6 => CoAt c base ρ' I blk { S.tells s y with told := (S.tells s y).told.set (y.id.toNat - 1) { toldAt (S.tells s y) (y.id.toNat - 1) with f3 := true } } W6 ∧ Only (fun k => k = gt) w5 W6) ⟨HFL.out, Only.setB _ _ _ _⟩ ?_
      clear HFL fz5 zz5
      rintro W6 ⟨hC6, hO6⟩
      have HC6 := Aside0.mk hC6
      have HO6 := Aside0.mk hO6
      clear hC6 hO6
      have hidl : y'.id ≤ 1000000 := by rw [hid']; exact hok.id
      go_wp2_with (go_at_call 74; rw [← hid']; refine (coord_over c base ρ' I blk _ s y' _ HC6.out hm hs hQ' hidl).mono ?_; rintro e w7 ⟨⟨v7, rfl, hR7⟩, hOv⟩; have HR7 := Aside0.mk hR7; have HOV := Aside0.mk hOv; clear hR7 hOv)
      go_ret
      have hdd : y.m.tell.2.done = true := by rw [← HMM.out]; exact HD.out
      have hC7 := HC6.out.over_done HOV.out hs hQ'
      have hsz : w.heap.size ≤ W6.heap.size := Nat.le_trans hOz.out.size (Nat.le_trans HB5.out.size HO6.out.size)
      refine ⟨_, rfl, ⟨⟨ρ', blk, hEz.out, ?_, ?_⟩, ?_⟩⟩
      · rw [Co.goes, if_pos hdd, HJ.out]
        exact hC7
      · rw [goesL, if_pos hdd]
        rw [hid'] at HR7
        refine RL_ok (Kd.R_lower HR7.out hsz) fun k hk => ?_
        obtain ⟨inner, hown⟩ := Kd.R_own HR7.out
        have hk6 := own_base hown k hk
        cases e : ρ' k with
        | z => rfl
        | _ => exact absurd (HC6.out.own k (by rw [e]; simp)).2 (Nat.not_lt.2 hk6)
      · have hne : ∀ k, ρ' k ≠ .z → k < w.heap.size → ρ k ≠ .z := fun k h1 h2 => (hEz.out.new k h1).elim (fun h => h) fun h => absurd h2 (Nat.not_lt.2 h)
        refine ((hOz.out.next (Only.fresh HB5.out _)).trans HO6.out fun k hk e => ?_).trans HOV.out.only fun k hk e => ?_
        · subst e
          rw [HG.out]
          simp
        · refine hne k ?_ hk
          rcases e with e | e | e | e | e <;> (rw [e]; simp)
end Go.Proofs.YthbngidbfhcdaaaGreat.C
