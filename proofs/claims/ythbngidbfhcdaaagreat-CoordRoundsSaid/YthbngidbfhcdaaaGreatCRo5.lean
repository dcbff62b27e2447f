/- Texts of this proof, joined: part 5. -/
import Derived.Test.YthbngidbfhcdaaaGreatWEqStruct
import Derived.Test.YthbngidbfhcdaaaGreatPCoordScriptx4
import Derived.Test.YthbngidbfhcdaaaGreatWWords
import Derived.Deep.Slices
import Derived.ChangeArms
import Derived.ChangeSame
import Derived.OpenShut
import Derived.Carry
import Derived.SizedLaws
import Derived.Test.YthbngidbfhcdaaaGreatRows
import Derived.WalkKit
import Derived.ProofKit
import Derived.ChangeOld
import Derived.Below
import Derived.Test.YthbngidbfhcdaaaGreatCRo4
set_option linter.unusedVariables false
set_option linter.unusedSimpArgs false
/- A worker's word taken; what askers were told. -/
namespace Go.Proofs.YthbngidbfhcdaaaGreat.C
open Go.RowKit Go.Maps Go.Proofs.YthbngidbfhcdaaaGreat.Mem Go.Proofs.YthbngidbfhcdaaaGreatW.PrintWords Go.Proofs.YthbngidbfhcdaaaGreat.PCoordScript
set_option linter.unusedVariables false
set_option linter.unusedSimpArgs false
abbrev helloB (k life : Int) : Obj := .cells #[.int .i64 k, .int .i64 life] 36 (0, 0)
/-- Is a worker's word one that counts? -/
def helloOk (c : Cfg) (L : Nat → Ls) (k life : Int) : Prop := 1 ≤ k ∧ k ≤ c.wk ∧ 1 ≤ life ∧ life ≤ 2147483647 ∧ (L k.toNat).life ≤ life
instance (c : Cfg) (L : Nat → Ls) (k life : Int) : Decidable (helloOk c L k life) := by unfold helloOk; infer_instance
def Co.hello (c : Cfg) (S : Co) (k life : Int) : Co := { S with L := upL S.L k.toNat (heardL (S.L k.toNat) life S.now c.le) }
/-- What it is answered. -/
def grantOf (c : Cfg) (S : Co) (k life : Int) : LetD := ⟨k, .grant k life (heardL (S.L k.toNat) life S.now c.le).epoch⟩
set_option maxRecDepth 100000 in
set_option maxHeartbeats 1600000 in
theorem coord_hello (c : Cfg) (base : Nat) (ρ : Nat → Own) (I : CoIds) (blk : Int → Nat) (S : Co) (k life : Int) (w : World) (h : CoAt c base ρ I blk S w) (hm : c.May) (hok : helloOk c S.L k life) (h0 : 0 ≤ S.now) (hn : S.now ≤ 1099511627776) (he : 0 ≤ (S.L k.toNat).epoch ∧ (S.L k.toNat).epoch ≤ 4611686018427387904) :
    Calls Tryz.prog 61 #[.pointer (some ⟨I.x, 0, none⟩), .agg #[.int .i64 k, .int .i64 life]] w fun e w' => (∃ g, e = .returned (.slice (some ⟨g, 0, none⟩) 1 1) ∧ w.heap.size ≤ g ∧ w'.heap[g]? = some (.cells #[.int .i64 k, msgV (grantOf c S k life).msg] 51 (0, 0))) ∧
      CoAt c base ρ I blk (S.hello c k life) w' ∧ Only (fun i => i = I.l) w w' := by
  obtain ⟨⟨hk1, hk2⟩, _, _, _, hle, _⟩ := hm.nums
  obtain ⟨o1, o2, o3, o4, o5⟩ := hok
  obtain ⟨dv, hco, _⟩ := h.co
  have hlx := blk_lt hco
  have hb0 : Below w.heap.size w (w.alloc (helloB k life)).drew := below_drew1 (below_alloc (Below.refl _ _) (helloB k life))
  have H := Aside0.mk (h.fresh hb0)
  have HCO := Aside0.mk (blk_below hco hb0)
  have HT0 : Aside0 (Only (fun i => i = I.l) w (w.alloc (helloB k life)).drew) := ⟨Only.fresh hb0 _⟩
  have HS : Aside0 ((w.alloc (helloB k life)).drew.heap[w.heap.size]? = some (helloB k life)) := ⟨blk_new _ _⟩
  have hxl : Aside0 (I.x ≠ I.l) := ⟨CoAt.role_ne h.roles.1 h.roles.2.1 (by simp)⟩
  have hll : Aside0 (I.l < w.heap.size) := ⟨blk_lt h.tab⟩
  clear h hb0 hco
  go_enter Tryz.func61, Tryz.ntmps61
  go_upto_region 1 with fail
  go_region_held3 (fun W => W.heap[w.heap.size]? = some (helloB k life) ∧ W.heap[I.x]? = some (CoB (c.bare I.A1 I.c1) I.cv S.now (.pointer (some ⟨I.l, 0, none⟩)) (.pointer (some ⟨I.s, 0, none⟩)) (.pointer (some ⟨I.t, 0, none⟩)) (.map (some I.m)) dv) ∧ W.cell? ⟨w.heap.size, 0, none⟩ = some (.int .i64 k) ∧ W.cell? ⟨w.heap.size, 1, none⟩ = some (.int .i64 life) ∧ W.cell? ⟨I.x, 13, none⟩ = some (.int .i64 S.now) ∧ W.cell? ⟨I.x, 14, none⟩ = some (.pointer (some ⟨I.l, 0, none⟩)))
    (first
      | exact ⟨HS.out, HCO.out, (blk_cell HS.out 0).trans rfl, (blk_cell HS.out 1).trans rfl, (blk_cell HCO.out 13).trans rfl, (blk_cell HCO.out 14).trans rfl⟩
      | exact ⟨HS2.out, HCO2.out, (blk_cell HS2.out 0).trans rfl, (blk_cell HS2.out 1).trans rfl, (blk_cell HCO2.out 13).trans rfl, (blk_cell HCO2.out 14).trans rfl⟩
      | go_keep)
    ((go_simp; go_at_call 105; refine (lease_Hello I.l c.wk c.le k life S.now S.L _ H.out.tab o1 o2 hk2 hle h0 hn ⟨o3, o4⟩ o5 he).mono ?_; rintro e w2 ⟨rfl, hb2, hT2⟩; have H2 := Aside0.mk (H.out.setLeases hT2 hb2); have HS2 := Aside0.mk (hT2.blk HS.out (by have := hll.out; omega)); have HCO2 := Aside0.mk (hT2.blk HCO.out hxl.out); have HT2 := Aside0.mk (Only.next HT0.out hT2); clear hT2 hb2))
  all_goals
    have b3 : w2.cell? ⟨w.heap.size, 0, none⟩ = some (.int .i64 k) := (blk_cell HS2.out 0).trans rfl
    have b4 : w2.cell? ⟨w.heap.size, 1, none⟩ = some (.int .i64 life) := (blk_cell HS2.out 1).trans rfl
    have hsz : Aside0 (w.heap.size ≤ w2.heap.size) := ⟨HT2.out.size⟩
    go_wp2
    go_ret
    exact ⟨⟨_, rfl, hsz.out, blk_new _ _⟩, H2.out.fresh (below_alloc (Below.refl _ _) _), HT2.out.next (Only.fresh (below_alloc (Below.refl _ _) _) _)⟩
set_option maxRecDepth 100000 in
set_option maxHeartbeats 1600000 in
theorem coord_hello_no (c : Cfg) (base : Nat) (ρ : Nat → Own) (I : CoIds) (blk : Int → Nat) (S : Co) (k life : Int) (w : World) (h : CoAt c base ρ I blk S w) (hm : c.May) (hok : ¬ helloOk c S.L k life) (h0 : 0 ≤ S.now) (hn : S.now ≤ 1099511627776) :
    Calls Tryz.prog 61 #[.pointer (some ⟨I.x, 0, none⟩), .agg #[.int .i64 k, .int .i64 life]] w fun e w' => e = .returned (.slice none 0 0) ∧ Below w.heap.size w w' := by
  obtain ⟨⟨hk1, hk2⟩, _, _, _, hle, _⟩ := hm.nums
  obtain ⟨dv, hco, _⟩ := h.co
  have hb0 : Below w.heap.size w (w.alloc (helloB k life)).drew := below_drew1 (below_alloc (Below.refl _ _) (helloB k life))
  have H := Aside0.mk (h.fresh hb0)
  have HCO := Aside0.mk (blk_below hco hb0)
  have HB0 := Aside0.mk hb0
  have HS : Aside0 ((w.alloc (helloB k life)).drew.heap[w.heap.size]? = some (helloB k life)) := ⟨blk_new _ _⟩
  have hlx := blk_lt hco
  have hno : k < 1 ∨ c.wk < k ∨ life < 1 ∨ 2147483647 < life ∨ life < (S.L k.toNat).life := by unfold helloOk at hok; omega
  clear h hb0 hco hok
  go_enter Tryz.func61, Tryz.ntmps61
  go_upto_region 1 with fail
  go_region_held3 (fun W => W.heap[w.heap.size]? = some (helloB k life) ∧ W.cell? ⟨w.heap.size, 0, none⟩ = some (.int .i64 k) ∧ W.cell? ⟨w.heap.size, 1, none⟩ = some (.int .i64 life) ∧ W.cell? ⟨I.x, 13, none⟩ = some (.int .i64 S.now) ∧ W.cell? ⟨I.x, 14, none⟩ = some (.pointer (some ⟨I.l, 0, none⟩)))
    (first
      | exact ⟨HS.out, (blk_cell HS.out 0).trans rfl, (blk_cell HS.out 1).trans rfl, (blk_cell HCO.out 13).trans rfl, (blk_cell HCO.out 14).trans rfl⟩
      | go_keep)
    ((go_simp; go_at_call 105; refine (lease_Hello_no I.l c.wk c.le k life S.now S.L _ H.out.tab hk2 h0 hn hno).mono ?_; rintro e w2 ⟨⟨r, rfl, hr⟩, hw⟩; obtain rfl := hw.symm))
  all_goals
    have hr2 : (r != 0) = true := by simp [hr]
    go_wp2
    go_ret
    exact ⟨rfl, HB0.out⟩
theorem assert_hello (v : Value) (xT : TypeId) (W : World) : (Instr.typeAssert (.iface 36 v) xT 36 true).run Tryz.prog W = .ok (.tuple #[v, .bool true]) W := by
  simp [Instr.typeAssert, run_underlying Tryz.underlying36]
/-- What Take comes to of a worker's word. -/
theorem coord_Take_hello (c : Cfg) (base : Nat) (ρ : Nat → Own) (I : CoIds) (blk : Int → Nat) (S : Co) (k life : Int) (w : World) (h : CoAt c base ρ I blk S w) (hm : c.May) (h0 : 0 ≤ S.now) (hn : S.now ≤ 1099511627776) (he : ∀ k, 0 ≤ (S.L k).epoch ∧ (S.L k).epoch ≤ 4611686018427387904) :
    Calls Tryz.prog 16 #[.pointer (some ⟨I.x, 0, none⟩), .iface 36 (.agg #[.int .i64 k, .int .i64 life])] w fun e w' =>
      (∃ v, e = .returned v ∧ Kd.R kLet 51 w' w.heap.size (fun _ => True) v (if helloOk c S.L k life then [grantOf c S k life] else [])) ∧
      CoAt c base ρ I blk (if helloOk c S.L k life then S.hello c k life else S) w' ∧ Only (fun i => i = I.l) w w' := by
  have H := Aside0.mk (h.fresh (below_alloc (Below.refl _ _) (helloB k life)))
  clear h
  have hta := assert_hello
  by_cases hok : helloOk c S.L k life
  · rw [if_pos hok, if_pos hok]
    have HOK := Aside0.mk hok
    clear hok
    go_enter Tryz.func16, Tryz.ntmps16
    go_wp2_with (go_at_call 61; refine (coord_hello c base ρ I blk S k life _ H.out hm HOK.out h0 hn (he _)).mono ?_; rintro e w2 ⟨⟨g, rfl, hg, hb⟩, hC, hT⟩; have HG := Aside0.mk hg; have HB := Aside0.mk hb; have HC := Aside0.mk hC; have HT := Aside0.mk hT; clear hg hb hC hT)
    go_ret
    exact ⟨⟨_, rfl, RL_one (grantOf c S k life) HB.out (Nat.le_trans (by simp) HG.out)⟩, HC.out, (Only.fresh (below_alloc (Below.refl _ _) _) _).next HT.out⟩
  · rw [if_neg hok, if_neg hok]
    have HOK := Aside0.mk hok
    clear hok
    go_enter Tryz.func16, Tryz.ntmps16
    go_wp2_with (go_at_call 61; refine (coord_hello_no c base ρ I blk S k life _ H.out hm HOK.out h0 hn).mono ?_; rintro e w2 ⟨rfl, hb⟩; have HB := Aside0.mk hb; clear hb)
    go_ret
    exact ⟨⟨_, rfl, Kd.R_nil _ _ _ _ _⟩, H.out.fresh HB.out, Only.fresh (below_step (below_alloc (Below.refl _ _) _) HB.out) _⟩
end Go.Proofs.YthbngidbfhcdaaaGreat.C
/- What holds of a coordinator's queries at each moment, through its calls. -/
namespace Go.Proofs.YthbngidbfhcdaaaGreat.C
open Go.RowKit Go.Maps Go.Proofs.YthbngidbfhcdaaaGreat.Mem Go.Proofs.YthbngidbfhcdaaaGreatW.PrintWords Go.Proofs.YthbngidbfhcdaaaGreat.PCoordScript
set_option linter.unusedVariables false
theorem CoOk.new (c : Cfg) (N : Int) : CoOk c N Co.new := fun s y hy => by cases hy
theorem CoOk.upd {c : Cfg} {N : Int} {S S' : Co} (h : CoOk c N S) {s : Nat} {v : Option Qy} (hQ : S'.Q = updQ S.Q s v) (hv : ∀ y, v = some y → y.m.sh.length = c.cuts.length + 1 ∧ ∀ sh, 0 ≤ (y.t sh).turn ∧ (y.t sh).turn ≤ N ∧ 0 ≤ (y.t sh).first ∧ (y.t sh).first ≤ 1099511627776) : CoOk c N S' := by
  intro s' y hy
  rw [hQ] at hy
  unfold updQ at hy
  split at hy
  · exact hv y hy
  · exact h s' y hy
theorem newMg_len (c : Cfg) (q : S40) : (newMg c q).sh.length = c.cuts.length + 1 := by simp [newMg, leasts_len]
theorem CoOk.add {c : Cfg} {N : Int} {S : Co} (h : CoOk c N S) (hN : 0 ≤ N) (j : Nat) (q : S40) : CoOk c N (S.add c j q) :=
  h.upd rfl fun y hy => by
    cases hy
    exact ⟨newMg_len c q, fun sh => ⟨Int.le_refl _, hN, Int.le_refl _, by show (0 : Int) ≤ _; omega⟩⟩
theorem CoOk.over {c : Cfg} {N : Int} {S : Co} (h : CoOk c N S) (s : Nat) : CoOk c N (S.over c s) := h.upd rfl fun y hy => by cases hy
theorem CoOk.goes {c : Cfg} {N : Int} {S : Co} (h : CoOk c N S) {s : Nat} {y : Qy} (hy : S.Q s = some y) : CoOk c N (S.goes c s y) := by
  have h1 : CoOk c N (S.tells s y) := h.upd rfl fun z hz => by
    cases hz
    refine ⟨?_, (h s y hy).2⟩
    show (Mg.tellN _ _).2.sh.length = _
    rw [tell_len]
    exact (h s y hy).1
  unfold Co.goes
  split
  · exact CoOk.over (S := { S.tells s y with told := _ }) h1 s
  · exact h1
theorem CoOk.hello {c : Cfg} {N : Int} {S : Co} (h : CoOk c N S) (k life : Int) : CoOk c N (S.hello c k life) := h
theorem goes_now (c : Cfg) (S : Co) (s : Nat) (y : Qy) : (S.goes c s y).now = S.now ∧ (S.goes c s y).last = S.last ∧ (S.goes c s y).L = S.L := by
  unfold Co.goes
  split <;> exact ⟨rfl, rfl, rfl⟩
end Go.Proofs.YthbngidbfhcdaaaGreat.C
/- Letters put behind letters. -/
namespace Go.Proofs.YthbngidbfhcdaaaGreat.C
open Go.RowKit Go.Maps Go.Proofs.YthbngidbfhcdaaaGreat.Mem Go.Proofs.YthbngidbfhcdaaaGreatW.PrintWords Go.Proofs.YthbngidbfhcdaaaGreat.PCoordScript
set_option linter.unusedVariables false
set_option linter.unusedSimpArgs false
theorem kLet_inv {w : World} {x : LetD} {cs : List Value} (h : kLet.K w x cs) : cs = [.int .i64 x.dest, msgV x.msg] := by
  obtain ⟨c1, c2, rfl, rfl, rfl⟩ := h
  rfl
/-- append of whatever letters are read onto a row of letters. -/
theorem append_let {w : World} {ops : Array Oper} {rest : List Oper} {o : Oper} {a : Act} {Q : Exit → Act → World → Prop} (base : Nat) (hgd : o.guard = none) (s x : Operand)
    (ho : o.op = .call { callee := .builtin .append, args := #[s, x], argTypes := #[33, 33] }) (v : Value) (xs ys : List LetD) (A : Option Addr) (c : Nat) (hs : a.eval s = v) (hx : a.eval x = .slice A ys.length c) {ok : Nat → Prop}
    (HO : Kd.R kLet 51 w base ok v xs) (HC : Kd.C kLet w A ys.length ys) (hba : base ≤ w.heap.size) (hl : (xs.length + ys.length) * 24 ≤ 140737488355328)
    (h : ∀ v1 w1, Kd.R kLet 51 w1 base (fun _ => True) v1 (xs ++ ys) → w.grownBy w1 v.ownBlock → (v1.ownBlock = v.ownBlock ∨ v1.ownBlock = some w.heap.size) → wpList Tryz.prog ops Q rest (a.put o.dst v1) w1) : wpList Tryz.prog ops Q (o :: rest) a w := by
  obtain ⟨cs, hr, hcs⟩ := Rd.flat_of_C HC
  obtain ⟨_, inner, hown, hrr⟩ := HO
  refine Rd.wpList_append_flat hgd s x 33 ho base 51 (.agg #[.int .i64 0, .nilIface]) 2 24 Tryz.underlying33 infoLet rfl (by decide) v xs.length inner hs hown A ys.length c cs hx hr.1 hcs (Rd.flat_one hr) (by unfold maxLen; omega) hl hba ?_
  intro v' w' h2 h3 h4
  refine h _ _ ⟨fun _ _ => trivial, inner ++ cs, by rw [List.length_append]; exact h2, ?_⟩ h3 h4
  exact Rd.reps_append (hrr.imp_ fun _ _ hp => hp) (hr.imp_ fun x cells hK => by rw [kLet_inv hK]; exact kLet_M x)
end Go.Proofs.YthbngidbfhcdaaaGreat.C
/- coord.Cancel, Timers, walked. -/
namespace Go.Proofs.YthbngidbfhcdaaaGreat.C
open Go.RowKit Go.Maps Go.Proofs.YthbngidbfhcdaaaGreat.Mem Go.Proofs.YthbngidbfhcdaaaGreatW.PrintWords Go.Proofs.YthbngidbfhcdaaaGreat.PCoordScript
set_option linter.unusedVariables false
set_option linter.unusedSimpArgs false
theorem look_P {w : World} {b m : Nat} {f : Int → Option Nat} (h : MapAt Tryz.prog 3 encP w b m f) {x : Int} (hx : (Lit.int .i64 x).wf = true) :
    (Instr.lookup 114 (.map (some b)) (.int .i64 x) false).run Tryz.prog w = .ok (.pointer ((f x).map fun k => ⟨k, 0, none⟩)) w := by
  have := h.look lawK Tryz.underlying114 (Tryz.zeroValue136 _) Tryz.underlying3 hx
  rw [this]
  cases f x <;> rfl
def Co.cancel (c : Cfg) (S : Co) (s : Nat) (y : Qy) : Co := Co.over c { S with told := S.told.set (y.id - 1).toNat { toldAt S (y.id - 1).toNat with f4 := true } } s
theorem coord_Cancel_no (c : Cfg) (base : Nat) (ρ : Nat → Own) (I : CoIds) (blk : Int → Nat) (S : Co) (k : Int) (w : World) (h : CoAt c base ρ I blk S w) (hk : (Lit.int .i64 k).wf = true) (hn : S.slot k = none) :
    Calls Tryz.prog 30 #[.pointer (some ⟨I.x, 0, none⟩), .int .i64 k] w fun e w' => e = .returned (.tuple #[.slice none 0 0, .int .i64 4]) ∧ w' = w := by
  obtain ⟨dv, hco, _⟩ := h.co
  obtain ⟨fq, hq, hq2⟩ := h.qs
  have c17 : w.cell? ⟨I.x, 17, none⟩ = some (.map (some I.m)) := (blk_cell hco 17).trans rfl
  have hl := look_P hq hk
  rw [hq2, hn] at hl
  have hl' : (Instr.lookup 114 (.map (some I.m)) (.int .i64 k) false).run Tryz.prog w = .ok (.pointer none) w := hl
  clear hl hq2 hq hco h
  go_enter Tryz.func30, Tryz.ntmps30
  go_wp2
  go_ret2
  exact ⟨rfl, rfl⟩
set_option maxRecDepth 100000 in
set_option maxHeartbeats 4000000 in
theorem coord_Cancel (c : Cfg) (base : Nat) (ρ : Nat → Own) (I : CoIds) (blk : Int → Nat) (S : Co) (s : Nat) (y : Qy) (w : World) (h : CoAt c base ρ I blk S w) (hm : c.May) (hs : s < 4) (hy : S.Q s = some y) (hid : y.id ≤ 1000000) :
    Calls Tryz.prog 30 #[.pointer (some ⟨I.x, 0, none⟩), .int .i64 y.id] w fun e w' => ∃ v, e = .returned (.tuple #[v, .int .i64 0]) ∧ CoRes c base ρ I (S.cancel c s y) (stops s y.id c.wk.toNat) w w' v := by
  obtain ⟨dv, hco, htold⟩ := h.co
  have htop := h.top s y hy
  have hlen := h.len
  have hjl : (y.id - 1).toNat < S.told.length := by omega
  have hjj : (y.id - 1).toNat = y.id.toNat - 1 := by omega
  obtain ⟨gt, capt, u, hdv, hgt, ⟨gcur, hgcur⟩, hcell, hu⟩ := htold.get _ hjl
  subst hdv
  obtain ⟨fq, hq, hq2⟩ := h.qs
  have hi0 : 0 ≤ y.id - 1 := by omega
  have hi1 : 1 ≤ y.id := by omega
  have hi2 : y.id - 1 < S.told.length := by omega
  have hl := look_P hq (wf_i64 (n := y.id) (by omega) (by omega))
  rw [hq2, slot_of h.uniq hs hy] at hl
  have hl' : (Instr.lookup 114 (.map (some I.m)) (.int .i64 y.id) false).run Tryz.prog w = .ok (.pointer (some ⟨blk y.id, 0, none⟩)) w := hl
  have x17 : w.cell? ⟨I.x, 17, none⟩ = some (.map (some I.m)) := (blk_cell hco 17).trans rfl
  have x18 : w.cell? ⟨I.x, 18, none⟩ = some (.slice (some ⟨gt, 0, none⟩) S.told.length capt) := (blk_cell hco 18).trans rfl
  have fz := blk_frozen hgcur ((y.id.toNat - 1) * 7 + 6)
  have zz : w.cell? ⟨gt, (y.id.toNat - 1) * 7 + 6, none⟩ = some (.bool (S.told.getD (y.id - 1).toNat z58).f4) := by rw [← hjj]; exact hcell 6 _ rfl
  have HFL := Aside0.mk (h.flag hco (y.id.toNat - 1) 6 (by omega) (.bool true) { toldAt S (y.id.toNat - 1) with f4 := true } (fun v => rfl) rfl)
  have HJ := Aside0.mk hjj
  have HG := Aside0.mk hgt
  have HOW := Aside0.mk h.own
  clear hl hq2 hq hco h htold hu hcell hgcur hlen htop hjj hgt hjl
  go_enter Tryz.func30, Tryz.ntmps30
  go_upto_region 7 with fail
  refine Rd.gen_wp (R := fun W6 => CoAt c base ρ I blk { S with told := S.told.set (y.id.toNat - 1) { toldAt S (y.id.toNat - 1) with f4 := true } } W6 ∧ Only (fun k => k = gt) w W6) ⟨HFL.out, Only.setB _ _ _ _⟩ ?_
  clear HFL fz zz hl' x17 x18
  rintro W6 ⟨hC6, hO6⟩
  have HC6 := Aside0.mk hC6
  have HO6 := Aside0.mk hO6
  clear hC6 hO6
  go_wp2_with (go_at_call 74; refine (coord_over c base ρ I blk _ s y _ HC6.out hm hs hy hid).mono ?_; rintro e w7 ⟨⟨v7, rfl, hR7⟩, hOv⟩; have HR7 := Aside0.mk hR7; have HOV := Aside0.mk hOv; clear hR7 hOv)
  go_ret2
  have hC7 := HC6.out.over_done HOV.out hs hy
  have hsz : w.heap.size ≤ W6.heap.size := HO6.out.size
  refine ⟨v7, rfl, ⟨⟨ρ, blk, Ext.refl _ _, ?_, ?_⟩, ?_⟩⟩
  · rw [Co.cancel, HJ.out]
    exact hC7
  · refine RL_ok (Kd.R_lower HR7.out hsz) fun k hk => ?_
    obtain ⟨inner, hown⟩ := Kd.R_own HR7.out
    have hk6 := own_base hown k hk
    cases e : ρ k with
    | z => rfl
    | _ => exact absurd (HC6.out.own k (by rw [e]; simp)).2 (Nat.not_lt.2 hk6)
  · refine (HO6.out.mono fun k _ e => ?_).trans HOV.out.only fun k hk e => ?_
    · subst e
      rw [HG.out]
      simp
    · rcases e with e | e | e | e | e <;> (rw [e]; simp)
theorem nodup_map_on {α β : Type} {f : α → β} : ∀ {l : List α}, l.Nodup → (∀ x ∈ l, ∀ y ∈ l, f x = f y → x = y) → (l.map f).Nodup
  | [], _, _ => List.nodup_nil
  | a :: l, h, hi => by
    rw [List.nodup_cons] at h
    rw [List.map_cons, List.nodup_cons]
    refine ⟨fun hm => ?_, nodup_map_on h.2 fun x hx y hy => hi x (List.mem_cons_of_mem _ hx) y (List.mem_cons_of_mem _ hy)⟩
    obtain ⟨x, hx, e⟩ := List.mem_map.1 hm
    have := hi x (List.mem_cons_of_mem _ hx) a List.mem_cons_self e
    subst this
    exact h.1 hx
/-- How many timers there are. -/
def nT (f : Int → Option Int) : Nat := ((List.range 24).filter fun i : Nat => (f (i : Int)).isSome).length
theorem nT_says {l : List (Int × Int)} {f : Int → Option Int} (h : TmSays l f) (hb : InT f) : l.length = nT f := by
  have h1 : ((l.map Prod.snd).map Int.toNat).Perm ((List.range 24).filter fun i : Nat => (f (i : Int)).isSome) := by
    have hnd : ((l.map Prod.snd).map Int.toNat).Nodup := by
      refine nodup_map_on h.1 fun x hx y hy he => ?_
      obtain ⟨p, hp, rfl⟩ := List.mem_map.1 hx
      obtain ⟨q, hq, rfl⟩ := List.mem_map.1 hy
      have a := hb p.2 p.1 ((h.2 p.2 p.1).1 hp)
      have b := hb q.2 q.1 ((h.2 q.2 q.1).1 hq)
      omega
    refine (List.perm_ext_iff_of_nodup hnd ((List.nodup_range).filter _)).2 fun k => ?_
    rw [List.mem_filter, List.mem_range, List.mem_map]
    constructor
    · rintro ⟨x, hx, rfl⟩
      obtain ⟨p, hp, rfl⟩ := List.mem_map.1 hx
      have hf := (h.2 p.2 p.1).1 hp
      have a := hb p.2 p.1 hf
      refine ⟨by omega, ?_⟩
      rw [Int.toNat_of_nonneg a.1, hf]
      rfl
    · rintro ⟨hk, hs⟩
      obtain ⟨a, ha⟩ := Option.isSome_iff_exists.1 hs
      exact ⟨(k : Int), List.mem_map.2 ⟨(a, (k : Int)), (h.2 _ _).2 ha, rfl⟩, Int.toNat_natCast k⟩
  have h2 := h1.length_eq
  rw [List.length_map, List.length_map] at h2
  exact h2
theorem coord_Timers (c : Cfg) (base : Nat) (ρ : Nat → Own) (I : CoIds) (blk : Int → Nat) (S : Co) (w : World) (h : CoAt c base ρ I blk S w) :
    Calls Tryz.prog 33 #[.pointer (some ⟨I.x, 0, none⟩)] w fun e w' => e = .returned (.int .i64 (nT S.T)) ∧ w' = w := by
  obtain ⟨dv, hco, _⟩ := h.co
  obtain ⟨l, ⟨v, hb, hR⟩, hs⟩ := h.tim
  obtain ⟨A, cap, rfl⟩ := Kd.R_slice hR
  rw [← nT_says hs h.tin]
  have c16 : w.cell? ⟨I.x, 16, none⟩ = some (.pointer (some ⟨I.t, 0, none⟩)) := (blk_cell hco 16).trans rfl
  have HB := Aside0.mk hb
  clear h hco hb hR hs
  go_enter Tryz.func33, Tryz.ntmps33
  go_wp2_with (go_at_call 76; refine (timer_Len I.t 24 A l.length cap _ HB.out).mono ?_; rintro e w1 ⟨rfl, hw⟩; obtain rfl := hw.symm)
  go_ret
  exact ⟨rfl, rfl⟩
end Go.Proofs.YthbngidbfhcdaaaGreat.C
/- coord.Wake, walked. -/
namespace Go.Proofs.YthbngidbfhcdaaaGreat.C
open Go.RowKit Go.Maps Go.Proofs.YthbngidbfhcdaaaGreat.Mem Go.Proofs.YthbngidbfhcdaaaGreatW.PrintWords Go.Proofs.YthbngidbfhcdaaaGreat.PCoordScript
set_option linter.unusedVariables false
set_option linter.unusedSimpArgs false
/-- Within a query: its wanted shards are gone through. -/
structure InSt (c : Cfg) (base : Nat) (ρ0 : Nat → Own) (I : CoIds) (blk2 : Int → Nat) (wb : Nat) (v50 : Value) (W0 W : World) (v5 : Value) (st : Co × List LetD) : Prop where
  co : ∃ ρ2, Ext ρ0 ρ2 W0 ∧ CoAt c base ρ2 I blk2 st.1 W ∧ Kd.R kLet 51 W wb (fun k => ρ2 k = .z) v5 st.2
  own : ∀ k, v5.ownBlock = some k → v50.ownBlock = some k ∨ W0.heap.size ≤ k
  only : Only (fun k => ρ0 k ≠ .z ∨ v50.ownBlock = some k) W0 W
theorem CoAt.zero {c : Cfg} {base : Nat} {ρ : Nat → Own} {I : CoIds} {blk : Int → Nat} {S : Co} {W : World} (h : CoAt c base ρ I blk S W) {k : Nat} (hk : W.heap.size ≤ k) : ρ k = .z := by
  cases e : ρ k with
  | z => rfl
  | _ => exact absurd (h.own k (by rw [e]; simp)).2 (Nat.not_lt.2 hk)
/-- A shard is wanted, its letters are put behind. -/
theorem InSt.step {c : Cfg} {base : Nat} {ρ0 ρ2 : Nat → Own} {I : CoIds} {blk2 : Int → Nat} {wb : Nat} {v50 v5 v' v6 : Value} {W0 W W4 W5 : World} {S S' : Co} {ls l' : List LetD} (hE : Ext ρ0 ρ2 W0) (hC : CoAt c base ρ2 I blk2 S W) (hR : Kd.R kLet 51 W wb (fun k => ρ2 k = .z) v5 ls)
    (hown : ∀ k, v5.ownBlock = some k → v50.ownBlock = some k ∨ W0.heap.size ≤ k) (hO : Only (fun k => ρ0 k ≠ .z ∨ v50.ownBlock = some k) W0 W) (hw : CoResB c base ρ2 I blk2 S' l' W W4 v')
    (hr : Kd.R kLet 51 W5 wb (fun _ => True) v6 (ls ++ l')) (hg : W4.grownBy W5 v5.ownBlock) (hat : v6.ownBlock = v5.ownBlock ∨ v6.ownBlock = some W4.heap.size) : InSt c base ρ0 I blk2 wb v50 W0 W5 v6 (S', ls ++ l') := by
  obtain ⟨⟨ρ3, hE3, hC3, hR3⟩, hO3⟩ := hw
  have hv5l := Kd.R_lt hR
  have hz3 : ∀ k, v5.ownBlock = some k → ρ3 k = .z := fun k hk => by
    cases e : ρ3 k with
    | z => rfl
    | _ =>
      rcases hE3.new k (by rw [e]; simp) with h | h
      · exact absurd (hR.1 k hk) h
      · exact absurd (hv5l k hk) (Nat.not_lt.2 h)
  refine ⟨⟨ρ3, hE.trans hE3 hO.size, ?_, RL_ok hr fun k hk => ?_⟩, fun k hk => ?_, ?_⟩
  · exact hC3.frame hg.size fun k hk hne => hg.block k hk fun e => hne (hz3 k e.symm)
  · rcases hat with h | h
    · exact hz3 k (h ▸ hk)
    · rw [h] at hk
      cases hk
      exact hC3.zero (Nat.le_refl _)
  · rcases hat with h | h
    · exact hown k (h ▸ hk)
    · rw [h] at hk
      cases hk
      exact .inr (Nat.le_trans hO.size hO3.size)
  · refine (hO.trans hO3 fun k hk hne => ?_).trans (G := fun k => some k = v5.ownBlock) (Only.grown hg fun k hk _ => hk.symm) fun k hk e => ?_
    · rcases hE.new k hne with h | h
      · exact .inl h
      · exact absurd hk (Nat.not_lt.2 h)
    · rcases hown k e.symm with h | h
      · exact .inr h
      · exact absurd hk (Nat.not_lt.2 h)
theorem wantL_len (c : Cfg) (S : Co) (s : Nat) (y : Qy) (sh : Nat) : (wantL c S s y sh).length ≤ 1 := by
  unfold wantL askOf
  (repeat' split) <;> simp
theorem wantStep_ok {c : Cfg} (hm : c.May) {N : Int} {st : Co × List LetD} (h : CoOk c N st.1) (hn : 0 ≤ st.1.now ∧ st.1.now ≤ 1099511627776) (hN : 3 ≤ N) (s : Nat) (draw k : Int) :
    CoOk c (N + 1) (wantStep c s draw st k).1 ∧ (wantStep c s draw st k).1.now = st.1.now ∧ (wantStep c s draw st k).2.length ≤ st.2.length + 1 := by
  unfold wantStep
  cases hy : st.1.Q s with
  | none => exact ⟨h.mono (by omega), rfl, by simp⟩
  | some y =>
    refine ⟨h.wants hm hn hN hy _ draw, (wants_Q c st.1 s y k.toNat draw).2.1, ?_⟩
    show (st.2 ++ wantL c st.1 s y k.toNat).length ≤ _
    rw [List.length_append]
    have := wantL_len c st.1 s y k.toNat
    omega
theorem wantAll_ok {c : Cfg} (hm : c.May) (s : Nat) (draw : Int) : ∀ (l : List Int) {N : Int} {st : Co × List LetD}, CoOk c N st.1 → (0 ≤ st.1.now ∧ st.1.now ≤ 1099511627776) → 3 ≤ N →
    CoOk c (N + l.length) (wantAll c s draw l st).1 ∧ (wantAll c s draw l st).1.now = st.1.now ∧ (wantAll c s draw l st).2.length ≤ st.2.length + l.length
  | [], N, st, h, hn, hN => ⟨h.mono (by simp), rfl, by simp [wantAll]⟩
  | k :: l, N, st, h, hn, hN => by
    obtain ⟨a, b, d⟩ := wantStep_ok hm h hn hN s draw k
    obtain ⟨a2, b2, d2⟩ := wantAll_ok hm s draw l (st := wantStep c s draw st k) a (by rw [b]; exact hn) (by omega)
    have e : wantAll c s draw (k :: l) st = wantAll c s draw l (wantStep c s draw st k) := rfl
    rw [e, List.length_cons]
    exact ⟨a2.mono (by omega), b2.trans b, by omega⟩
theorem wants_in {M : Mg} {k : Int} (h : k ∈ M.wants) : 0 ≤ k ∧ k < M.sh.length := by
  unfold Mg.wants at h
  split at h
  · cases h
  · unfold wantsN at h
    obtain ⟨i, hi, rfl⟩ := List.mem_map.1 h
    have := List.mem_range.1 (List.mem_filter.1 hi).1
    omega
theorem wants_few (M : Mg) : M.wants.length ≤ M.sh.length := by
  unfold Mg.wants
  split
  · exact Nat.zero_le _
  · exact wantsN_len M.sh M.sh.length
theorem wakeN_ok {c : Cfg} (hm : c.May) (draw : Int) {N : Int} {S : Co} (h : CoOk c N S) (hn : 0 ≤ S.now ∧ S.now ≤ 1099511627776) (hN : 3 ≤ N) : ∀ n : Nat,
    CoOk c (N + 6 * n) (wakeN c draw n S).1 ∧ (wakeN c draw n S).1.now = S.now ∧ (wakeN c draw n S).2.length ≤ 6 * n
  | 0 => ⟨h.mono (by omega), rfl, by simp [wakeN]⟩
  | n + 1 => by
    obtain ⟨a, b, d⟩ := wakeN_ok hm draw h hn hN n
    rw [wakeN_succ]
    unfold wakeStep
    cases hy : (wakeN c draw n S).1.Q n with
    | none => exact ⟨a.mono (by omega), b, by show (wakeN c draw n S).2.length ≤ _; omega⟩
    | some y =>
      have hl := wants_few y.m
      have h1 := (a n y hy).1
      have h5 := hm.2.1.1
      obtain ⟨a2, b2, d2⟩ := wantAll_ok hm n draw y.m.wants (st := wakeN c draw n S) a (by rw [b]; exact hn) (by omega)
      exact ⟨a2.mono (by omega), b2.trans b, by show (wantAll c n draw y.m.wants (wakeN c draw n S)).2.length ≤ _; omega⟩
theorem wantStep_Q (c : Cfg) (s : Nat) (draw k : Int) {st : Co × List LetD} {y : Qy} (hy : st.1.Q s = some y) : ∃ t, (wantStep c s draw st k).1.Q s = some { y with t := t } := by
  unfold wantStep
  rw [hy]
  refine ⟨updN y.t k.toNat (wantT c st.1 s y k.toNat), ?_⟩
  show (st.1.wants c s y k.toNat draw).Q s = _
  rw [(wants_Q c st.1 s y k.toNat draw).1]
  unfold updQ
  rw [if_pos rfl]
theorem wantAll_Q (c : Cfg) (s : Nat) (draw : Int) : ∀ (l : List Int) {st : Co × List LetD} {y : Qy}, st.1.Q s = some y → ∃ t, (wantAll c s draw l st).1.Q s = some { y with t := t }
  | [], st, y, hy => ⟨y.t, hy⟩
  | k :: l, st, y, hy => by
    obtain ⟨t, ht⟩ := wantStep_Q c s draw k hy
    obtain ⟨t2, ht2⟩ := wantAll_Q c s draw l ht
    exact ⟨t2, ht2⟩
theorem wantStep_last (c : Cfg) (s : Nat) (draw k : Int) (st : Co × List LetD) : (wantStep c s draw st k).1.last = st.1.last := by
  unfold wantStep
  cases hy : st.1.Q s with
  | none => rfl
  | some y => exact (wants_Q c st.1 s y k.toNat draw).2.2.2.2
theorem wantAll_last (c : Cfg) (s : Nat) (draw : Int) : ∀ (l : List Int) (st : Co × List LetD), (wantAll c s draw l st).1.last = st.1.last
  | [], st => rfl
  | k :: l, st => (wantAll_last c s draw l (wantStep c s draw st k)).trans (wantStep_last c s draw k st)
theorem wakeN_last (c : Cfg) (draw : Int) (S : Co) : ∀ n : Nat, (wakeN c draw n S).1.last = S.last
  | 0 => rfl
  | n + 1 => by
    rw [wakeN_succ]
    unfold wakeStep
    cases hy : (wakeN c draw n S).1.Q n with
    | none => exact wakeN_last c draw S n
    | some y => exact (wantAll_last c n draw y.m.wants _).trans (wakeN_last c draw S n)
end Go.Proofs.YthbngidbfhcdaaaGreat.C
/- coord.Wake: the walk. -/
namespace Go.Proofs.YthbngidbfhcdaaaGreat.C
open Go.RowKit Go.Maps Go.Proofs.YthbngidbfhcdaaaGreat.Mem Go.Proofs.YthbngidbfhcdaaaGreatW.PrintWords Go.Proofs.YthbngidbfhcdaaaGreat.PCoordScript
set_option linter.unusedVariables false
set_option linter.unusedSimpArgs false
set_option maxRecDepth 100000 in
set_option maxHeartbeats 600000 in
theorem coord_Wake (c : Cfg) (base : Nat) (ρ : Nat → Own) (I : CoIds) (blk : Int → Nat) (S : Co) (draw : Int) (w : World) (h : CoAt c base ρ I blk S w) (hm : c.May) (hnow : 0 ≤ S.now ∧ S.now ≤ 549755813888) {N : Int} (hok : CoOk c N S) (hN : 3 ≤ N) (hN2 : N ≤ 1000000000000) (hlast : S.last ≤ 1000000) :
    Calls Tryz.prog 20 #[.pointer (some ⟨I.x, 0, none⟩), .int .i64 draw] w fun e w' => ∃ v, e = .returned v ∧ CoRes c base ρ I (wakeN c draw c.sl.toNat S).1 (wakeN c draw c.sl.toNat S).2 w w' v := by
  obtain ⟨_, _, ⟨hsl1, hsl4⟩, _⟩ := hm.nums
  obtain ⟨n, hn⟩ := Int.eq_ofNat_of_zero_le (show 0 ≤ c.sl by omega)
  have hn4 : n ≤ 4 := by omega
  have e1 : c.sl.toNat = n := by omega
  rw [e1]
  obtain ⟨dv, hco, _⟩ := h.co
  have c4 : w.cell? ⟨I.x, 4, none⟩ = some (.int .i64 n) := by
    rw [← hn]
    exact (blk_cell hco 4).trans rfl
  have H := Aside0.mk h
  have HOK := Aside0.mk hok
  clear h hok hco hn e1 hsl1 hsl4
  go_enter Tryz.func20, Tryz.ntmps20
  go_upto_region 5 with fail
  go_loopw [5, 19] (fun v5 v wr => ∃ k : Nat, v = .int .i64 k ∧ k ≤ n ∧ Aside0 (CoRes c base ρ I (wakeN c draw k S).1 (wakeN c draw k S).2 w wr v5)) (fun _ v _ => n - (intOf v).toNat)
  case atStart => exact ⟨0, rfl, by omega, ⟨⟨⟨ρ, blk, Ext.refl _ _, H.out, Kd.R_nil _ _ _ _ _⟩, Only.refl _ _⟩⟩⟩
  case round =>
    obtain ⟨k, rfl, hk, HK⟩ := hrel
    rcases Nat.lt_or_ge k n with hlt | hge
    · have hlt1 : decide (k < n) = true := decide_eq_true hlt
      obtain ⟨⟨ρ1, blk1, hE1, hC1, hR1⟩, hO1⟩ := HK.out
      obtain ⟨hk1, hk2, hk3⟩ := wakeN_ok hm draw HOK.out ⟨hnow.1, by omega⟩ hN k
      have hla : (wakeN c draw k S).1.last ≤ 1000000 := by rw [wakeN_last]; exact hlast
      have hsucc : Aside0 (wakeN c draw (k + 1) S = wakeStep c draw (wakeN c draw k S) k) := ⟨wakeN_succ c draw k S⟩
      generalize wakeN c draw k S = st at *
      obtain ⟨A5, c5, hv5⟩ := Kd.R_slice hR1
      subst hv5
      obtain ⟨dv1, hco1, _⟩ := hC1.co
      obtain ⟨fof, fat, hsl, hf1, hf2⟩ := hC1.sl
      obtain ⟨fq, hq, hq2⟩ := hC1.qs
      have x15 : wr.cell? ⟨I.x, 15, none⟩ = some (.pointer (some ⟨I.s, 0, none⟩)) := (blk_cell hco1 15).trans rfl
      have x17 : wr.cell? ⟨I.x, 17, none⟩ = some (.map (some I.m)) := (blk_cell hco1 17).trans rfl
      have hwf : (Lit.int .i64 (k : Int)).wf = true := wf_i64 (by omega) (by omega)
      have hfk : fat (k : Int) = (st.1.Q k).map fun y => y.id := by rw [hf2, if_pos (by omega), Int.toNat_natCast]
      have HSL := Aside0.mk hsl
      have HC1 := Aside0.mk hC1
      have HR1 := Aside0.mk hR1
      have HO1 := Aside0.mk hO1
      have HE1 := Aside0.mk hE1
      clear c4
      cases hy : st.1.Q k with
      | none =>
        rw [hy] at hfk
        have hfk0 : fat (k : Int) = none := hfk
        have HFK := Aside0.mk hfk0
        clear hfk hfk0 hf1 hf2 hq hq2 hsl hC1 hR1 hO1 hE1 hco1
        go_wp2_with (go_at_call 68; refine (slots_At2 I.s I.a I.b c.sl _ _ fof fat k _ HSL.out hwf).mono ?_; rintro e w1 ⟨rfl, hw⟩; obtain rfl := hw.symm; rw [HFK.out])
        refine ⟨⟨k + 1, by go_num, by omega, ⟨?_⟩⟩, by simp [intOf]; omega⟩
        rw [hsucc.out]
        unfold wakeStep
        rw [hy]
        exact HK.out
      | some y =>
        rw [hy] at hfk
        have hfk0 : fat (k : Int) = some y.id := hfk
        have HFK := Aside0.mk hfk0
        have htop := hC1.top k y hy
        have h5 := hm.2.1.1
        have hlk := look_P hq (wf_i64 (n := y.id) (by omega) (by have := htop.2.2; omega))
        rw [hq2, slot_of hC1.uniq (by omega) hy] at hlk
        have hlk' : (Instr.lookup 114 (.map (some I.m)) (.int .i64 y.id) false).run Tryz.prog wr = .ok (.pointer (some ⟨blk1 y.id, 0, none⟩)) wr := hlk
        obtain ⟨g, gs, cap, tv, hQ⟩ := hC1.qat k y (by omega) hy
        have y5 : wr.cell? ⟨blk1 y.id, 5, none⟩ = some (.pointer (some ⟨g, 0, none⟩)) := (blk_cell hQ.box 5).trans rfl
        have HMG := Aside0.mk hQ.mg
        have hshl : y.m.sh.length = c.cuts.length + 1 := (hk1 k y hy).1
        have hsh6 : y.m.sh.length ≤ 6 := by omega
        have HSH := Aside0.mk hshl
        have HK1 := Aside0.mk hk1
        have HIN : Aside0 (∀ q ∈ y.m.wants, 0 ≤ q ∧ q < y.m.sh.length) := ⟨fun q hq => wants_in hq⟩
        have hwl : Aside0 (y.m.wants.length ≤ 6) := ⟨Nat.le_trans (wants_few y.m) hsh6⟩
        clear hfk hfk0 hf1 hf2 hq hq2 hsl hC1 hR1 hO1 hE1 hco1 hlk hQ hshl hk1
        go_upto_region 11 with (first
          | (go_at_call 68; refine (slots_At2 I.s I.a I.b c.sl _ _ fof fat k _ HSL.out hwf).mono ?_; rintro e w1 ⟨rfl, hw⟩; obtain rfl := hw.symm; rw [HFK.out])
          | (go_at_call 69; refine (merge_Wants base _ _ g gs cap tv y.m _ HMG.out hsh6).mono ?_; rintro e w2 ⟨⟨vw, rfl, hRw⟩, hb⟩; obtain ⟨Aw, cw, hvw⟩ := Kd.R_slice hRw; subst hvw; have HRW := Aside0.mk hRw; have HB2 := Aside0.mk hb; clear hRw hb))
        have HW0 : Aside0 (InSt c base ρ1 I blk1 w.heap.size (.slice A5 st.2.length c5) w2 w2 (.slice A5 st.2.length c5) st) :=
          ⟨⟨⟨ρ1, Ext.refl _ _, HC1.out.fresh HB2.out, Kd.R_below HR1.out HB2.out⟩, fun k hk => .inl hk, Only.refl _ _⟩⟩
        have HCW : Aside0 (Kd.C (Kd.int .i64) w2 Aw y.m.wants.length y.m.wants) := ⟨(Kd.R_reads' HRW.out).2.2⟩
        have hne5 : Aside0 (∀ k, (Value.slice Aw y.m.wants.length cw).ownBlock = some k → wr.heap.size ≤ k) := ⟨fun k hk => by
          obtain ⟨inner, hown⟩ := Kd.R_own HRW.out
          exact own_base hown k hk⟩
        clear x15 x17 y5 hlk'
        obtain ⟨l, hl⟩ : ∃ l, l = y.m.wants := ⟨_, rfl⟩
        have HL := Aside0.mk hl
        rw [← hl] at HIN hwl HRW HCW hne5
        rw [← hl]
        clear hl
        go_loopw [5, 45] (fun v5 v wq => ∃ j : Nat, v = .int .i64 j ∧ j ≤ l.length ∧ Aside0 (InSt c base ρ1 I blk1 w.heap.size (.slice A5 st.2.length c5) w2 wq v5 (wantAll c k draw (l.take j) st))) (fun _ v _ => l.length - (intOf v).toNat)
        case atStart => exact ⟨0, rfl, by omega, HW0⟩
        case round =>
          obtain ⟨j, rfl, hj, HJ⟩ := hrel
          obtain ⟨⟨ρ2, hE2, hC2, hR2⟩, hown2, hO2⟩ := HJ.out
          obtain ⟨A6, c6, hv6⟩ := Kd.R_slice hR2
          subst hv6
          rcases Nat.lt_or_ge j l.length with hjl | hjl
          · have hjl1 : decide (j < l.length) = true := decide_eq_true hjl
            have hj6 : j ≤ 6 := by have := hwl.out; omega
            have hKq := wantAll_ok hm k draw (l.take j) HK1.out ⟨by omega, by omega⟩ (by omega)
            have hlq := wantAll_last c k draw (l.take j) st
            obtain ⟨tq, hQq⟩ := wantAll_Q c k draw (l.take j) hy
            have hsucc2 : Aside0 (wantAll c k draw (l.take (j + 1)) st = wantStep c k draw (wantAll c k draw (l.take j) st) l[j]) := ⟨wantAll_succ c k draw l st j hjl⟩
            obtain ⟨ad, hAd, hx0⟩ := Kd.at_int HCW.out (j : Int) (by omega) (by omega)
            subst hAd
            have hzb : ρ1 ad.block = .z := HC1.out.zero (hne5.out _ rfl)
            have hnv : (Value.slice A5 st.2.length c5).ownBlock ≠ some ad.block := fun e => by
              have h1 := Kd.R_lt HR1.out _ e
              have h2 := hne5.out _ rfl
              omega
            have hx1 : wr.cell? (ad.add j) = some (.int .i64 (Go.Proofs.YthbngidbfhcdaaaGreatW.PrintWords.rd l j)) := by
              rw [Int.toNat_natCast] at hx0
              refine (World.cell?_of_block (hO2.block _ ?_ ?_)).trans hx0
              · exact World.block_lt_of_cell? w2 _ hx0
              · rw [addr_block]
                rintro (e | e)
                · exact e hzb
                · exact hnv e
            have hin := HIN.out _ (rd_mem (l := l) (k := (j : Int)) (by omega) (by omega))
            have hrd : Go.Proofs.YthbngidbfhcdaaaGreatW.PrintWords.rd l j = l[j] := by simp [Go.Proofs.YthbngidbfhcdaaaGreatW.PrintWords.rd, List.getD_eq_getElem?_getD, List.getElem?_eq_getElem hjl]
            obtain ⟨sh, hsh⟩ := Int.eq_ofNat_of_zero_le hin.1
            rw [hsh] at hx1 hin hrd
            have htl : (l.take j).length ≤ 6 := by rw [List.length_take]; have := hwl.out; omega
            have hwo := coord_wants c base ρ2 I blk1 _ k { y with t := tq } sh draw wr hC2 hm (by omega) hQq (by have := HSH.out; omega) (by show sh < y.m.sh.length; omega) (by rw [hKq.2.1, hk2]; exact hnow) (hKq.1.tn (by omega) hQq sh)
            have hbl : w.heap.size ≤ wr.heap.size := Nat.le_trans (Nat.le_trans HO1.out.size HB2.out.size) hO2.size
            have hln : ((wantAll c k draw (l.take j) st).2.length + 1) ≤ 100 := by
              have := hKq.2.2
              rw [List.length_take] at this
              have := hwl.out
              omega
            have HST : Aside0 (wantStep c k draw (wantAll c k draw (l.take j) st) l[j] = ((wantAll c k draw (l.take j) st).1.wants c k { y with t := tq } sh draw, (wantAll c k draw (l.take j) st).2 ++ wantL c (wantAll c k draw (l.take j) st).1 k { y with t := tq } sh)) := ⟨by
              unfold wantStep
              rw [hQq, ← hrd]
              rfl⟩
            have hl1 := wantL_len c (wantAll c k draw (l.take j) st).1 k { y with t := tq } sh
            clear hKq hlq hQq
            generalize wantL c (wantAll c k draw (l.take j) st).1 k { y with t := tq } sh = l' at *
            generalize (wantAll c k draw (l.take j) st).1.wants c k { y with t := tq } sh draw = S' at *
            generalize wantAll c k draw (l.take j) st = sj at *
            have HWO := Aside0.mk hwo
            have HC2 := Aside0.mk hC2
            have HR2 := Aside0.mk hR2
            have HE2 := Aside0.mk hE2
            have HO2 := Aside0.mk hO2
            have HOW2 := Aside0.mk hown2
            clear hwo hC2 hR2 hE2 hO2 hown2 hrd
            go_wp2_with (first
              | (go_at_call 70; with_reducible refine HWO.out.mono ?_; rintro e w4 ⟨v', rfl, hw4⟩; have HW4 := Aside0.mk hw4; obtain ⟨⟨ρ3, _, _, hR4⟩, hO4⟩ := hw4; obtain ⟨A4, c4, hv4⟩ := Kd.R_slice hR4; subst hv4; have HC4 := Aside0.mk (Kd.R_reads' hR4).2.2; have HR5 := Aside0.mk (Kd.R_step HR2.out fun k hk hl => hO4.block k hl (by simp [hk])); have hbl4 := Nat.le_trans hbl hO4.size; clear hR4 hO4)
              | (at_builtin; refine append_let w.heap.size rfl (.tmp 49) (.tmp 54) rfl (.slice A6 sj.2.length c6) sj.2 l' A4 c4 rfl rfl HR5.out HC4.out hbl4 (by omega) ?_; intro v6 w5 hr hg hat; have HF := Aside0.mk (InSt.step HE2.out HC2.out HR2.out HOW2.out HO2.out HW4.out hr hg hat); clear hr hg hat))
            refine ⟨⟨j + 1, by go_num, by omega, ⟨?_⟩⟩, by simp [intOf]; omega⟩
            rw [hsucc2.out, HST.out]
            exact HF.out
          · obtain rfl : j = l.length := by omega
            have hjl1 : decide (l.length < l.length) = false := by simp
            go_wp2
            refine ⟨⟨k + 1, by go_num, by omega, ⟨?_⟩⟩, by simp [intOf]; omega⟩
            rw [hsucc.out]
            unfold wakeStep
            rw [hy]
            show CoRes c base ρ I (wantAll c k draw y.m.wants st).1 (wantAll c k draw y.m.wants st).2 w _ _
            have htk : l.take l.length = y.m.wants := by rw [List.take_length]; exact HL.out
            rw [← htk]
            have hsz : w.heap.size ≤ w2.heap.size := Nat.le_trans HO1.out.size HB2.out.size
            refine ⟨⟨ρ2, blk1, Ext.trans HE1.out hE2 hsz, hC2, hR2⟩, ((HO1.out.next (Only.fresh HB2.out _)).trans hO2 fun i hi e => ?_)⟩
            rcases e with e | e
            · exact (HE1.out.new i e).elim (fun h => h) fun h => absurd hi (Nat.not_lt.2 h)
            · obtain ⟨inner, hown⟩ := Kd.R_own HR1.out
              exact absurd hi (Nat.not_lt.2 (own_base hown i e))
    · obtain rfl : k = n := by omega
      have hlt1 : decide (k < k) = false := by simp
      go_wp2
      go_ret
      exact ⟨_, rfl, HK.out⟩
end Go.Proofs.YthbngidbfhcdaaaGreat.C
/- What SameMsg and SameLetters come to, of what a coordinator sends. -/
namespace Go.Proofs.YthbngidbfhcdaaaGreat.C
open Go.RowKit Go.Maps Go.Proofs.YthbngidbfhcdaaaGreat.Mem Go.Proofs.YthbngidbfhcdaaaGreatW.PrintWords Go.Proofs.YthbngidbfhcdaaaGreat.PCoordScript
set_option linter.unusedVariables false
set_option linter.unusedSimpArgs false
theorem eqItem (d : Nat) (w : World) (x0 y0 : Int) (x1 y1 : ByteArray) :
    (Op.equalIn (d + 2) 46 (.agg #[.int .i64 x0, .string x1]) (.agg #[.int .i64 y0, .string y1])).run Tryz.prog w = .ok (x0 == y0 && (x1.toList == y1.toList)) w := by
  refine eqA_of Tryz.underlying46 (by kernel_rfl) ?_
  refine eqf_cons (by rfl) (by go_simp; rfl) (by go_simp; rfl) (by go_simp) ?_
  exact eqf_last (by rfl) (by go_simp; rfl) (by go_simp; rfl) (by go_simp)
theorem eqStop (d : Nat) (w : World) (x0 y0 x1 y1 : Int) :
    (Op.equalIn (d + 2) 87 (.agg #[.int .i64 x0, .int .i64 x1]) (.agg #[.int .i64 y0, .int .i64 y1])).run Tryz.prog w = .ok (x0 == y0 && (x1 == y1)) w := by
  refine eqA_of Tryz.underlying87 (by kernel_rfl) ?_
  refine eqf_cons (by rfl) (by go_simp; rfl) (by go_simp; rfl) (by go_simp) ?_
  exact eqf_last (by rfl) (by go_simp; rfl) (by go_simp; rfl) (by go_simp)
theorem eqGrant (d : Nat) (w : World) (x0 y0 x1 y1 x2 y2 : Int) :
    (Op.equalIn (d + 2) 99 (.agg #[.int .i64 x0, .int .i64 x1, .int .i64 x2]) (.agg #[.int .i64 y0, .int .i64 y1, .int .i64 y2])).run Tryz.prog w = .ok (x0 == y0 && (x1 == y1 && (x2 == y2))) w := by
  refine eqA_of Tryz.underlying99 (by kernel_rfl) ?_
  refine eqf_cons (by rfl) (by go_simp; rfl) (by go_simp; rfl) (by go_simp) ?_
  refine eqf_cons (by rfl) (by go_simp; rfl) (by go_simp; rfl) (by go_simp) ?_
  exact eqf_last (by rfl) (by go_simp; rfl) (by go_simp; rfl) (by go_simp)
def askEq (a b : AskD) : Bool := a.slot == b.slot && (a.query == b.query && (a.shard == b.shard && (a.seq == b.seq && (a.epoch == b.epoch && (a.text.toList == b.text.toList && (a.k == b.k && (a.batch == b.batch && (a.first == b.first && (a.after.f0 == b.after.f0 && (a.after.f1.toList == b.after.f1.toList))))))))))
theorem eqAsk (d : Nat) (w : World) (a b : AskD) : (Op.equalIn (d + 3) 48 (askV a) (askV b)).run Tryz.prog w = .ok (askEq a b) w := by
  have hE := fun d w x0 y0 x1 y1 => eqItem d w x0 y0 x1 y1
  refine eqA_of Tryz.underlying48 (by kernel_rfl) ?_
  refine eqf_cons (by rfl) (by go_simp; rfl) (by go_simp; rfl) (by go_simp) ?_
  refine eqf_cons (by rfl) (by go_simp; rfl) (by go_simp; rfl) (by go_simp) ?_
  refine eqf_cons (by rfl) (by go_simp; rfl) (by go_simp; rfl) (by go_simp) ?_
  refine eqf_cons (by rfl) (by go_simp; rfl) (by go_simp; rfl) (by go_simp) ?_
  refine eqf_cons (by rfl) (by go_simp; rfl) (by go_simp; rfl) (by go_simp) ?_
  refine eqf_cons (by rfl) (by go_simp; rfl) (by go_simp; rfl) (by go_simp) ?_
  refine eqf_cons (by rfl) (by go_simp; rfl) (by go_simp; rfl) (by go_simp) ?_
  refine eqf_cons (by rfl) (by go_simp; rfl) (by go_simp; rfl) (by go_simp) ?_
  refine eqf_cons (by rfl) (by go_simp; rfl) (by go_simp; rfl) (by go_simp) ?_
  refine eqf_last (a := .agg #[.int .i64 a.after.f0, .string a.after.f1]) (b := .agg #[.int .i64 b.after.f0, .string b.after.f1]) (by rfl) (by kernel_rfl) (by kernel_rfl) ?_
  exact eqItem d w _ _ _ _
def msgEq : MsgD → MsgD → Bool
  | .grant w l e, .grant w' l' e' => w == w' && (l == l' && (e == e'))
  | .stop s q, .stop s' q' => s == s' && (q == q')
  | .ask a, .ask b => askEq a b
  | _, _ => false
theorem assert_yes {t : TypeId} {fs : Array Field} (hu : Tryz.prog.underlying t = some (.struct fs)) (v : Value) (xT : TypeId) (W : World) : (Instr.typeAssert (.iface t v) xT t true).run Tryz.prog W = .ok (.tuple #[v, .bool true]) W := by
  simp [Instr.typeAssert, run_underlying hu]
theorem assert_not {t s : TypeId} {fs : Array Field} {z : Value} (hu : Tryz.prog.underlying s = some (.struct fs)) (hz : ∀ W, (zeroValue s).run Tryz.prog W = .ok z W) (hne : t ≠ s) (v : Value) (xT : TypeId) (W : World) : (Instr.typeAssert (.iface t v) xT s true).run Tryz.prog W = .ok (.tuple #[z, .bool false]) W := by
  simp [Instr.typeAssert, run_underlying hu, hne, hz W]
theorem zHello (W : World) : (zeroValue 36).run Tryz.prog W = .ok (.agg #[.int .i64 0, .int .i64 0]) W := by kernel_rfl
theorem zGrant (W : World) : (zeroValue 99).run Tryz.prog W = .ok (.agg #[.int .i64 0, .int .i64 0, .int .i64 0]) W := by kernel_rfl
theorem zAsk (W : World) : (zeroValue 48).run Tryz.prog W = .ok (askV ⟨0, 0, 0, 0, 0, ⟨#[]⟩, 0, 0, false, ⟨0, ⟨#[]⟩⟩⟩) W := by kernel_rfl
theorem zReply (W : World) : (zeroValue 65).run Tryz.prog W = .ok (.agg #[.int .i64 0, .int .i64 0, .int .i64 0, .int .i64 0, .int .i64 0, .int .i64 0, .slice none 0 0, .bool false]) W := by kernel_rfl
theorem zStop (W : World) : (zeroValue 87).run Tryz.prog W = .ok (.agg #[.int .i64 0, .int .i64 0]) W := by kernel_rfl
theorem bel_end {w : World} {e : Ending} {v : Value} {W : World} (h : e = .returned v) (hb : Below w.heap.size w W) : e = .returned v ∧ Below w.heap.size w W := ⟨h, hb⟩
set_option maxRecDepth 100000 in
set_option maxHeartbeats 1600000 in
theorem same_msg (a b : MsgD) (w : World) : Calls Tryz.prog 39 #[msgV a, msgV b] w fun e w' => e = .returned (.bool (msgEq a b)) ∧ Below w.heap.size w w' := by
  have g1 := fun v xT W => assert_not (t := 99) Tryz.underlying36 zHello (by decide) v xT W
  have g2 := fun v xT W => assert_not (t := 48) Tryz.underlying36 zHello (by decide) v xT W
  have g3 := fun v xT W => assert_not (t := 87) Tryz.underlying36 zHello (by decide) v xT W
  have g4 := fun v xT W => assert_yes Tryz.underlying99 v xT W
  have g5 := fun v xT W => assert_not (t := 48) Tryz.underlying99 zGrant (by decide) v xT W
  have g6 := fun v xT W => assert_not (t := 87) Tryz.underlying99 zGrant (by decide) v xT W
  have g7 := fun v xT W => assert_yes Tryz.underlying48 v xT W
  have g8 := fun v xT W => assert_not (t := 99) Tryz.underlying48 zAsk (by decide) v xT W
  have g9 := fun v xT W => assert_not (t := 87) Tryz.underlying48 zAsk (by decide) v xT W
  have h1 := fun v xT W => assert_not (t := 87) Tryz.underlying65 zReply (by decide) v xT W
  have h2 := fun v xT W => assert_yes Tryz.underlying87 v xT W
  have h3 := fun v xT W => assert_not (t := 99) Tryz.underlying87 zStop (by decide) v xT W
  have h4 := fun v xT W => assert_not (t := 48) Tryz.underlying87 zStop (by decide) v xT W
  have e1 := eqStop
  have e2 := eqGrant
  have e3 := eqAsk
  cases a with
  | grant a1 a2 a3 =>
    cases b with
    | grant b1 b2 b3 =>
      unfold msgV
      go_enter Tryz.func39, Tryz.ntmps39
      go_wp2
      go_ret
      refine bel_end rfl ?_
      repeat (refine below_alloc ?_ _)
      exact Below.refl _ _
    | ask y =>
      unfold msgV
      go_enter Tryz.func39, Tryz.ntmps39
      go_wp2
      go_ret
      refine bel_end rfl ?_
      repeat (refine below_alloc ?_ _)
      exact Below.refl _ _
    | stop b1 b2 =>
      unfold msgV
      go_enter Tryz.func39, Tryz.ntmps39
      go_wp2
      go_ret
      refine bel_end rfl ?_
      repeat (refine below_alloc ?_ _)
      exact Below.refl _ _
  | ask x =>
    cases b with
    | grant b1 b2 b3 =>
      unfold msgV
      go_enter Tryz.func39, Tryz.ntmps39
      go_wp2
      go_ret
      refine bel_end rfl ?_
      repeat (refine below_alloc ?_ _)
      exact Below.refl _ _
    | ask y =>
      unfold msgV
      go_enter Tryz.func39, Tryz.ntmps39
      go_wp2
      go_ret
      refine bel_end rfl ?_
      repeat (refine below_alloc ?_ _)
      exact Below.refl _ _
    | stop b1 b2 =>
      unfold msgV
      go_enter Tryz.func39, Tryz.ntmps39
      go_wp2
      go_ret
      refine bel_end rfl ?_
      repeat (refine below_alloc ?_ _)
      exact Below.refl _ _
  | stop a1 a2 =>
    cases b with
    | grant b1 b2 b3 =>
      unfold msgV
      go_enter Tryz.func39, Tryz.ntmps39
      go_wp2
      go_ret
      refine bel_end rfl ?_
      repeat (refine below_alloc ?_ _)
      exact Below.refl _ _
    | ask y =>
      unfold msgV
      go_enter Tryz.func39, Tryz.ntmps39
      go_wp2
      go_ret
      refine bel_end rfl ?_
      repeat (refine below_alloc ?_ _)
      exact Below.refl _ _
    | stop b1 b2 =>
      unfold msgV
      go_enter Tryz.func39, Tryz.ntmps39
      go_wp2
      go_ret
      refine bel_end rfl ?_
      repeat (refine below_alloc ?_ _)
      exact Below.refl _ _
end Go.Proofs.YthbngidbfhcdaaaGreat.C
/- What SameLetters comes to, of what a coordinator sends. -/
namespace Go.Proofs.YthbngidbfhcdaaaGreat.C
open Go.RowKit Go.Maps Go.Proofs.YthbngidbfhcdaaaGreat.Mem Go.Proofs.YthbngidbfhcdaaaGreatW.PrintWords Go.Proofs.YthbngidbfhcdaaaGreat.PCoordScript
set_option linter.unusedVariables false
set_option linter.unusedSimpArgs false
theorem baEq {a b : ByteArray} : a.toList = b.toList ↔ a = b := by
  rw [ByteArray.toList_eq, ByteArray.toList_eq]
  exact ⟨fun h => ByteArray.ext (Array.toList_inj.1 h), fun h => by rw [h]⟩
theorem askEq_iff {a b : AskD} : askEq a b = true ↔ a = b := by
  obtain ⟨a0, a1, a2, a3, a4, a5, a6, a7, a8, a9, a10⟩ := a
  obtain ⟨b0, b1, b2, b3, b4, b5, b6, b7, b8, b9, b10⟩ := b
  simp only [askEq, Bool.and_eq_true, beq_iff_eq, AskD.mk.injEq, S46.mk.injEq, baEq]
theorem msgEq_iff {a b : MsgD} : msgEq a b = true ↔ a = b := by
  cases a <;> cases b <;> simp [msgEq, askEq_iff]
def letEq (a b : LetD) : Bool := a.dest == b.dest && msgEq a.msg b.msg
theorem letEq_iff {a b : LetD} : letEq a b = true ↔ a = b := by
  obtain ⟨a0, a1⟩ := a
  obtain ⟨b0, b1⟩ := b
  simp [letEq, msgEq_iff]
def letsEq : List LetD → List LetD → Bool
  | [], [] => true
  | x :: xs, y :: ys => letEq x y && letsEq xs ys
  | _, _ => false
theorem letsEq_iff : ∀ {a b : List LetD}, letsEq a b = true ↔ a = b
  | [], [] => by simp [letsEq]
  | [], _ :: _ => by simp [letsEq]
  | _ :: _, [] => by simp [letsEq]
  | x :: xs, y :: ys => by simp [letsEq, letEq_iff, letsEq_iff]
theorem letsEq_len {a b : List LetD} (h : letsEq a b = true) : a.length = b.length := by rw [letsEq_iff.1 h]
def zLet : LetD := ⟨0, .stop 0 0⟩
def lt_ (l : List LetD) (i : Int) : LetD := l.getD i.toNat zLet
theorem letsEq_drop (a b : List LetD) (k : Nat) (ha : k < a.length) (hb : k < b.length) : letsEq (a.drop k) (b.drop k) = (letEq (lt_ a k) (lt_ b k) && letsEq (a.drop (k + 1)) (b.drop (k + 1))) := by
  rw [List.drop_eq_getElem_cons ha, List.drop_eq_getElem_cons hb]
  simp [letsEq, lt_, List.getD_eq_getElem?_getD, List.getElem?_eq_getElem ha, List.getElem?_eq_getElem hb]
theorem at_let {w : World} {A : Option Addr} {n : Nat} {xs : List LetD} (h : Kd.C kLet w A n xs) (i : Int) (h0 : 0 ≤ i) (h1 : i < n) : ∃ ad, A = some ad ∧ w.cell? (ad.add (i.toNat * 2)) = some (.int .i64 (lt_ xs i).dest) ∧ w.cell? ⟨(ad.add (i.toNat * 2)).block, (ad.add (i.toNat * 2)).off + 1, none⟩ = some (msgV (lt_ xs i).msg) := by
  obtain ⟨ad, c, e, _, hK, hc0⟩ := Kd.C_get h zLet i h0 h1
  have hc : ∀ j u, c[j]? = some u → w.cell? (ad.add (i.toNat * 2 + j)) = some u := hc0
  obtain ⟨c1, c2, rfl, rfl, rfl⟩ := hK
  exact ⟨ad, e, hc 0 _ rfl, by rw [← add_field _ _ 1 (by omega)]; exact hc 1 _ rfl⟩
set_option maxRecDepth 100000 in
set_option maxHeartbeats 1600000 in
theorem same_letters (A0 : Option Addr) (c0 : Nat) (l0 : List LetD) (A1 : Option Addr) (c1 : Nat) (l1 : List LetD) (w : World) (h0 : Kd.C kLet w A0 l0.length l0) (h1 : Kd.C kLet w A1 l1.length l1) (hl : l0.length ≤ 100000 ∧ l1.length ≤ 100000) :
    Calls Tryz.prog 42 #[.slice A0 l0.length c0, .slice A1 l1.length c1] w fun e w' => e = .returned (.bool (letsEq l0 l1)) ∧ Below w.heap.size w w' := by
  have H0 := Aside0.mk h0
  have H1 := Aside0.mk h1
  clear h0 h1
  rcases Mem.bool_or ((l0.length : Int) != l1.length) with hne | heq
  · have hf : letsEq l0 l1 = false := by
      rcases Mem.bool_or (letsEq l0 l1) with h | h
      · rw [letsEq_len h] at hne
        simp at hne
      · exact h
    have HF := Aside0.mk hf
    clear hf
    have hne2 : (l0.length != l1.length) = true := by simp at hne ⊢; omega
    go_enter Tryz.func42, Tryz.ntmps42
    go_wp2
    go_ret
    exact ⟨by rw [HF.out]; rfl, Below.refl _ _⟩
  · have heq2 : (l0.length != l1.length) = false := by simp at heq ⊢; omega
    have hlen : l0.length = l1.length := by simpa using heq2
    have HL := Aside0.mk hlen
    clear hlen
    go_enter Tryz.func42, Tryz.ntmps42
    go_wp2
    go_loopw [5] (fun v wr => ∃ i : Int, v = .int .i64 i ∧ 0 ≤ i ∧ i ≤ l0.length ∧ Aside0 (Below w.heap.size w wr ∧ letsEq l0 l1 = letsEq (l0.drop i.toNat) (l1.drop i.toNat))) (fun v _ => l0.length - (intOf v).toNat)
    case atStart => exact ⟨0, rfl, by omega, by omega, ⟨Below.refl _ _, rfl⟩⟩
    case round =>
      obtain ⟨i, rfl, hi0, hi1, HK⟩ := hrel
      rcases Mem.dec_or (i < l0.length) with hlt | hge
      · have hlt' : i < l0.length := by simpa using hlt
        have hlt1 : i < l1.length := by have := HL.out; omega
        obtain ⟨a0, rfl, x0, x1⟩ := at_let (Kd.C_below H0.out HK.out.1) i hi0 hlt'
        obtain ⟨a1, rfl, y0, y1⟩ := at_let (Kd.C_below H1.out HK.out.1) i hi0 hlt1
        have hd : Aside0 (letsEq l0 l1 = (letEq (lt_ l0 i) (lt_ l1 i) && letsEq (l0.drop (i.toNat + 1)) (l1.drop (i.toNat + 1)))) := ⟨by
          rw [HK.out.2, letsEq_drop l0 l1 i.toNat (by omega) (by omega)]
          rw [show ((i.toNat : Nat) : Int) = i by omega]⟩
        generalize lt_ l0 i = p at *
        generalize lt_ l1 i = q at *
        rcases Mem.bool_or (p.dest != q.dest) with hq | hq
        · go_upto_region 6 with fail
          go_quiet (fail)
          go_wp2
          go_ret
          refine ⟨?_, pw_below_drewN HK.out.1 _⟩
          have : letEq p q = false := by
            unfold letEq
            have : (p.dest == q.dest) = false := by simpa using hq
            rw [this]; rfl
          rw [hd.out, this]
          rfl
        · have HX := Aside0.mk (And.intro x0 (And.intro x1 (And.intro y0 y1)))
          have hle : letEq p q = msgEq p.msg q.msg := by
            unfold letEq
            have : (p.dest == q.dest) = true := by simpa using hq
            rw [this]; rfl
          have HLE := Aside0.mk hle
          clear hle x0 x1 y0 y1
          obtain ⟨r, hr⟩ : ∃ r, r = msgEq p.msg q.msg := ⟨_, rfl⟩
          have HR := Aside0.mk hr
          clear hr
          rcases Mem.bool_or r with hb | hb
          all_goals
            go_upto_region 6 with fail
            go_region_held3 (fun W => W.cell? (a0.add (i.toNat * 2)) = some (.int .i64 p.dest) ∧ W.cell? ⟨(a0.add (i.toNat * 2)).block, (a0.add (i.toNat * 2)).off + 1, none⟩ = some (msgV p.msg) ∧ W.cell? (a1.add (i.toNat * 2)) = some (.int .i64 q.dest) ∧ W.cell? ⟨(a1.add (i.toNat * 2)).block, (a1.add (i.toNat * 2)).off + 1, none⟩ = some (msgV q.msg))
              (first | exact HX.out | exact ⟨(HB2.out.cell (World.block_lt_of_cell? wr _ HX.out.1)).trans HX.out.1, (HB2.out.cell (World.block_lt_of_cell? wr _ HX.out.2.1)).trans HX.out.2.1, (HB2.out.cell (World.block_lt_of_cell? wr _ HX.out.2.2.1)).trans HX.out.2.2.1, (HB2.out.cell (World.block_lt_of_cell? wr _ HX.out.2.2.2)).trans HX.out.2.2.2⟩ | go_keep)
              ((go_simp; go_at_call 39; refine (same_msg p.msg q.msg _).mono ?_; rintro e w2 ⟨rfl, hb2⟩; rw [← HR.out]; have HB2 := Aside0.mk hb2; clear hb2))
          · all_goals
              go_wp2
              go_roundw
              case rel =>
                refine ⟨i + 1, rfl, by omega, by omega, ⟨below_step (below_drew1 HK.out.1) HB2.out, ?_⟩⟩
                rw [hd.out, HLE.out, ← HR.out, hb, Bool.true_and]
                rw [show (i + 1).toNat = i.toNat + 1 by omega]
              case measure => simp [intOf]; omega
          · all_goals
              go_wp2
              go_ret
              refine ⟨?_, below_step (below_drew1 HK.out.1) HB2.out⟩
              rw [hd.out, HLE.out, ← HR.out, hb]
              rfl
      · have hge' : ¬ i < l0.length := by simpa using hge
        obtain rfl : i = l0.length := by omega
        have HK2 := HK
        clear HK
        go_wp2
        go_ret
        refine ⟨?_, HK2.out.1⟩
        rw [HK2.out.2, List.drop_eq_nil_of_le (by omega), List.drop_eq_nil_of_le (by have := HL.out; omega)]
        rfl
end Go.Proofs.YthbngidbfhcdaaaGreat.C
/- The statements' waking. -/
namespace Go.Proofs.YthbngidbfhcdaaaGreat.C
open Go.RowKit Go.Maps Go.Proofs.YthbngidbfhcdaaaGreat.Mem Go.Proofs.YthbngidbfhcdaaaGreatW.PrintWords Go.Proofs.YthbngidbfhcdaaaGreat.PCoordScript
set_option linter.unusedVariables false
set_option linter.unusedSimpArgs false
theorem smallWords_May : WordsMay smallWords := by
  refine ⟨by decide, ?_, ?_⟩
  · intro c hc
    simp only [smallWords, List.mem_cons, List.not_mem_nil, or_false] at hc
    rcases hc with rfl | rfl | rfl <;> kernel_rfl
  · intro j a b h1 h2
    unfold sless
    match j, h1, h2 with
    | 0, h1, h2 => cases h1; cases h2; decide +kernel
    | 1, h1, h2 => cases h1; cases h2; decide +kernel
    | j + 2, h1, h2 => simp [smallWords] at h2
theorem cSm_May (g : Nat) : (cSm g).May := ⟨smallWords_May, ⟨Nat.zero_le _, fun c hc => (by cases hc), fun j a b h1 h2 => (by cases h1)⟩, rfl⟩
def qSm : S40 := ⟨⟨#[97]⟩, 1, 2⟩
def sm1 (g : Nat) : Co := Co.new.hello (cSm g) 1 1
def sm2 (g : Nat) : Co := ((sm1 g).add (cSm g) 0 qSm).goes (cSm g) 0 (newQy (cSm g) (sm1 g) qSm)
def sm3 (g : Nat) : Co × List LetD := wakeN (cSm g) 0 1 (sm2 g)
def wantSm : List LetD := [⟨1, .ask ⟨0, 1, 0, 0, 1, ⟨#[97]⟩, 1, 2, true, ⟨0, ⟨#[]⟩⟩⟩⟩]
theorem sm3_lets (g : Nat) : letsEq (sm3 g).2 wantSm = true := by kernel_rfl
theorem sm3_tim (g : Nat) : nT (sm3 g).1.T = 1 := by kernel_rfl
theorem sm1_ok (g : Nat) : helloOk (cSm g) Co.new.L 1 1 := by
  unfold helloOk
  simp [cSm, Co.new]
theorem sm1_let (g : Nat) : letsEq [grantOf (cSm g) Co.new 1 1] [⟨1, .grant 1 1 1⟩] = true := by kernel_rfl
/-- Letters that are nobody's stay through a call. -/
theorem lets_on {e : Nat} {ρ ρ' : Nat → Own} {w w' : World} {base : Nat} {v : Value} {ls : List LetD} (h : Kd.R kLet e w base (fun k => ρ k = .z) v ls) (hE : Ext ρ ρ' w) (hO : Only (fun k => ρ k ≠ .z) w w') : Kd.R kLet e w' base (fun k => ρ' k = .z) v ls := by
  have hlt := Kd.R_lt h
  refine RL_ok (Kd.R_step h fun k hk hl => hO.block k hl (by simp [hk])) fun k hk => ?_
  cases e : ρ' k with
  | z => rfl
  | _ =>
    rcases hE.new k (by rw [e]; simp) with h1 | h1
    · exact absurd (h.1 k hk) h1
    · exact absurd (hlt k hk) (Nat.not_lt.2 h1)
theorem CoAt.basele {c : Cfg} {base : Nat} {ρ : Nat → Own} {I : CoIds} {blk : Int → Nat} {S : Co} {W : World} (h : CoAt c base ρ I blk S W) : base ≤ W.heap.size := by
  have := h.own I.x (by rw [h.roles.1]; simp)
  omega
theorem Take_first (g base : Nat) (ρ : Nat → Own) (I : CoIds) (blk : Int → Nat) (w : World) (h : CoAt (cSm g) base ρ I blk Co.new w) :
    Calls Tryz.prog 16 #[.pointer (some ⟨I.x, 0, none⟩), .iface 36 (.agg #[.int .i64 1, .int .i64 1])] w fun e w' => ∃ A k, e = .returned (.slice A 1 k) ∧ Kd.R kLet 51 w' base (fun k => ρ k = .z) (.slice A 1 k) [grantOf (cSm g) Co.new 1 1] ∧ CoAt (cSm g) base ρ I blk (sm1 g) w' ∧ Only (fun k => ρ k ≠ .z) w w' := by
  refine (coord_Take_hello (cSm g) base ρ I blk Co.new 1 1 w h (cSm_May g) (Int.le_refl 0) (by decide) (fun k => ⟨Int.le_refl 0, (by decide : (0 : Int) ≤ 4611686018427387904)⟩)).mono ?_
  rw [if_pos (sm1_ok g), if_pos (sm1_ok g)]
  rintro e w3 ⟨⟨v3, rfl, hR⟩, hC, hO⟩
  obtain ⟨A3, c3, rfl⟩ := Kd.R_slice hR
  refine ⟨A3, c3, rfl, RL_ok (Kd.R_lower hR h.basele) fun k hk => ?_, hC, hO.mono fun k _ hk => by rw [hk, h.roles.2.1]; simp⟩
  obtain ⟨inner, hown⟩ := Kd.R_own hR
  exact h.zero (own_base hown k hk)
theorem Submit_first (g base : Nat) (ρ : Nat → Own) (I : CoIds) (blk : Int → Nat) (w : World) (h : CoAt (cSm g) base ρ I blk (sm1 g) w) :
    Calls Tryz.prog 17 #[.pointer (some ⟨I.x, 0, none⟩), .agg #[.string ⟨#[97]⟩, .int .i64 1, .int .i64 2]] w fun e w' => ∃ A n k ρ' blk', e = .returned (.tuple #[.int .i64 3, .int .i64 1, .slice A n k]) ∧ CoAt (cSm g) base ρ' I blk' (sm2 g) w' ∧ Ext ρ ρ' w ∧ Only (fun k => ρ k ≠ .z) w w' := by
  show Calls _ _ #[_, qval qSm] w _
  refine (coord_Submit (cSm g) base ρ I blk (sm1 g) qSm 0 w h (cSm_May g) (by decide) (by kernel_rfl) (by show 0 < Int.toNat 1; decide) (fun i hi => absurd hi (Nat.not_lt_zero i)) rfl (by show ((0 : Nat) : Int) < 1; decide) (by show (0 : Int) ≤ 999999; decide)).mono ?_
  rintro e w3 ⟨v, rfl, ⟨⟨ρ', blk', hE, hC, hR⟩, hO⟩⟩
  obtain ⟨A3, c3, rfl⟩ := Kd.R_slice hR
  exact ⟨_, _, _, ρ', blk', rfl, hC, hE, hO⟩
theorem sm2_ok (g : Nat) : CoOk (cSm g) 3 (sm2 g) := by
  refine CoOk.goes (CoOk.add (CoOk.hello (CoOk.new _ _) 1 1) (by decide) 0 qSm) ?_
  rfl
theorem sm2_now (g : Nat) : (sm2 g).now = 0 := by kernel_rfl
theorem sm2_last (g : Nat) : (sm2 g).last = 1 := by kernel_rfl
theorem Wake_first (g base : Nat) (ρ : Nat → Own) (I : CoIds) (blk : Int → Nat) (w : World) (h : CoAt (cSm g) base ρ I blk (sm2 g) w) :
    Calls Tryz.prog 20 #[.pointer (some ⟨I.x, 0, none⟩), .int .i64 0] w fun e w' => ∃ A k ρ' blk', e = .returned (.slice A 1 k) ∧ CoAt (cSm g) base ρ' I blk' (sm3 g).1 w' ∧ Ext ρ ρ' w ∧ Only (fun k => ρ k ≠ .z) w w' ∧ Kd.R kLet 51 w' base (fun k => ρ' k = .z) (.slice A 1 k) wantSm := by
  refine (coord_Wake (cSm g) base ρ I blk (sm2 g) 0 w h (cSm_May g) ⟨by rw [sm2_now]; decide, by rw [sm2_now]; decide⟩ (sm2_ok g) (by decide) (by decide) (by rw [sm2_last]; decide)).mono ?_
  rintro e w3 ⟨v, rfl, ⟨⟨ρ', blk', hE, hC, hR⟩, hO⟩⟩
  have e1 : (cSm g).sl.toNat = 1 := rfl
  rw [e1] at hC hR
  have e2 : (wakeN (cSm g) 0 1 (sm2 g)).2 = wantSm := letsEq_iff.1 (sm3_lets g)
  rw [e2] at hR
  obtain ⟨A3, c3, rfl⟩ := Kd.R_slice hR
  exact ⟨A3, c3, ρ', blk', rfl, hC, hE, hO, Kd.R_lower hR h.basele⟩
theorem same_one (x y : LetD) (A0 : Option Addr) (c0 : Nat) (A1 : Option Addr) (c1 : Nat) (w : World) (h0 : Kd.C kLet w A0 1 [x]) (h1 : Kd.C kLet w A1 1 [y]) (he : letsEq [x] [y] = true) :
    Calls Tryz.prog 42 #[.slice A0 1 c0, .slice A1 1 c1] w fun e w' => e = .returned (.bool true) ∧ Below w.heap.size w w' := by
  have h := same_letters A0 c0 [x] A1 c1 [y] w h0 h1 ⟨by simp, by simp⟩
  rw [he] at h
  exact h
theorem C_one (x : LetD) {W : World} {g : Nat} (hb : W.heap[g]? = some (.cells #[.int .i64 x.dest, msgV x.msg] 51 (0, 0))) : Kd.C kLet W (some ⟨g, 0, none⟩) 1 [x] :=
  (Kd.R_reads' (RL_one x hb (Nat.le_refl _))).2.2
abbrev gr1 : LetD := ⟨1, .grant 1 1 1⟩
abbrev ask1 : LetD := ⟨1, .ask ⟨0, 1, 0, 0, 1, ⟨#[97]⟩, 1, 2, true, ⟨0, ⟨#[]⟩⟩⟩⟩
abbrev askBox : Obj := .cells #[.int .i64 0, .int .i64 1, .int .i64 0, .int .i64 0, .int .i64 1, .string ⟨#[97]⟩, .int .i64 1, .int .i64 2, .bool true, .int .i64 0, .string ⟨#[]⟩] 48 (0, 0)
set_option maxRecDepth 100000 in
set_option maxHeartbeats 1600000 in
theorem awake_calls (w : World) : Calls Tryz.prog 14 #[] w fun e w' => e = .returned (.bool true) ∧ Below w.heap.size w w' := by
  go_enter Tryz.func14, Tryz.ntmps14
  go_upto_region 7 with (first
    | (go_at_call 56; refine (small_calls _).mono ?_; rintro e w1 ⟨g, rfl, hA, hb⟩; have HA := Aside0.mk hA; have HB1 := Aside0.mk hb; clear hA hb)
    | (go_at_call 15; with_reducible refine (coord_New' (cSm g) _ HA.out (cSm_May g)).mono ?_; rintro e w2 ⟨I, ρ, rfl, hC, hb⟩; have HC2 := Aside0.mk hC; have HB2 := Aside0.mk (below_step HB1.out hb); have hb12 := Aside0.mk HB1.out.size; clear hC hb)
    | (go_at_call 16; with_reducible refine (Take_first g _ ρ I _ _ HC2.out).mono ?_; rintro e w3 ⟨A3, c3, rfl, hR, hC, hO⟩; have HC3 := Aside0.mk hC; have HO3 := Aside0.mk hO; have HR3 := Aside0.mk hR; clear hC hO hR)
    | (go_at_call 17; with_reducible refine (Submit_first g _ ρ I _ _ HC3.out).mono ?_; rintro e w4 ⟨A4, n4, c4, ρ4, blk4, rfl, hC, hE, hO⟩; have HC4 := Aside0.mk hC; have HO4 := Aside0.mk (HO3.out.next hO); have HR4 := Aside0.mk (lets_on HR3.out hE hO); clear hC hO hE)
    | (go_at_call 20; with_reducible refine (Wake_first g _ ρ4 I _ _ HC4.out).mono ?_; rintro e w5 ⟨A5, c5, ρ5, blk5, rfl, hC, hE, hO, hR⟩; have HC5 := Aside0.mk hC; have HO5 := Aside0.mk hO; have HR5 := Aside0.mk (lets_on HR4.out hE hO); have HR6 := Aside0.mk hR; clear hC hO hE hR))
  have HB5 : Aside0 (Below w.heap.size w w5) := ⟨(HB2.out.trans (HO4.out.below HB2.out.size fun k _ hk => Nat.le_trans hb12.out (HC2.out.own k hk).1)).trans (HO5.out.below (Nat.le_trans HB2.out.size HO4.out.size) fun k _ hk => Nat.le_trans hb12.out (HC4.out.own k hk).1)⟩
  go_upto_region 8 with fail
  have HA3 : Aside0 (Kd.C kLet w5 A3 1 [grantOf (cSm g) Co.new 1 1]) := ⟨(Kd.R_reads' HR5.out).2.2⟩
  have HA5 : Aside0 (Kd.C kLet w5 A5 1 [ask1]) := ⟨(Kd.R_reads' HR6.out).2.2⟩
  generalize hp : w5.heap.size = p
  have hpb : (w5.alloc askBox).heap[p]? = some askBox := by rw [← hp]; exact blk_new _ _
  refine Rd.gen_wp (R := fun V => Below w5.heap.size w5 V ∧ V.heap[p]? = some askBox) ⟨below_alloc (Below.refl _ _) _, hpb⟩ ?_
  clear hpb
  rintro V ⟨hbV, hpV⟩
  have HBV := Aside0.mk hbV
  have HPV := Aside0.mk hpV
  clear hbV hpV hp
  go_wp2_with fail
  refine Rd.gen_call (R := fun W => Below V.heap.size V W ∧ Kd.C kLet W (some ⟨V.heap.size, 0, none⟩) 1 [gr1]) ⟨below_alloc (Below.refl _ _) _, C_one gr1 (blk_new _ _)⟩ ?_
  rintro W ⟨hbW, hcW⟩
  refine (same_one (grantOf (cSm g) Co.new 1 1) gr1 A3 c3 _ 1 W (Kd.C_below HA3.out (below_step HBV.out hbW)) hcW (sm1_let g)).mono ?_
  rintro e w6 ⟨rfl, hb6⟩
  have HB6 := Aside0.mk (below_step hbW hb6)
  have hq := blk_below HPV.out HB6.out
  have q0 : w6.cell? ⟨p, 0, none⟩ = some (.int .i64 0) := (blk_cell hq 0).trans rfl
  have q1 : w6.cell? ⟨p, 1, none⟩ = some (.int .i64 1) := (blk_cell hq 1).trans rfl
  have q2 : w6.cell? ⟨p, 2, none⟩ = some (.int .i64 0) := (blk_cell hq 2).trans rfl
  have q3 : w6.cell? ⟨p, 3, none⟩ = some (.int .i64 0) := (blk_cell hq 3).trans rfl
  have q4 : w6.cell? ⟨p, 4, none⟩ = some (.int .i64 1) := (blk_cell hq 4).trans rfl
  have q5 : w6.cell? ⟨p, 5, none⟩ = some (.string ⟨#[97]⟩) := (blk_cell hq 5).trans rfl
  have q6 : w6.cell? ⟨p, 6, none⟩ = some (.int .i64 1) := (blk_cell hq 6).trans rfl
  have q7 : w6.cell? ⟨p, 7, none⟩ = some (.int .i64 2) := (blk_cell hq 7).trans rfl
  have q8 : w6.cell? ⟨p, 8, none⟩ = some (.bool true) := (blk_cell hq 8).trans rfl
  have q9 : w6.cell? ⟨p, 9, none⟩ = some (.int .i64 0) := (blk_cell hq 9).trans rfl
  have q10 : w6.cell? ⟨p, 10, none⟩ = some (.string ⟨#[]⟩) := (blk_cell hq 10).trans rfl
  clear hbW hcW hb6 hq
  go_wp2_with fail
  refine Rd.gen_call (R := fun W => Below w6.heap.size w6 W ∧ Kd.C kLet W (some ⟨w6.heap.size, 0, none⟩) 1 [ask1]) ⟨below_alloc (Below.refl _ _) _, C_one ask1 (blk_new _ _)⟩ ?_
  rintro W7 ⟨hbW, hcW⟩
  refine (same_one ask1 ask1 A5 c5 _ 1 W7 (Kd.C_below HA5.out (below_step HBV.out (below_step HB6.out hbW))) hcW (letsEq_iff.2 rfl)).mono ?_
  rintro e w8 ⟨rfl, hb8⟩
  have HB8 := Aside0.mk (below_step (below_step (below_step HBV.out HB6.out) hbW) hb8)
  have ht := sm3_tim g
  have HT := Aside0.mk ht
  clear q0 q1 q2 q3 q4 q5 q6 q7 q8 q9 q10 hbW hcW hb8 ht
  go_wp2_with (go_at_call 33; refine (coord_Timers (cSm g) _ ρ5 I _ _ _ (HC5.out.fresh HB8.out)).mono ?_; rintro e w9 ⟨rfl, hw⟩; obtain rfl := hw.symm; rw [HT.out])
  go_ret
  exact ⟨rfl, below_step HB5.out HB8.out⟩
end Go.Proofs.YthbngidbfhcdaaaGreat.C
/- Of no coordinator: what each call says. -/
namespace Go.Proofs.YthbngidbfhcdaaaGreat.C
open Go.RowKit Go.Maps Go.Proofs.YthbngidbfhcdaaaGreat.Mem Go.Proofs.YthbngidbfhcdaaaGreatW.PrintWords Go.Proofs.YthbngidbfhcdaaaGreat.PCoordScript
set_option linter.unusedVariables false
set_option linter.unusedSimpArgs false
theorem nil_Submit (q : S40) (w : World) : Calls Tryz.prog 17 #[.pointer none, qval q] w fun e w' => e = .returned (.tuple #[.int .i64 0, .int .i64 0, .slice none 0 0]) ∧ Below w.heap.size w w' := by
  go_enter Tryz.func17, Tryz.ntmps17
  go_wp2
  go_ret3
  exact ⟨rfl, below_alloc (Below.refl _ _) _⟩
theorem nil_Cancel (k : Int) (w : World) : Calls Tryz.prog 30 #[.pointer none, .int .i64 k] w fun e w' => e = .returned (.tuple #[.slice none 0 0, .int .i64 1]) ∧ w' = w := by
  go_enter Tryz.func30, Tryz.ntmps30
  go_wp2
  go_ret2
  exact ⟨rfl, rfl⟩
theorem nil_Wake (k : Int) (w : World) : Calls Tryz.prog 20 #[.pointer none, .int .i64 k] w fun e w' => e = .returned (.slice none 0 0) ∧ w' = w := by
  go_enter Tryz.func20, Tryz.ntmps20
  go_wp2
  go_ret
  exact ⟨rfl, rfl⟩
theorem nil_Take (v : Value) (w : World) : Calls Tryz.prog 16 #[.pointer none, v] w fun e w' => e = .returned (.slice none 0 0) ∧ w' = w := by
  go_enter Tryz.func16, Tryz.ntmps16
  go_wp2
  go_ret
  exact ⟨rfl, rfl⟩
theorem nil_All (w : World) : Calls Tryz.prog 32 #[.pointer none] w fun e w' => e = .returned (.slice none 0 0) ∧ w' = w := by
  go_enter Tryz.func32, Tryz.ntmps32
  go_wp2
  go_ret
  exact ⟨rfl, rfl⟩
theorem nil_Timers (w : World) : Calls Tryz.prog 33 #[.pointer none] w fun e w' => e = .returned (.int .i64 0) ∧ w' = w := by
  go_enter Tryz.func33, Tryz.ntmps33
  go_wp2
  go_ret
  exact ⟨rfl, rfl⟩
theorem nil_Now (w : World) : Calls Tryz.prog 18 #[.pointer none] w fun e w' => e = .returned (.int .i64 0) ∧ w' = w := by
  go_enter Tryz.func18, Tryz.ntmps18
  go_wp2
  go_ret
  exact ⟨rfl, rfl⟩
theorem nil_Epoch (k : Int) (w : World) : Calls Tryz.prog 34 #[.pointer none, .int .i64 k] w fun e w' => e = .returned (.int .i64 0) ∧ w' = w := by
  go_enter Tryz.func34, Tryz.ntmps34
  go_wp2
  go_ret
  exact ⟨rfl, rfl⟩
theorem nil_Tick (w : World) : Calls Tryz.prog 23 #[.pointer none] w fun e w' => e = .returned (.tuple #[]) ∧ w' = w := by
  go_enter Tryz.func23, Tryz.ntmps23
  go_wp2
  go_end0
  exact ⟨rfl, rfl⟩
theorem nil_Told (k : Int) (w : World) : Calls Tryz.prog 26 #[.pointer none, .int .i64 k] w fun e w' => e = .returned (.tuple #[.agg #[.int .i64 0, .string ⟨#[]⟩, .int .i64 0, .int .i64 0, .slice none 0 0, .bool false, .bool false], .bool false]) ∧ Below w.heap.size w w' := by
  go_enter Tryz.func26, Tryz.ntmps26
  go_wp2
  exact bodyPost_ret (v := .tuple #[.agg #[.int .i64 0, .string ⟨#[]⟩, .int .i64 0, .int .i64 0, .slice none 0 0, .bool false, .bool false], .bool false]) (by simp [results, Tryz.results26, go_sem]) rfl ⟨rfl, below_alloc (Below.refl _ _) _⟩
end Go.Proofs.YthbngidbfhcdaaaGreat.C
/- What SameItems and SameTold come to. -/
namespace Go.Proofs.YthbngidbfhcdaaaGreat.C
open Go.RowKit Go.Maps Go.Proofs.YthbngidbfhcdaaaGreat.Mem Go.Proofs.YthbngidbfhcdaaaGreatW.PrintWords Go.Proofs.YthbngidbfhcdaaaGreatW.PrintLast Go.Proofs.YthbngidbfhcdaaaGreatW.PrintMore Go.Proofs.YthbngidbfhcdaaaGreat.PCoordScript
set_option linter.unusedVariables false
set_option linter.unusedSimpArgs false
def itemEq (a b : S46) : Bool := a.f0 == b.f0 && a.f1.toList == b.f1.toList
theorem itemEq_iff {a b : S46} : itemEq a b = true ↔ a = b := by
  obtain ⟨a0, a1⟩ := a
  obtain ⟨b0, b1⟩ := b
  simp [itemEq, baEq]
def itemsEq : List S46 → List S46 → Bool
  | [], [] => true
  | x :: xs, y :: ys => itemEq x y && itemsEq xs ys
  | _, _ => false
theorem itemsEq_iff : ∀ {a b : List S46}, itemsEq a b = true ↔ a = b
  | [], [] => by simp [itemsEq]
  | [], _ :: _ => by simp [itemsEq]
  | _ :: _, [] => by simp [itemsEq]
  | x :: xs, y :: ys => by simp [itemsEq, itemEq_iff, itemsEq_iff]
theorem itemsEq_drop (a b : List S46) (k : Nat) (ha : k < a.length) (hb : k < b.length) : itemsEq (a.drop k) (b.drop k) = (itemEq (rd_T46 a k) (rd_T46 b k) && itemsEq (a.drop (k + 1)) (b.drop (k + 1))) := by
  rw [List.drop_eq_getElem_cons ha, List.drop_eq_getElem_cons hb]
  simp [itemsEq, rd_T46, List.getD_eq_getElem?_getD, List.getElem?_eq_getElem ha, List.getElem?_eq_getElem hb]
theorem sameItems_l {a b : List S46} (hl : a.length = b.length) (h : a.length ≤ 100000) : ∀ (n k : Nat), a.length ≤ k + n → k ≤ a.length → inkhornlaw0_SameItems.l0 (n + 1) a b k = some (itemsEq (a.drop k) (b.drop k))
  | n, k, h1, h2 => by
    unfold inkhornlaw0_SameItems.l0
    by_cases hk : k < a.length
    · rw [if_pos (by omega), if_pos (by omega), if_pos (by omega), itemsEq_drop a b k hk (by omega)]
      cases n with
      | zero => omega
      | succ n =>
        have ih := sameItems_l hl h n (k + 1) (by omega) (by omega)
        have hw : wrap64 ((k : Int) + 1) = ((k + 1 : Nat) : Int) := by
          rw [IntWalk.wrap64_in _ (by omega)]
          omega
        rw [hw, ih]
        unfold itemEq
        cases (rd_T46 a k).f0 == (rd_T46 b k).f0 <;> cases (rd_T46 a k).f1.toList == (rd_T46 b k).f1.toList <;> simp
    · rw [if_neg (by omega), List.drop_eq_nil_of_le (by omega), List.drop_eq_nil_of_le (by omega)]
      rfl
theorem sameItems_f (a b : List S46) (h : a.length ≤ 100000) : inkhornlaw0_SameItems.f (a.length + 1) a b = some (itemsEq a b) := by
  unfold inkhornlaw0_SameItems.f
  by_cases hl : (a.length : Int) = b.length
  · rw [if_pos hl]
    have := sameItems_l (a := a) (b := b) (by omega) h a.length 0 (by omega) (by omega)
    simpa using this
  · rw [if_neg hl]
    have : itemsEq a b = false := by
      rcases Mem.bool_or (itemsEq a b) with h | h
      · rw [itemsEq_iff] at h
        rw [h] at hl
        exact absurd rfl hl
      · exact h
    rw [this]
theorem same_items (A0 : Option Addr) (c0 : Nat) (l0 : List S46) (A1 : Option Addr) (c1 : Nat) (l1 : List S46) (w : World) (h0 : Kd.C k46 w A0 l0.length l0) (hc0 : l0.length ≤ c0) (h1 : Kd.C k46 w A1 l1.length l1) (hc1 : l1.length ≤ c1) (hl : l0.length ≤ 100000) :
    Calls Tryz.prog 75 #[.slice A0 l0.length c0, .slice A1 l1.length c1] w fun e w' => e = .returned (.bool (itemsEq l0 l1)) ∧ Below w.heap.size w w' := by
  refine (inkhornlaw0_SameItems.calls _ A0 c0 l0 A1 c1 l1 _ w h0 hc0 h1 hc1 (sameItems_f l0 l1 (by omega))).mono ?_
  rintro e w' ⟨he, n, hw⟩
  subst hw
  exact ⟨he, pw_below_drewN (Below.refl _ _) n⟩
theorem eqQuery (d : Nat) (w : World) (x0 y0 : ByteArray) (x1 y1 : Int) (x2 y2 : Int) :
    (Op.equalIn (d + 2) 40 (.agg #[.string x0, .int .i64 x1, .int .i64 x2]) (.agg #[.string y0, .int .i64 y1, .int .i64 y2])).run Tryz.prog w = .ok (x0.toList == y0.toList && (x1 == y1 && (x2 == y2))) w := by
  refine eqA_of Tryz.underlying40 (by kernel_rfl) ?_
  refine eqf_cons (by rfl) (by go_simp; rfl) (by go_simp; rfl) (by go_simp) ?_
  refine eqf_cons (by rfl) (by go_simp; rfl) (by go_simp; rfl) (by go_simp) ?_
  exact eqf_last (by rfl) (by go_simp; rfl) (by go_simp; rfl) (by go_simp)
def qryEq (a b : S40) : Bool := a.f0.toList == b.f0.toList && (a.f1 == b.f1 && a.f2 == b.f2)
theorem qryEq_iff {a b : S40} : qryEq a b = true ↔ a = b := by
  obtain ⟨a0, a1, a2⟩ := a
  obtain ⟨b0, b1, b2⟩ := b
  simp [qryEq, baEq]
def toldEq (a b : S58) : Bool := a.f0 == b.f0 && (qryEq a.f1 b.f1 && (a.f3 == b.f3 && (a.f4 == b.f4 && itemsEq a.f2 b.f2)))
theorem toldEq_iff {a b : S58} : toldEq a b = true ↔ a = b := by
  obtain ⟨a0, a1, a2, a3, a4⟩ := a
  obtain ⟨b0, b1, b2, b3, b4⟩ := b
  simp [toldEq, qryEq_iff, itemsEq_iff]
  intro _ _
  constructor
  · rintro ⟨h2, h3, h4⟩
    exact ⟨h4, h2, h3⟩
  · rintro ⟨h4, h2, h3⟩
    exact ⟨h2, h3, h4⟩
abbrev toldA (t : S58) (A : Option Addr) (c : Nat) : Value := .agg #[.int .i64 t.f0, .string t.f1.f0, .int .i64 t.f1.f1, .int .i64 t.f1.f2, .slice A t.f2.length c, .bool t.f3, .bool t.f4]
set_option maxRecDepth 100000 in
set_option maxHeartbeats 1600000 in
theorem same_told (a b : S58) (A0 : Option Addr) (c0 : Nat) (A1 : Option Addr) (c1 : Nat) (w : World) (h0 : Kd.C k46 w A0 a.f2.length a.f2) (hc0 : a.f2.length ≤ c0) (h1 : Kd.C k46 w A1 b.f2.length b.f2) (hc1 : b.f2.length ≤ c1) (hl : a.f2.length ≤ 100000) :
    Calls Tryz.prog 31 #[toldA a A0 c0, toldA b A1 c1] w fun e w' => e = .returned (.bool (toldEq a b)) ∧ Below w.heap.size w w' := by
  have eq := eqQuery
  have H0 := Aside0.mk h0
  have H1 := Aside0.mk h1
  have HC0 := Aside0.mk hc0
  have HC1 := Aside0.mk hc1
  have HL := Aside0.mk hl
  clear h0 h1 hc0 hc1 hl
  have hn : ∀ r, r = toldEq a b → Aside0 (r = toldEq a b) := fun r h => ⟨h⟩
  obtain ⟨r, hr⟩ : ∃ r, r = toldEq a b := ⟨_, rfl⟩
  have HR := Aside0.mk hr
  rw [← hr]
  clear hn hr
  rcases Mem.bool_or (a.f0 == b.f0) with e0 | e0
  · rcases Mem.bool_or (qryEq a.f1 b.f1) with e1 | e1
    · rcases Mem.bool_or (a.f3 == b.f3) with e2 | e2
      · rcases Mem.bool_or (a.f4 == b.f4) with e3 | e3
        · have hx : Aside0 (r = itemsEq a.f2 b.f2) := ⟨by rw [HR.out]; unfold toldEq; rw [e0, e1, e2, e3]; rfl⟩
          unfold qryEq at e1
          go_enter Tryz.func31, Tryz.ntmps31
          go_wp2_with (go_at_call 75; refine (same_items A0 c0 a.f2 A1 c1 b.f2 _ (Kd.C_below H0.out (below_alloc (below_alloc (Below.refl _ _) _) _)) HC0.out (Kd.C_below H1.out (below_alloc (below_alloc (Below.refl _ _) _) _)) HC1.out HL.out).mono ?_; rintro e w1 ⟨rfl, hb⟩; have HB := Aside0.mk (below_step (below_alloc (below_alloc (Below.refl _ _) _) _) hb); clear hb)
          go_ret
          exact ⟨by rw [hx.out]; rfl, HB.out⟩
        · have hx : Aside0 (r = false) := ⟨by rw [HR.out]; unfold toldEq; rw [e0, e1, e2, e3]; rfl⟩
          unfold qryEq at e1
          go_enter Tryz.func31, Tryz.ntmps31
          go_wp2
          go_ret
          exact ⟨by rw [hx.out]; rfl, below_alloc (below_alloc (Below.refl _ _) _) _⟩
      · have hx : Aside0 (r = false) := ⟨by rw [HR.out]; unfold toldEq; rw [e0, e1, e2]; rfl⟩
        unfold qryEq at e1
        go_enter Tryz.func31, Tryz.ntmps31
        go_wp2
        go_ret
        exact ⟨by rw [hx.out]; rfl, below_alloc (below_alloc (Below.refl _ _) _) _⟩
    · have hx : Aside0 (r = false) := ⟨by rw [HR.out]; unfold toldEq; rw [e0, e1]; rfl⟩
      unfold qryEq at e1
      go_enter Tryz.func31, Tryz.ntmps31
      go_wp2
      go_ret
      exact ⟨by rw [hx.out]; rfl, below_alloc (below_alloc (Below.refl _ _) _) _⟩
  · have hx : Aside0 (r = false) := ⟨by rw [HR.out]; unfold toldEq; rw [e0]; rfl⟩
    go_enter Tryz.func31, Tryz.ntmps31
    go_wp2
    go_ret
    exact ⟨by rw [hx.out]; rfl, below_alloc (below_alloc (Below.refl _ _) _) _⟩
end Go.Proofs.YthbngidbfhcdaaaGreat.C
/- Is there more than is gone through? -/
namespace Go.Proofs.YthbngidbfhcdaaaGreat.C
open Go.RowKit Go.Proofs.YthbngidbfhcdaaaGreatW.PrintWords Go.Proofs.YthbngidbfhcdaaaGreat.PCoordScript
set_option linter.unusedVariables false
set_option linter.unusedSimpArgs false
def GreatSays (n m : Nat) (w : World) (e : Ending) (w' : World) : Prop := ∃ b, e = .returned (.bool b) ∧ (b = false → n ≤ m) ∧ w' = w
theorem great_items (A : Option Addr) (c : Nat) (l : List S46) (w : World) (h : Kd.C k46 w A l.length l) :
    Calls Tryz.prog 29 #[.slice A l.length c] w (GreatSays l.length 80 w) := by
  have hmx := h.2.1
  have H := Aside0.mk h
  clear h
  rcases Mem.dec_or ((l.length : Int) ≤ 80) with h8 | h8
  · have h8' : l.length ≤ 80 := by have := of_decide_eq_true h8; omega
    have h9 : decide ((80 : Int) < l.length) = false := by simp; omega
    go_enter Tryz.func29, Tryz.ntmps29
    go_wp2
    go_loop [3] (fun v => ∃ i : Int, v = .int .i64 i ∧ 0 ≤ i ∧ i ≤ l.length) (fun v => l.length - (intOf v).toNat)
    case atStart => exact ⟨0, rfl, by omega, by omega⟩
    case round =>
      obtain ⟨i, rfl, hi0, hi1⟩ := hrel
      rcases Mem.dec_or (i < l.length) with hlt | hge
      · have hlt' : i < l.length := of_decide_eq_true hlt
        obtain ⟨ad, rfl, x0, x1⟩ := at_T46 H.out i hi0 hlt'
        rcases Mem.dec_or ((100 : Int) < (rd_T46 l i).f1.size) with hq | hq
        · go_wp2
          go_ret
          exact ⟨true, rfl, fun h => (by cases h), rfl⟩
        · go_wp2
          go_round
          case rel => exact ⟨i + 1, rfl, by omega, by omega⟩
          case measure => simp [intOf]; omega
      · go_wp2
        go_ret
        exact ⟨false, rfl, fun _ => h8', rfl⟩
  · have h9 : decide ((80 : Int) < l.length) = true := by simp at h8 ⊢; omega
    have h10 : decide (0 < l.length) = true := by simp at h8 ⊢; omega
    go_enter Tryz.func29, Tryz.ntmps29
    go_wp2
    go_loop [3] (fun v => v = .int .i64 0) (fun v => 0)
    case atStart => rfl
    case round =>
      obtain rfl := hrel
      go_wp2
      go_ret
      exact ⟨true, rfl, fun h => (by cases h), rfl⟩
theorem great_texts (A : Option Addr) (c : Nat) (l : List ByteArray) (w : World) (h : Kd.C Kd.string w A l.length l) :
    Calls Tryz.prog 52 #[.slice A l.length c] w (GreatSays l.length 80 w) := by
  have hmx := h.2.1
  have H := Aside0.mk h
  clear h
  rcases Mem.dec_or ((l.length : Int) ≤ 80) with h8 | h8
  · have h8' : l.length ≤ 80 := by have := of_decide_eq_true h8; omega
    have h9 : decide ((80 : Int) < l.length) = false := by simp; omega
    go_enter Tryz.func52, Tryz.ntmps52
    go_wp2
    go_loop [3] (fun v => ∃ i : Int, v = .int .i64 i ∧ 0 ≤ i ∧ i ≤ l.length) (fun v => l.length - (intOf v).toNat)
    case atStart => exact ⟨0, rfl, by omega, by omega⟩
    case round =>
      obtain ⟨i, rfl, hi0, hi1⟩ := hrel
      rcases Mem.dec_or (i < l.length) with hlt | hge
      · have hlt' : i < l.length := of_decide_eq_true hlt
        obtain ⟨ad, rfl, x0⟩ := Kd.at_string H.out i hi0 hlt'
        rcases Mem.dec_or ((100 : Int) < (rdOf ByteArray.empty l i).size) with hq | hq
        · go_wp2
          go_ret
          exact ⟨true, rfl, fun h => (by cases h), rfl⟩
        · go_wp2
          go_round
          case rel => exact ⟨i + 1, rfl, by omega, by omega⟩
          case measure => simp [intOf]; omega
      · go_wp2
        go_ret
        exact ⟨false, rfl, fun _ => h8', rfl⟩
  · have h9 : decide ((80 : Int) < l.length) = true := by simp at h8 ⊢; omega
    have h10 : decide (0 < l.length) = true := by simp at h8 ⊢; omega
    go_enter Tryz.func52, Tryz.ntmps52
    go_wp2
    go_loop [3] (fun v => v = .int .i64 0) (fun v => 0)
    case atStart => rfl
    case round =>
      obtain rfl := hrel
      go_wp2
      go_ret
      exact ⟨true, rfl, fun h => (by cases h), rfl⟩
def GreatSays2 (c : Cfg) (w : World) (e : Ending) (w' : World) : Prop := ∃ b, e = .returned (.bool b) ∧ (b = false → c.words.length ≤ 80 ∧ c.cuts.length ≤ 10) ∧ Below w.heap.size w w'
set_option maxRecDepth 100000 in
theorem great_config (c : Cfg) (w : World) (h : c.At w) : Calls Tryz.prog 12 #[c.val] w (GreatSays2 c w) := by
  have hmx := h.cuts.2.1
  have hmw := h.words.2.1
  have H := Aside0.mk h
  have HB := Aside0.mk (blk_new w (.cells c.cells 25 (0, 0)))
  clear h
  obtain ⟨x0, x1, x2, x3, x4, x5, x6, x7, x8, x9, x10, x11⟩ := Cfg.read HB.out
  have HA := Aside0.mk (H.out.below (below_alloc (Below.refl _ _) (.cells c.cells 25 (0, 0))))
  have hbw : Aside0 (Below w.heap.size w (w.alloc (.cells c.cells 25 (0, 0)))) := ⟨below_alloc (Below.refl _ _) _⟩
  clear x2 x3 x4 x5 x6 x7 x8 x9 x10 x11
  rcases Mem.dec_or ((c.cuts.length : Int) ≤ 10) with h8 | h8
  · have h8' : c.cuts.length ≤ 10 := by have := of_decide_eq_true h8; omega
    have h9 : decide ((10 : Int) < c.cuts.length) = false := by simp; omega
    go_enter Tryz.func12, Tryz.ntmps12
    go_wp2
    go_loop [3] (fun v => ∃ i : Int, v = .int .i64 i ∧ 0 ≤ i ∧ i ≤ c.cuts.length) (fun v => c.cuts.length - (intOf v).toNat)
    case atStart => exact ⟨0, rfl, by omega, by omega⟩
    case round =>
      obtain ⟨i, rfl, hi0, hi1⟩ := hrel
      rcases Mem.dec_or (i < c.cuts.length) with hlt | hge
      · have hlt' : i < c.cuts.length := of_decide_eq_true hlt
        obtain ⟨ad, hA1, y0, y1⟩ := at_T107 HA.out.cuts i hi0 hlt'
        rw [hA1] at x1
        clear y0
        rcases Mem.dec_or ((100 : Int) < (rd_T107 c.cuts i).f1.size) with hq | hq
        · go_wp2
          go_ret
          exact ⟨true, rfl, fun h => (by cases h), hbw.out⟩
        · go_wp2
          go_round
          case rel => exact ⟨i + 1, rfl, by omega, by omega⟩
          case measure => simp [intOf]; omega
      · go_wp2_with (go_at_call 52; refine (great_texts _ _ _ _ HA.out.words).mono ?_; rintro e w1 ⟨b, rfl, hb, hw⟩; obtain rfl := hw.symm; have HB8 := Aside0.mk hb; clear hb; rcases Mem.bool_or b with hb | hb)
        · go_ret
          exact ⟨true, rfl, fun h => (by cases h), hbw.out⟩
        · go_ret
          exact ⟨false, rfl, fun _ => ⟨HB8.out hb, h8'⟩, hbw.out⟩
  · have h9 : decide ((10 : Int) < c.cuts.length) = true := by simp at h8 ⊢; omega
    have h10 : decide (0 < c.cuts.length) = true := by simp at h8 ⊢; omega
    go_enter Tryz.func12, Tryz.ntmps12
    go_wp2
    go_loop [3] (fun v => v = .int .i64 0) (fun v => 0)
    case atStart => rfl
    case round =>
      obtain rfl := hrel
      go_wp2_with (go_at_call 52; refine (great_texts _ _ _ _ HA.out.words).mono ?_; rintro e w1 ⟨b, rfl, hb, hw⟩; obtain rfl := hw.symm; clear hb; rcases Mem.bool_or b with hb | hb)
      all_goals
        go_ret
        exact ⟨true, rfl, fun h => (by cases h), hbw.out⟩
end Go.Proofs.YthbngidbfhcdaaaGreat.C
/- Of no coordinator each call says so. -/
namespace Go.Proofs.YthbngidbfhcdaaaGreat.C
open Go.RowKit Go.Maps Go.Proofs.YthbngidbfhcdaaaGreat.Mem Go.Proofs.YthbngidbfhcdaaaGreatW.PrintWords Go.Proofs.YthbngidbfhcdaaaGreat.PCoordScript
set_option linter.unusedVariables false
set_option linter.unusedSimpArgs false
abbrev actV (x : S67) (A : Option Addr) (c : Nat) : Array Value := #[.int .i64 x.f0, .int .i64 x.f1, .int .i64 x.f2, .int .i64 x.f3, .string x.f4.f0, .int .i64 x.f4.f1, .int .i64 x.f4.f2, .int .i64 x.f5.f0, .int .i64 x.f5.f1, .int .i64 x.f5.f2, .int .i64 x.f5.f3, .int .i64 x.f5.f4, .int .i64 x.f5.f5, .slice A x.f5.f6.length c, .bool x.f5.f7]
abbrev ActB (x : S67) (A : Option Addr) (c : Nat) : Obj := .cells (actV x A c) 67 (0, 0)
def toldZ : S58 := ⟨0, ⟨⟨#[]⟩, 0, 0⟩, [], false, false⟩
theorem toldZ_same (w : World) : Calls Tryz.prog 31 #[.agg #[.int .i64 0, .string ⟨#[]⟩, .int .i64 0, .int .i64 0, .slice none 0 0, .bool false, .bool false], .agg #[.int .i64 0, .string ⟨#[]⟩, .int .i64 0, .int .i64 0, .slice none 0 0, .bool false, .bool false]] w fun e w' => e = .returned (.bool true) ∧ Below w.heap.size w w' := by
  have h := same_told toldZ toldZ none 0 none 0 w (Kd.C_nil _ _) (Nat.le_refl _) (Kd.C_nil _ _) (Nat.le_refl _) (Nat.zero_le _)
  rw [toldEq_iff.2 rfl] at h
  exact h
set_option maxRecDepth 100000 in
set_option maxHeartbeats 1600000 in
theorem none_any (x : S67) (A : Option Addr) (c : Nat) (w : World) (h : Kd.C k46 w A x.f5.f6.length x.f5.f6) :
    Calls Tryz.prog 5 #[.agg (actV x A c)] w fun e w' => e = .returned (.bool true) ∧ Below w.heap.size w w' := by
  have H := Aside0.mk h
  clear h
  have HB0 : Aside0 (Below w.heap.size w (w.alloc (ActB x A c))) := ⟨below_alloc (Below.refl _ _) _⟩
  rcases Mem.dec_or ((100 : Int) < x.f4.f0.size) with hs | hs
  · go_enter Tryz.func5, Tryz.ntmps5
    go_wp2_with (go_at_call 14; refine (awake_calls _).mono ?_; rintro e w1 ⟨rfl, hb⟩; have HB := Aside0.mk (below_step HB0.out hb); clear hb)
    go_ret
    exact ⟨rfl, HB.out⟩
  · go_enter Tryz.func5, Tryz.ntmps5
    go_wp2_with fail
    refine (great_items _ _ _ _ (Kd.C_below H.out HB0.out)).mono ?_
    rintro e w1 ⟨b, rfl, _, hw⟩
    obtain rfl := hw.symm
    clear hw
    rcases Mem.bool_or b with hb | hb
    · go_wp2_with (go_at_call 14; refine (awake_calls _).mono ?_; rintro e w1 ⟨rfl, hb⟩; have HB := Aside0.mk (below_step HB0.out hb); clear hb)
      go_ret
      exact ⟨rfl, HB.out⟩
    · have HX : Aside0 (∀ W, Below (w.alloc (ActB x A c)).heap.size (w.alloc (ActB x A c)) W → W.heap[w.heap.size]? = some (ActB x A c)) := ⟨fun W hW => Mem.new_kept hW⟩
      go_wp2_with fail
      refine (nil_Submit x.f4 _).mono ?_
      rintro e w2 ⟨rfl, hb2⟩
      have HB2 := Aside0.mk hb2
      have z1 : w2.cell? ⟨w.heap.size, 1, none⟩ = some (.int .i64 x.f1) := (blk_cell (HX.out w2 hb2) 1).trans rfl
      clear hb2
      go_wp2_with (first
        | (go_at_call 30; refine (nil_Cancel _ _).mono ?_; rintro e w3 ⟨rfl, hw⟩; obtain rfl := hw.symm)
        | (go_at_call 26; refine (nil_Told _ _).mono ?_; rintro e w4 ⟨rfl, hb⟩; have HB4 := Aside0.mk (below_step HB2.out hb); clear hb z1)
        | (go_at_call 23; refine (nil_Tick _).mono ?_; rintro e w5 ⟨rfl, hw⟩; obtain rfl := hw.symm)
        | (go_at_call 31; refine (toldZ_same _).mono ?_; rintro e w6 ⟨rfl, hb⟩;
           have HB6 := Aside0.mk (below_step (below_step HB4.out (below_alloc (Below.refl _ _) _)) hb); have q := HX.out w6 HB6.out;
           have z3 : w6.cell? ⟨w.heap.size, 3, none⟩ = some (.int .i64 x.f3) := (blk_cell q 3).trans rfl;
           have z7 : w6.cell? ⟨w.heap.size, 7, none⟩ = some (.int .i64 x.f5.f0) := (blk_cell q 7).trans rfl;
           have z8 : w6.cell? ⟨w.heap.size, 8, none⟩ = some (.int .i64 x.f5.f1) := (blk_cell q 8).trans rfl;
           have z9 : w6.cell? ⟨w.heap.size, 9, none⟩ = some (.int .i64 x.f5.f2) := (blk_cell q 9).trans rfl;
           have z10 : w6.cell? ⟨w.heap.size, 10, none⟩ = some (.int .i64 x.f5.f3) := (blk_cell q 10).trans rfl;
           have z11 : w6.cell? ⟨w.heap.size, 11, none⟩ = some (.int .i64 x.f5.f4) := (blk_cell q 11).trans rfl;
           have z12 : w6.cell? ⟨w.heap.size, 12, none⟩ = some (.int .i64 x.f5.f5) := (blk_cell q 12).trans rfl;
           have z13 : w6.cell? ⟨w.heap.size, 13, none⟩ = some (.slice A x.f5.f6.length c) := (blk_cell q 13).trans rfl;
           have z14 : w6.cell? ⟨w.heap.size, 14, none⟩ = some (.bool x.f5.f7) := (blk_cell q 14).trans rfl;
           clear hb q)
        | (go_at_call 18; refine (nil_Now _).mono ?_; rintro e w7 ⟨rfl, hw⟩; obtain rfl := hw.symm)
        | (go_at_call 16; refine (nil_Take _ _).mono ?_; rintro e w7 ⟨rfl, hw⟩; obtain rfl := hw.symm)
        | (go_at_call 20; refine (nil_Wake _ _).mono ?_; rintro e w7 ⟨rfl, hw⟩; obtain rfl := hw.symm)
        | (go_at_call 32; refine (nil_All _).mono ?_; rintro e w7 ⟨rfl, hw⟩; obtain rfl := hw.symm)
        | (go_at_call 33; refine (nil_Timers _).mono ?_; rintro e w7 ⟨rfl, hw⟩; obtain rfl := hw.symm)
        | (go_at_call 34; refine (nil_Epoch _ _).mono ?_; rintro e w7 ⟨rfl, hw⟩; obtain rfl := hw.symm)
        | (go_at_call 14; refine (awake_calls _).mono ?_; rintro e w8 ⟨rfl, hb⟩; have HB8 := Aside0.mk (below_step (below_step HB0.out HB6.out) hb); clear hb))
      go_ret
      exact ⟨rfl, HB8.out⟩
end Go.Proofs.YthbngidbfhcdaaaGreat.C
/- Arguments are opened: what reads as data at a type is in memory as a kind (Kd) tells it, with its numbers in range and its strings and rows no longer than may be. -/
namespace Go.Proofs.YthbngidbfhcdaaaGreat.Open
open Go.RowKit Go.Proofs.YthbngidbfhcdaaaGreatW.PrintWords Go.ChangeShapes Go.WideShapes Go.Deep

/-- What reads as data at type t is of kind d, and G holds of it. -/
def Opens {α : Type} (P : Program) (t : TypeId) (d : Kd α) (G : α → Prop) : Prop :=
  ∀ (H : Type) (enc : TypeId × Value → H) (w : World) (base : Nat) (sp : Nat → Bool) (held : Bool) (fuel : Nat) (cs : List Value) (x : DataW H × List MemPlace),
    DataW.trod enc P w base sp held fuel t cs = some x → ∃ a : α, d.K w a cs ∧ G a

theorem Opens.int {P : Program} {t : TypeId} {k : IntKind} (ht : P.underlying t = some (.int k)) : Opens P t (Kd.int k) (fun n => (Lit.int k n).wf = true) := by
  intro H enc w base sp held fuel cs x h
  obtain ⟨n, rfl, rfl, hw⟩ := DataW.trod_int ht h
  exact ⟨n, rfl, hw⟩

theorem Opens.string {P : Program} {t : TypeId} (ht : P.underlying t = some .string) : Opens P t Kd.string (fun s => s.size ≤ maxLen) := by
  intro H enc w base sp held fuel cs x h
  obtain ⟨s, rfl, rfl, hw⟩ := DataW.trod_string ht h
  exact ⟨s, rfl, hw⟩

theorem Opens.bool {P : Program} {t : TypeId} (ht : P.underlying t = some .bool) : Opens P t Kd.bool (fun _ => True) := by
  intro H enc w base sp held fuel cs x h
  obtain ⟨s, rfl, rfl⟩ := DataW.trod_bool ht h
  exact ⟨s, rfl, trivial⟩

theorem Opens.slice {α : Type} {P : Program} {t e : TypeId} {d : Kd α} {G : α → Prop} (ht : P.underlying t = some (.slice e)) (hc : P.cellsOf e = d.sz) (hd : Opens P e d G) :
    Opens P t (Kd.slice e d) (fun xs => xs.length ≤ maxLen ∧ ∀ x ∈ xs, G x) := by
  intro H enc w base sp held fuel cs x h
  rcases open_slice ht h with ⟨rfl, _⟩ | ⟨a, len, cap, m, n, D, Pl, rfl, hb, hl, hm, hmm, _, hx⟩
  · exact ⟨[], ⟨none, 0, rfl, Nat.le_refl _, Kd.C_nil d w⟩, by simp, by simp⟩
  · have each : ∀ i, i < len → ∃ q : α, ∃ cs', w.cells? base (a.add (i * d.sz)) d.sz = some cs' ∧ d.K w q cs' ∧ G q := by
      intro i hi
      obtain ⟨cs', h1, h2⟩ := hx i (by rw [hmm]; split <;> omega)
      obtain ⟨q, hq, g⟩ := hd H enc w base sp held n cs' _ h2
      exact ⟨q, cs', by rw [← hc]; exact h1, hq, g⟩
    have ex : ∃ xs : List α, xs.length = len ∧ ∀ i q, xs[i]? = some q → ∃ cs', w.cells? base (a.add (i * d.sz)) d.sz = some cs' ∧ d.K w q cs' ∧ G q := by
      clear hx hmm
      have hl' : ∀ j, j ≤ len → ∃ xs : List α, xs.length = j ∧ ∀ i q, xs[i]? = some q → ∃ cs', w.cells? base (a.add (i * d.sz)) d.sz = some cs' ∧ d.K w q cs' ∧ G q := by
        intro j
        induction j with
        | zero => exact fun _ => ⟨[], rfl, fun i q hq => by simp at hq⟩
        | succ j ih =>
          intro hj
          obtain ⟨xs, hxl, hxs⟩ := ih (by omega)
          obtain ⟨q, cs', h1, h2, h3⟩ := each j (by omega)
          refine ⟨xs ++ [q], by simp [hxl], fun i r hr => ?_⟩
          by_cases hi : i < xs.length
          · rw [List.getElem?_append_left hi] at hr
            exact hxs i r hr
          · rw [List.getElem?_append_right (by omega)] at hr
            by_cases h0 : i - xs.length = 0
            · rw [h0] at hr
              simp at hr
              subst hr
              have : i = j := by omega
              subst this
              exact ⟨cs', h1, h2, h3⟩
            · rw [List.getElem?_eq_none (by simp; omega)] at hr
              simp at hr
      exact hl' len (Nat.le_refl _)
    obtain ⟨xs, hxl, hxs⟩ := ex
    refine ⟨xs, ⟨some a, cap, by rw [hxl], by omega, rfl, ?_, fun _ => ⟨a, rfl, fun j p hp => ?_⟩⟩, by omega, fun q hq => ?_⟩
    · have : maxLen = 9223372036854775807 := rfl
      omega
    · obtain ⟨cs', h1, h2, _⟩ := hxs j p hp
      obtain ⟨_, hlen, hcell⟩ := World.cells?_some h1
      refine ⟨cs', hlen, h2, fun i u hu => ?_⟩
      have hi : i < d.sz := by rw [← hlen]; exact (List.getElem?_eq_some_iff.1 hu).1
      have := hcell i hi
      rw [hu, Deep.add_add] at this
      exact this
    · obtain ⟨i, hi⟩ := List.getElem?_of_mem hq
      exact (hxs i q hi).elim fun _ h => h.2.2

/-- The fields from offset o on, each behind the one before. -/
def OpensF {α : Type} (P : Program) (fs : List (TypeId × Nat)) (o : Nat) (d : Kd α) (G : α → Prop) : Prop :=
  ∀ (H : Type) (enc : TypeId × Value → H) (w : World) (base : Nat) (sp : Nat → Bool) (held : Bool) (fuel : Nat) (cs : List Value),
    cs.length = o + d.sz →
    (∀ f ∈ fs, ∃ x, DataW.trod enc P w base sp held fuel f.1 ((cs.drop f.2).take (P.cellsOf f.1)) = some x) → ∃ a : α, d.K w a (cs.drop o) ∧ G a

theorem OpensF.one {α : Type} {P : Program} {t : TypeId} {o : Nat} {d : Kd α} {G : α → Prop} (hc : P.cellsOf t = d.sz) (h : Opens P t d G) : OpensF P [(t, o)] o d G := by
  intro H enc w base sp held fuel cs hl hf
  obtain ⟨x, hx⟩ := hf _ (List.mem_singleton.2 rfl)
  have e : ((cs.drop o).take (P.cellsOf t)) = cs.drop o := by rw [List.take_of_length_le]; simp; omega
  simp only [e] at hx
  exact h H enc w base sp held fuel _ x hx

theorem OpensF.cons {α β : Type} {P : Program} {t : TypeId} {o : Nat} {fs : List (TypeId × Nat)} {d : Kd α} {d' : Kd β} {G : α → Prop} {G' : β → Prop} (hc : P.cellsOf t = d.sz) (h : Opens P t d G)
    (hr : OpensF P fs (o + d.sz) d' G') : OpensF P ((t, o) :: fs) o (Kd.pair d d') (fun x => G x.1 ∧ G' x.2) := by
  intro H enc w base sp held fuel cs hl hf
  obtain ⟨x, hx⟩ := hf _ List.mem_cons_self
  obtain ⟨a, ha, ga⟩ := h H enc w base sp held fuel _ x hx
  have hl' : cs.length = o + (d.sz + d'.sz) := hl
  obtain ⟨b, hb, gb⟩ := hr H enc w base sp held fuel cs (by omega) (fun f hf' => hf f (List.mem_cons_of_mem _ hf'))
  refine ⟨(a, b), ⟨_, _, ?_, ha, hb⟩, ga, gb⟩
  simp only [hc]
  rw [← List.drop_drop]
  exact (List.take_append_drop _ _).symm

theorem Opens.struct {α β : Type} {P : Program} {t : TypeId} {fs : Array Field} {d : Kd α} {G : α → Prop} {f : β → α} {g : α → β} (ht : P.underlying t = some (.struct fs)) (hs : P.cellsOf t = d.sz)
    (hfg : ∀ a, f (g a) = a) (h : OpensF P (fs.toList.map fun f => (f.type, f.offset)) 0 d G) : Opens P t (Kd.iso d f) (fun b => G (f b)) := by
  intro H enc w base sp held fuel cs x hx
  obtain ⟨xs, n, rfl, _, hl, hxl, hf⟩ := DataW.trod_struct ht hx
  obtain ⟨a, ha, ga⟩ := h H enc w base sp held n cs (by omega) (fun q hq => by
    obtain ⟨fl, hfl, rfl⟩ := List.mem_map.1 hq
    obtain ⟨i, hi⟩ := List.getElem?_of_mem hfl
    rw [Array.getElem?_toList] at hi
    have hlt : i < xs.length := by rw [hxl]; exact (Array.getElem?_eq_some_iff.1 hi).1
    exact ⟨xs[i], by rw [hf i fl hi]; exact List.getElem?_eq_getElem hlt⟩)
  refine ⟨g a, ?_, ?_⟩
  · show d.K w (f (g a)) cs
    rw [hfg]; simpa using ha
  · show G (f (g a))
    rw [hfg]; exact ga

/-- The same, fields as a tuple. -/
theorem Opens.tuple {α : Type} {P : Program} {t : TypeId} {fs : Array Field} {d : Kd α} {G : α → Prop} (ht : P.underlying t = some (.struct fs)) (hs : P.cellsOf t = d.sz)
    (h : OpensF P (fs.toList.map fun f => (f.type, f.offset)) 0 d G) : Opens P t d G := by
  intro H enc w base sp held fuel cs x hx
  obtain ⟨a, h1, h2⟩ := Opens.struct (f := fun a : α => a) (g := fun a : α => a) ht hs (fun _ => rfl) h H enc w base sp held fuel cs x hx
  exact ⟨a, h1, h2⟩

theorem Opens.imp {α : Type} {P : Program} {t : TypeId} {d : Kd α} {G G' : α → Prop} (h : Opens P t d G) (hG : ∀ a, G a → G' a) : Opens P t d G' := by
  intro H enc w base sp held fuel cs x hx
  obtain ⟨a, h1, h2⟩ := h H enc w base sp held fuel cs x hx
  exact ⟨a, h1, hG a h2⟩

theorem Opens.read {α : Type} {P : Program} {t : TypeId} {d : Kd α} {G : α → Prop} (h : Opens P t d G) {H : Type} {enc : TypeId × Value → H} {w : World} {base : Nat} {sp : Nat → Bool} {held : Bool} {v : Value} {y : DataW H} {ps : List MemPlace}
    (hx : DataW.Trod enc P w base sp held t v y ps) : ∃ a : α, d.K w a v.cells.toList ∧ G a := by
  obtain ⟨fuel, hf⟩ := hx
  exact h H enc w base sp held fuel _ _ hf

end Go.Proofs.YthbngidbfhcdaaaGreat.Open
/- Arguments opened: acts, configurations, queries. -/
namespace Go.Proofs.YthbngidbfhcdaaaGreat.C
open Go.ChangeShapes Go.WideShapes Go.ChangeAt Go.RowKit Go.Proofs.YthbngidbfhcdaaaGreat.Open Go.Proofs.YthbngidbfhcdaaaGreatW.PrintWords Go.Proofs.YthbngidbfhcdaaaGreat.PCoordScript
theorem ownK : ownKnob Tryz.prog.godebug = none := by kernel_rfl
theorem laidOut : laidOutB Tryz.prog = true := by kernel_rfl
theorem ci : Tryz.prog.cellsOf 3 = (Kd.int .i64).sz := by kernel_rfl
theorem cb : Tryz.prog.cellsOf 4 = Kd.bool.sz := by kernel_rfl
theorem cs : Tryz.prog.cellsOf 9 = Kd.string.sz := by kernel_rfl
theorem oi : Opens Tryz.prog 3 (Kd.int .i64) (fun n => (Lit.int .i64 n).wf = true) := Opens.int Tryz.underlying3
theorem os_ : Opens Tryz.prog 9 Kd.string (fun s => s.size ≤ maxLen) := Opens.string Tryz.underlying9
theorem ob : Opens Tryz.prog 4 Kd.bool (fun _ => True) := Opens.bool Tryz.underlying4
theorem opens46 : Opens Tryz.prog 46 k46 (fun x => (Lit.int .i64 x.f0).wf = true ∧ x.f1.size ≤ maxLen) :=
  (Opens.struct (f := fun x : S46 => (x.f0, x.f1)) (g := fun a => ⟨a.1, a.2⟩) Tryz.underlying46 (by kernel_rfl) (fun _ => rfl)
    (OpensF.cons ci oi (OpensF.one cs os_))).imp (fun _ h => h)
theorem opens107 : Opens Tryz.prog 107 k107 (fun x => (Lit.int .i64 x.f0).wf = true ∧ x.f1.size ≤ maxLen) :=
  (Opens.struct (f := fun x : S107 => (x.f0, x.f1)) (g := fun a => ⟨a.1, a.2⟩) Tryz.underlying107 (by kernel_rfl) (fun _ => rfl)
    (OpensF.cons ci oi (OpensF.one cs os_))).imp (fun _ h => h)
theorem opens40 : Opens Tryz.prog 40 k40 (fun x => x.f0.size ≤ maxLen ∧ (Lit.int .i64 x.f1).wf = true ∧ (Lit.int .i64 x.f2).wf = true) :=
  (Opens.struct (f := fun x : S40 => (x.f0, x.f1, x.f2)) (g := fun a => ⟨a.1, a.2.1, a.2.2⟩) Tryz.underlying40 (by kernel_rfl) (fun _ => rfl)
    (OpensF.cons cs os_ (OpensF.cons ci oi (OpensF.one ci oi)))).imp (fun _ h => h)
def w65 (x : S65) : Prop := (Lit.int .i64 x.f0).wf = true ∧ (Lit.int .i64 x.f1).wf = true ∧ (Lit.int .i64 x.f2).wf = true ∧ (Lit.int .i64 x.f3).wf = true ∧ (Lit.int .i64 x.f4).wf = true ∧ (Lit.int .i64 x.f5).wf = true ∧ ∀ i ∈ x.f6, (Lit.int .i64 i.f0).wf = true ∧ i.f1.size ≤ maxLen
theorem opens65 : Opens Tryz.prog 65 k65 w65 :=
  (Opens.struct (f := fun x : S65 => (x.f0, x.f1, x.f2, x.f3, x.f4, x.f5, x.f6, x.f7)) (g := fun a => ⟨a.1, a.2.1, a.2.2.1, a.2.2.2.1, a.2.2.2.2.1, a.2.2.2.2.2.1, a.2.2.2.2.2.2.1, a.2.2.2.2.2.2.2⟩) Tryz.underlying65 (by kernel_rfl) (fun _ => rfl)
    (OpensF.cons ci oi (OpensF.cons ci oi (OpensF.cons ci oi (OpensF.cons ci oi (OpensF.cons ci oi (OpensF.cons ci oi (OpensF.cons (by kernel_rfl) (Opens.slice Tryz.underlying56 (by kernel_rfl) opens46) (OpensF.one cb ob))))))))).imp (fun _ h => ⟨h.1, h.2.1, h.2.2.1, h.2.2.2.1, h.2.2.2.2.1, h.2.2.2.2.2.1, h.2.2.2.2.2.2.1.2⟩)
def w67 (x : S67) : Prop := ((Lit.int .i64 x.f0).wf = true ∧ (Lit.int .i64 x.f1).wf = true ∧ (Lit.int .i64 x.f2).wf = true ∧ (Lit.int .i64 x.f3).wf = true) ∧ (x.f4.f0.size ≤ maxLen ∧ (Lit.int .i64 x.f4.f1).wf = true ∧ (Lit.int .i64 x.f4.f2).wf = true) ∧ w65 x.f5
theorem opens67 : Opens Tryz.prog 67 k67 w67 :=
  (Opens.struct (f := fun x : S67 => (x.f0, x.f1, x.f2, x.f3, x.f4, x.f5)) (g := fun a => ⟨a.1, a.2.1, a.2.2.1, a.2.2.2.1, a.2.2.2.2.1, a.2.2.2.2.2⟩) Tryz.underlying67 (by kernel_rfl) (fun _ => rfl)
    (OpensF.cons ci oi (OpensF.cons ci oi (OpensF.cons ci oi (OpensF.cons ci oi (OpensF.cons (by kernel_rfl) opens40 (OpensF.one (by kernel_rfl) opens65))))))).imp (fun _ h => ⟨⟨h.1, h.2.1, h.2.2.1, h.2.2.2.1⟩, h.2.2.2.2.1, h.2.2.2.2.2⟩)
set_option maxRecDepth 100000 in
theorem openAct {W : World} {v : Value} {x : S67} (hv : Value.okWide Tryz.prog W .any 0 67 v) (h : k67.K W x v.cells.toList) : ∃ A c, v = .agg (actV x A c) ∧ x.f5.f6.length ≤ c ∧ Kd.C k46 W A x.f5.f6.length x.f5.f6 := by
  unfold Value.okWide at hv
  rw [Tryz.underlying67] at hv
  obtain ⟨cs, rfl, _, _⟩ := hv
  obtain ⟨A, c, he, hl, hc⟩ := k67_open h
  refine ⟨A, c, ?_, hl, hc⟩
  have : cs.toList = (actV x A c).toList := he
  rw [Array.toList_inj.1 this]
end Go.Proofs.YthbngidbfhcdaaaGreat.C
/- Arguments opened: configurations, queries, numbers. -/
namespace Go.Proofs.YthbngidbfhcdaaaGreat.C
open Go.ChangeShapes Go.WideShapes Go.ChangeAt Go.RowKit Go.Proofs.YthbngidbfhcdaaaGreat.Open Go.Proofs.YthbngidbfhcdaaaGreatW.PrintWords Go.Proofs.YthbngidbfhcdaaaGreat.PCoordScript
abbrev kc : Kd (List ByteArray × List S107 × Int × Int × Int × Int × Int × Int × Int × Int × Int × Int) :=
  Kd.pair (Kd.slice 9 Kd.string) (Kd.pair (Kd.slice 107 k107) (Kd.pair (Kd.int .i64) (Kd.pair (Kd.int .i64) (Kd.pair (Kd.int .i64) (Kd.pair (Kd.int .i64) (Kd.pair (Kd.int .i64) (Kd.pair (Kd.int .i64) (Kd.pair (Kd.int .i64) (Kd.pair (Kd.int .i64) (Kd.pair (Kd.int .i64) (Kd.int .i64)))))))))))
theorem opens25 : Opens Tryz.prog 25 kc (fun c => (∀ x ∈ c.1, x.size ≤ maxLen) ∧ ∀ x ∈ c.2.1, x.f1.size ≤ maxLen) := by
  refine (Opens.tuple Tryz.underlying25 (by kernel_rfl) (OpensF.cons (by kernel_rfl) (Opens.slice Tryz.underlying22 cs os_)
    (OpensF.cons (by kernel_rfl) (Opens.slice Tryz.underlying23 (by kernel_rfl) opens107) (OpensF.cons ci oi (OpensF.cons ci oi (OpensF.cons ci oi (OpensF.cons ci oi (OpensF.cons ci oi (OpensF.cons ci oi (OpensF.cons ci oi (OpensF.cons ci oi (OpensF.cons ci oi (OpensF.one ci oi))))))))))))).imp (fun _ h => ⟨h.1.2, fun x hx => (h.2.1.2 x hx).2⟩)
set_option maxRecDepth 100000 in
theorem openCfg {W : World} {v : Value} {c : List ByteArray × List S107 × Int × Int × Int × Int × Int × Int × Int × Int × Int × Int} (hv : Value.okWide Tryz.prog W .any 0 25 v) (h : kc.K W c v.cells.toList) (hg : (∀ x ∈ c.1, x.size ≤ maxLen) ∧ ∀ x ∈ c.2.1, x.f1.size ≤ maxLen) : ∃ d : Cfg, v = d.val ∧ d.At W := by
  unfold Value.okWide at hv
  rw [Tryz.underlying25] at hv
  obtain ⟨cs, rfl, _, _⟩ := hv
  obtain ⟨_, _, he, ⟨A0, c0, rfl, hl0, hc0⟩, _, _, rfl, ⟨A1, c1, rfl, hl1, hc1⟩, _, _, rfl, rfl, _, _, rfl, rfl, _, _, rfl, rfl, _, _, rfl, rfl, _, _, rfl, rfl, _, _, rfl, rfl, _, _, rfl, rfl, _, _, rfl, rfl, _, _, rfl, rfl, rfl⟩ := h
  refine ⟨⟨A0, c0, A1, c1, c.1, c.2.1, c.2.2.1, c.2.2.2.1, c.2.2.2.2.1, c.2.2.2.2.2.1, c.2.2.2.2.2.2.1, c.2.2.2.2.2.2.2.1, c.2.2.2.2.2.2.2.2.1, c.2.2.2.2.2.2.2.2.2.1, c.2.2.2.2.2.2.2.2.2.2.1, c.2.2.2.2.2.2.2.2.2.2.2⟩, ?_, ⟨hc0, hl0, hc1, hl1, hg.1, hg.2⟩⟩
  exact congrArg Value.agg (Array.toList_inj.1 (he.trans rfl))
set_option maxRecDepth 100000 in
theorem openQry {W : World} {v : Value} {q : S40} (hv : Value.okWide Tryz.prog W .any 0 40 v) (h : k40.K W q v.cells.toList) : v = qval q := by
  unfold Value.okWide at hv
  rw [Tryz.underlying40] at hv
  obtain ⟨cs, rfl, _, _⟩ := hv
  have : cs.toList = (#[.string q.f0, .int .i64 q.f1, .int .i64 q.f2] : Array Value).toList := k40_open h
  rw [Array.toList_inj.1 this]
theorem opens26 : Opens Tryz.prog 26 (Kd.slice 3 (Kd.int .i64)) (fun _ => True) := (Opens.slice Tryz.underlying26 ci oi).imp fun _ _ => trivial
set_option maxRecDepth 100000 in
theorem openInts {W : World} {v : Value} {l : List Int} (hv : Value.okWide Tryz.prog W .any 0 26 v) (h : (Kd.slice 3 (Kd.int .i64)).K W l v.cells.toList) : ∃ A c, v = .slice A l.length c ∧ l.length ≤ c ∧ Kd.C (Kd.int .i64) W A l.length l := by
  obtain ⟨A, len, c, rfl⟩ := okWide_slice Tryz.underlying26 hv
  obtain ⟨A', c', he, h1, h2⟩ := h
  simp [Value.cells] at he
  obtain ⟨rfl, rfl, rfl⟩ := he
  exact ⟨A, c, rfl, h1, h2⟩
end Go.Proofs.YthbngidbfhcdaaaGreat.C
/- A wake in which each wanted shard asks: what it sends, and what stands behind it (plain). -/
namespace Go.Proofs.YthbngidbfhcdaaaGreat.C
open Go.RowKit Go.Maps Go.Proofs.YthbngidbfhcdaaaGreat.Mem Go.Proofs.YthbngidbfhcdaaaGreatW.PrintWords Go.Proofs.YthbngidbfhcdaaaGreat.PCoordScript
set_option linter.unusedVariables false
/-- What stands behind shards that all ask. -/
structure AllSt (c : Cfg) (s : Nat) (draw : Int) (l : List Int) (S : Co) (y : Qy) (S' : Co) : Prop where
  L : S'.L = S.L
  now : S'.now = S.now
  last : S'.last = S.last
  told : S'.told = S.told
  Q : ∀ i, i ≠ s → S'.Q i = S.Q i
  q : ∃ t', S'.Q s = some { y with t := t' } ∧ ∀ k : Nat, t' k = if (k : Int) ∈ l then wantT c S s y k else y.t k
  T : ∀ k : Nat, (k : Int) ∈ l → S'.T (tidOf s k) = some (min (S.now + wt c.fi c.ca c.ji (tr (wantT c S s y k).tries) draw) 1099511627776)
  T' : ∀ k : Nat, (k : Int) ∉ l → S'.T (tidOf s k) = S.T (tidOf s k)
def askK (c : Cfg) (S : Co) (s : Nat) (y : Qy) (k : Int) : List LetD := askOf c S s y k.toNat (wantT c S s y k.toNat).turn
theorem flatMap_same {α β : Type} {f g : α → List β} : ∀ {l : List α}, (∀ k ∈ l, f k = g k) → l.flatMap f = l.flatMap g
  | [], _ => rfl
  | a :: l, h => by
    rw [List.flatMap_cons, List.flatMap_cons, h a (by simp), flatMap_same fun k hk => h k (List.mem_cons_of_mem _ hk)]
theorem tid_inj {s a b : Nat} (h : tidOf s a = tidOf s b) : a = b := by unfold tidOf at h; omega
theorem wantAll_ask (c : Cfg) (s : Nat) (draw : Int) : ∀ (l : List Int) (st : Co × List LetD) (y : Qy), st.1.Q s = some y → l.Nodup → (∀ k ∈ l, 0 ≤ k ∧ dueB st.1 s k.toNat = true) →
    (wantAll c s draw l st).2 = st.2 ++ l.flatMap (askK c st.1 s y) ∧ AllSt c s draw l st.1 y (wantAll c s draw l st).1
  | [], st, y, hy, _, _ => ⟨by simp [wantAll], ⟨rfl, rfl, rfl, rfl, fun _ _ => rfl, ⟨y.t, hy, fun k => (by simp)⟩, fun k hk => (by cases hk), fun k _ => rfl⟩⟩
  | k0 :: l, st, y, hy, hnd, hl => by
    obtain ⟨hk0, hnd'⟩ := List.nodup_cons.1 hnd
    obtain ⟨h0, hd0⟩ := hl k0 (by simp)
    have e : wantAll c s draw (k0 :: l) st = wantAll c s draw l (wantStep c s draw st k0) := rfl
    rw [e]
    have hstep : wantStep c s draw st k0 = (st.1.wants c s y k0.toNat draw, st.2 ++ wantL c st.1 s y k0.toNat) := by
      unfold wantStep
      rw [hy]
    have hL : wantL c st.1 s y k0.toNat = askK c st.1 s y k0 := by
      unfold wantL askK
      rw [if_pos hd0]
    rw [hstep, hL]
    obtain ⟨hQ, hnow, hLL, htold, hlast⟩ := wants_Q c st.1 s y k0.toNat draw
    have hTT : (st.1.wants c s y k0.toNat draw).T = updT st.1.T (tidOf s k0.toNat) (some (min (st.1.now + wt c.fi c.ca c.ji (tr (wantT c st.1 s y k0.toNat).tries) draw) 1099511627776)) := by
      unfold Co.wants
      rw [if_pos hd0]
    generalize st.1.wants c s y k0.toNat draw = S1 at *
    have hy1 : S1.Q s = some { y with t := updN y.t k0.toNat (wantT c st.1 s y k0.toNat) } := by
      rw [hQ]
      unfold updQ
      rw [if_pos rfl]
    have hT1 : ∀ k : Nat, k ≠ k0.toNat → S1.T (tidOf s k) = st.1.T (tidOf s k) := fun k hk => by
      rw [hTT]
      unfold updT
      rw [if_neg fun h => hk (tid_inj h)]
    have hne : ∀ k : Nat, (k : Int) ∈ l → k ≠ k0.toNat := fun k hk h => by
      apply hk0
      have : k0 = (k : Int) := by omega
      rw [this]
      exact hk
    have hne' : ∀ k ∈ l, k.toNat ≠ k0.toNat := fun k hk h => by
      have h1 := (hl k (List.mem_cons_of_mem _ hk)).1
      apply hk0
      have : k0 = k := by omega
      rw [this]
      exact hk
    have hw : ∀ k : Nat, k ≠ k0.toNat → wantT c S1 s { y with t := updN y.t k0.toNat (wantT c st.1 s y k0.toNat) } k = wantT c st.1 s y k := fun k hk => by
      unfold wantT hedgeB updN
      rw [hT1 k hk, hLL, hnow]
      simp only [if_neg hk]
    have hd1 : ∀ k ∈ l, 0 ≤ k ∧ dueB S1 s k.toNat = true := fun k hk => by
      obtain ⟨a, b⟩ := hl k (List.mem_cons_of_mem _ hk)
      refine ⟨a, ?_⟩
      unfold dueB at b ⊢
      rw [hT1 _ (hne' k hk), hnow]
      exact b
    obtain ⟨i1, i2⟩ := wantAll_ask c s draw l (S1, st.2 ++ askK c st.1 s y k0) _ hy1 hnd' hd1
    have hask : ∀ k ∈ l, askK c S1 s { y with t := updN y.t k0.toNat (wantT c st.1 s y k0.toNat) } k = askK c st.1 s y k := fun k hk => by
      unfold askK askOf
      rw [hw _ (hne' k hk), hLL]
    refine ⟨?_, ?_⟩
    · rw [i1, List.flatMap_cons]
      rw [flatMap_same hask, List.append_assoc]
    · obtain ⟨j1, j2, j3, j4, j5, ⟨t', j6, j6'⟩, j7, j8⟩ := i2
      refine ⟨j1.trans hLL, j2.trans hnow, j3.trans hlast, j4.trans htold, fun i hi => ?_, ⟨t', j6, fun k => ?_⟩, fun k hk => ?_, fun k hk => ?_⟩
      · rw [j5 i hi, hQ]
        unfold updQ
        rw [if_neg hi]
      · rw [j6' k]
        by_cases h1 : (k : Int) ∈ l
        · rw [if_pos h1, if_pos (List.mem_cons_of_mem _ h1)]
          exact hw k (hne k h1)
        · rw [if_neg h1]
          by_cases h2 : k = k0.toNat
          · rw [if_pos (by rw [List.mem_cons]; left; omega)]
            show updN y.t k0.toNat _ k = _
            unfold updN
            rw [if_pos h2, h2]
          · rw [if_neg (by rw [List.mem_cons]; rintro (h | h); exact h2 (by omega); exact h1 h)]
            show updN y.t k0.toNat _ k = _
            unfold updN
            rw [if_neg h2]
      · rcases List.mem_cons.1 hk with h1 | h1
        · have h2 : k = k0.toNat := by omega
          have h3 : (k : Int) ∉ l := by rw [h1]; exact hk0
          rw [j8 k h3]
          show S1.T _ = _
          rw [hTT, h2]
          unfold updT
          rw [if_pos rfl]
        · rw [j7 k h1]
          show some (min (S1.now + _) _) = _
          rw [hw k (hne k h1), hnow]
      · have h1 : (k : Int) ∉ l := fun h => hk (List.mem_cons_of_mem _ h)
        have h2 : k ≠ k0.toNat := fun h => hk (by rw [List.mem_cons]; left; omega)
        rw [j8 k h1]
        exact hT1 k h2
/-- Slots behind the first one are nobody's: a wake is the first slot's. -/
theorem wakeN_first (c : Cfg) (draw : Int) (S : Co) (hQ : ∀ s, s ≠ 0 → S.Q s = none) : ∀ n : Nat, wakeN c draw (n + 1) S = wakeStep c draw (S, []) 0
  | 0 => rfl
  | n + 1 => by
    rw [wakeN_succ, wakeN_first c draw S hQ n]
    have : (wakeStep c draw (S, []) 0).1.Q (n + 1) = none := by
      unfold wakeStep
      cases hy : S.Q 0 with
      | none => exact hQ _ (by omega)
      | some y =>
        show (wantAll c 0 draw y.m.wants (S, [])).1.Q (n + 1) = none
        have key : ∀ (l : List Int) (st : Co × List LetD), st.1.Q (n + 1) = none → (wantAll c 0 draw l st).1.Q (n + 1) = none := by
          intro l
          induction l with
          | nil => exact fun st h => h
          | cons k l ih =>
            intro st h
            refine ih _ ?_
            unfold wantStep
            cases hz : st.1.Q 0 with
            | none => exact h
            | some z =>
              show (st.1.wants c 0 z k.toNat draw).Q (n + 1) = none
              rw [(wants_Q c st.1 0 z k.toNat draw).1]
              unfold updQ
              rw [if_neg (by omega)]
              exact h
        exact key _ _ (hQ _ (by omega))
    unfold wakeStep at this ⊢
    rw [this]
end Go.Proofs.YthbngidbfhcdaaaGreat.C
/- A query that was taken first: which shards are wanted, whom a wake asks (plain). -/
namespace Go.Proofs.YthbngidbfhcdaaaGreat.C
open Go.RowKit Go.Maps Go.Proofs.YthbngidbfhcdaaaGreat.Mem Go.Proofs.YthbngidbfhcdaaaGreatW.PrintWords Go.Proofs.YthbngidbfhcdaaaGreat.PCoordScript
set_option linter.unusedVariables false
theorem openFrom_none {l : List S172} : ∀ {b : Nat} {k : Int}, 0 ≤ k → openFrom l b k < 0 → (l.length : Int) ≤ k + b → ∀ j : Int, k ≤ j → j < l.length → openB (rd_T172 l j) = false
  | 0, k, h0, h, hb, j, hj, hl => by omega
  | b + 1, k, h0, h, hb, j, hj, hl => by
    unfold openFrom at h
    rw [if_pos (by omega)] at h
    split at h
    · omega
    · rename_i hn
      by_cases e : j = k
      · rw [e]
        simpa using hn
      · exact openFrom_none (b := b) (k := k + 1) (by omega) h (by omega) j (by omega) hl
theorem openFrom_some {l : List S172} : ∀ {b : Nat} {k : Int}, 0 ≤ k → 0 ≤ openFrom l b k → ∃ j : Int, k ≤ j ∧ j < l.length ∧ openB (rd_T172 l j) = true
  | 0, k, h0, h => by unfold openFrom at h; omega
  | b + 1, k, h0, h => by
    unfold openFrom at h
    split at h
    · rename_i hk
      split at h
      · rename_i hn
        exact ⟨k, Int.le_refl _, hk, hn⟩
      · obtain ⟨j, a, b', c⟩ := openFrom_some (b := b) (k := k + 1) (by omega) h
        exact ⟨j, by omega, b', c⟩
    · omega
def wantB (c : Cfg) (q : S40) (i : Nat) : Bool := decide (0 ≤ wantD c.cuts i q)
/-- The shards that are wanted of a query that is new. -/
def wlN (c : Cfg) (q : S40) : List Nat := (List.range (c.cuts.length + 1)).filter (wantB c q)
def wl (c : Cfg) (q : S40) : List Int := (wlN c q).map fun i : Nat => (i : Int)
theorem newMg_rd (c : Cfg) (q : S40) {i : Nat} (hi : i < c.cuts.length + 1) : rd_T172 (newMg c q).sh i = newSh (wantD c.cuts i q) := by
  unfold rd_T172 newMg leasts
  simp [List.getD_eq_getElem?_getD, List.getElem?_map, List.getElem?_range hi]
theorem newSh_open (d : Int) : openB (newSh d) = decide (0 ≤ d) ∧ wantedB (newSh d) = decide (0 ≤ d) := by
  have h : (!decide (d < 0)) = decide (0 ≤ d) := by
    rcases Int.lt_or_le d 0 with h | h
    · rw [decide_eq_true h, decide_eq_false (by omega)]; rfl
    · rw [decide_eq_false (by omega), decide_eq_true (by omega)]; rfl
  unfold openB wantedB newSh
  rw [h]
  exact ⟨by simp, by simp⟩
theorem newMg_wantsN (c : Cfg) (q : S40) : wantsN (newMg c q).sh (newMg c q).sh.length = wl c q := by
  unfold wantsN wl wlN
  rw [newMg_len]
  congr 1
  refine List.filter_congr fun i hi => ?_
  rw [newMg_rd c q (List.mem_range.1 hi), (newSh_open _).2]
  rfl
theorem newMg_done (c : Cfg) (q : S40) (hn : 1 ≤ q.f2) : ((newMg c q).done = true ↔ wlN c q = []) := by
  have h1 : (((newMg c q).told.length : Int) == (newMg c q).n) = false := by
    show (((0 : Nat) : Int) == q.f2) = false
    simp
    omega
  unfold Mg.done doneB
  rw [h1, Bool.false_or]
  constructor
  · intro h
    have h2 : openT (newMg c q).sh < 0 := by simpa using h
    unfold wlN
    rw [List.filter_eq_nil_iff]
    intro i hi hw
    have hi' := List.mem_range.1 hi
    have h3 := openFrom_none (Int.le_refl 0) h2 (by omega) (i : Int) (by omega) (by rw [newMg_len]; omega)
    rw [newMg_rd c q hi', (newSh_open _).1] at h3
    unfold wantB at hw
    rw [hw] at h3
    cases h3
  · intro h
    rcases Int.lt_or_le (openT (newMg c q).sh) 0 with h2 | h2
    · simpa using h2
    · exfalso
      obtain ⟨j, a, b, d⟩ := openFrom_some (Int.le_refl 0) h2
      rw [newMg_len] at b
      have hj : j = ((j.toNat : Nat) : Int) := by omega
      rw [hj, newMg_rd c q (by omega), (newSh_open _).1] at d
      have : j.toNat ∈ wlN c q := by
        unfold wlN
        rw [List.mem_filter]
        exact ⟨List.mem_range.2 (by omega), d⟩
      rw [h] at this
      cases this
theorem newMg_wants (c : Cfg) (q : S40) (hn : 1 ≤ q.f2) : (newMg c q).wants = wl c q := by
  unfold Mg.wants
  split
  · rename_i h
    unfold wl
    rw [(newMg_done c q hn).1 h]
    rfl
  · exact newMg_wantsN c q
theorem newMg_tell (c : Cfg) (q : S40) : (newMg c q).tell = ([], newMg c q) := by
  have : (newMg c q).left = 0 := by
    unfold Mg.left newMg
    generalize leasts c q (c.cuts.length + 1) = l
    induction l with
    | nil => rfl
    | cons d l ih =>
      show (newSh d).f5.length + ((l.map newSh).map fun x => x.f5.length).sum = 0
      have h1 : (newSh d).f5.length = 0 := rfl
      rw [h1]
      have h2 : ((l.map newSh).map fun x => x.f5.length).sum = 0 := ih
      rw [h2]
  unfold Mg.tell
  rw [this]
  rfl
theorem wl_nodup (c : Cfg) (q : S40) : (wl c q).Nodup := by
  unfold wl wlN
  refine List.Pairwise.map _ (fun a b h e => h (Int.ofNat.inj e)) (List.Pairwise.filter _ List.nodup_range)
theorem wl_mem {c : Cfg} {q : S40} {k : Int} (h : k ∈ wl c q) : 0 ≤ k ∧ k < c.cuts.length + 1 ∧ 0 ≤ wantD c.cuts k q := by
  unfold wl wlN at h
  obtain ⟨i, hi, rfl⟩ := List.mem_map.1 h
  obtain ⟨h1, h2⟩ := List.mem_filter.1 hi
  have := List.mem_range.1 h1
  exact ⟨by omega, by omega, of_decide_eq_true h2⟩
/-- A coordinator that has just taken its first query. -/
def Co.first (c : Cfg) (S : Co) (q : S40) : Co := (S.add c 0 q).goes c 0 (newQy c S q)
theorem first_done (c : Cfg) (S : Co) (q : S40) (hn : 1 ≤ q.f2) (h : wlN c q = []) (hQ : ∀ s, S.Q s = none) : ∀ s, (Co.first c S q).Q s = none := by
  intro s
  have hd : (newQy c S q).m.tell.2.done = true := by
    show (newMg c q).tell.2.done = true
    rw [newMg_tell]
    exact (newMg_done c q hn).2 h
  unfold Co.first Co.goes
  rw [if_pos hd]
  show updQ (updQ (updQ S.Q 0 (some (newQy c S q))) 0 (some _)) 0 none s = none
  unfold updQ
  split
  · rfl
  · rename_i h1
    exact hQ s
structure FirstSt (c : Cfg) (S : Co) (q : S40) (S' : Co) : Prop where
  Q : S'.Q 0 = some (newQy c S q)
  Q' : ∀ s, s ≠ 0 → S'.Q s = none
  T : S'.T = S.T
  L : S'.L = S.L
  now : S'.now = S.now
theorem first_goes (c : Cfg) (S : Co) (q : S40) (hn : 1 ≤ q.f2) (h : wlN c q ≠ []) (hQ : ∀ s, S.Q s = none) : FirstSt c S q (Co.first c S q) := by
  have hd : ¬ (newQy c S q).m.tell.2.done = true := by
    show ¬ (newMg c q).tell.2.done = true
    rw [newMg_tell]
    exact fun h1 => h ((newMg_done c q hn).1 h1)
  unfold Co.first Co.goes
  rw [if_neg hd]
  refine ⟨?_, fun s hs => ?_, rfl, rfl, rfl⟩
  · show updQ (updQ S.Q 0 (some (newQy c S q))) 0 (some _) 0 = _
    unfold updQ
    rw [if_pos rfl]
    show some ({ newQy c S q with m := (newMg c q).tell.2 } : Qy) = _
    rw [newMg_tell]
    rfl
  · show updQ (updQ S.Q 0 (some (newQy c S q))) 0 (some _) s = _
    unfold updQ
    rw [if_neg hs, if_neg hs]
    exact hQ s
theorem flatMap_wl {α : Type} (p : Nat → Bool) (g : Int → List α) : ∀ l : List Nat, ((l.filter p).map fun i : Nat => (i : Int)).flatMap g = l.flatMap fun i => if p i = true then g (i : Int) else []
  | [] => rfl
  | a :: l => by
    rw [List.flatMap_cons, List.filter_cons, ← flatMap_wl p g l]
    by_cases h : p a = true
    · rw [if_pos h, if_pos h, List.map_cons, List.flatMap_cons]
    · rw [if_neg h, if_neg h, List.nil_append]
theorem wakeN_none (c : Cfg) (draw : Int) (S : Co) (hQ : ∀ s, S.Q s = none) : ∀ n : Nat, wakeN c draw n S = (S, [])
  | 0 => rfl
  | n + 1 => by
    rw [wakeN_succ, wakeN_none c draw S hQ n]
    unfold wakeStep
    show (match S.Q n with | none => _ | some y => _) = _
    rw [hQ n]
/-- Whose turn it is first, and who that is. -/
def turn0 (c : Cfg) (S : Co) (i : Nat) : Int := max (liveIx S.L S.now (c.copies i)) 0
def seg (c : Cfg) (S : Co) (q : S40) (i : Nat) : List LetD := if wantB c q i = true then askOf c S 0 (newQy c S q) i (turn0 c S i) else []
theorem first_lets (c : Cfg) (S : Co) (q : S40) (draw : Int) (hn : 1 ≤ q.f2) (hQ : ∀ s, S.Q s = none) (hT : ∀ id, S.T id = none) (hsl : 1 ≤ c.sl) : (wakeN c draw c.sl.toNat (Co.first c S q)).2 = (List.range (c.cuts.length + 1)).flatMap (seg c S q) := by
  by_cases hw : wlN c q = []
  · rw [wakeN_none c draw _ (first_done c S q hn hw hQ)]
    have h2 : (List.range (c.cuts.length + 1)).flatMap (seg c S q) = (List.range (c.cuts.length + 1)).flatMap fun i => if wantB c q i = true then (fun k : Int => askOf c S 0 (newQy c S q) k.toNat (turn0 c S k.toNat)) (i : Int) else [] := rfl
    rw [h2, ← flatMap_wl (wantB c q) fun k : Int => askOf c S 0 (newQy c S q) k.toNat (turn0 c S k.toNat)]
    have h3 : (List.range (c.cuts.length + 1)).filter (wantB c q) = [] := hw
    rw [h3]
    rfl
  · obtain ⟨f1, f2, f3, f4, f5⟩ := first_goes c S q hn hw hQ
    obtain ⟨n, hs⟩ : ∃ n, c.sl.toNat = n + 1 := ⟨c.sl.toNat - 1, by omega⟩
    rw [hs, wakeN_first c draw _ f2]
    generalize Co.first c S q = S2 at *
    have e0 : wakeStep c draw (S2, []) 0 = wantAll c 0 draw (newMg c q).wants (S2, []) := by
      unfold wakeStep
      show (match S2.Q 0 with | none => ((S2, []) : Co × List LetD) | some y => wantAll c 0 draw y.m.wants (S2, [])) = _
      rw [f1]
      rfl
    rw [e0, newMg_wants c q hn]
    obtain ⟨h1, _⟩ := wantAll_ask c 0 draw (wl c q) (S2, []) (newQy c S q) f1 (wl_nodup c q) fun k hk => ⟨(wl_mem hk).1, by unfold dueB; rw [f3, hT]⟩
    rw [h1, List.nil_append]
    unfold wl wlN
    rw [flatMap_wl]
    refine flatMap_same fun i _ => ?_
    show (if wantB c q i = true then askK c S2 0 (newQy c S q) (i : Int) else []) = _
    have e : askK c S2 0 (newQy c S q) (i : Int) = askOf c S 0 (newQy c S q) i (turn0 c S i) := by
      unfold askK wantT
      rw [f3, hT, f4, f5]
      unfold askOf
      rw [f4]
      rfl
    rw [e]
    rfl
end Go.Proofs.YthbngidbfhcdaaaGreat.C
/- What Low comes to; how long a try waits at most. -/
namespace Go.Proofs.YthbngidbfhcdaaaGreat.C
open Go.RowKit Go.Maps Go.Proofs.YthbngidbfhcdaaaGreat.Mem Go.Proofs.YthbngidbfhcdaaaGreatW.PrintWords Go.Proofs.YthbngidbfhcdaaaGreatW.PrintLast Go.Proofs.YthbngidbfhcdaaaGreatW.PrintMore Go.Proofs.YthbngidbfhcdaaaGreat.PCoordScript
attribute [local go_sem] max2_int min2_int max_two min_two
set_option linter.unusedVariables false
set_option linter.unusedSimpArgs false
def lowV (x n : Int) : Int := IntKind.u64.wrap x % n
theorem lowV_range (x : Int) {n : Int} (h : 1 ≤ n) : 0 ≤ lowV x n ∧ lowV x n < n :=
  ⟨Int.emod_nonneg _ (by omega), Int.emod_lt_of_pos _ (by omega)⟩
theorem low_calls (x n : Int) (w : World) (h : 1 ≤ n) (h1 : n ≤ 1000000) :
    Calls Tryz.prog 25 #[.int .i64 x, .int .i64 n] w fun e w' => e = .returned (.int .i64 (lowV x n)) ∧ w' = w := by
  have hr := lowV_range x h
  have h5 := u64_range x
  have e1 : IntKind.u64.wrap n = n := u64_id (by omega) (by omega)
  have e2 : Int.tmod (IntKind.u64.wrap x) n = lowV x n := by
    unfold lowV
    exact Int.tmod_eq_emod_of_nonneg h5.1
  have e3 : IntKind.i64.wrap (lowV x n) = lowV x n := IntWalk.i64_in _ (by omega)
  have hn0 : (n == 0) = false := by simp; omega
  go_enter Tryz.func25, Tryz.ntmps25
  go_wp2
  go_ret
  exact ⟨rfl, rfl⟩
theorem clip_calls (x : Int) (w : World) : Calls Tryz.prog 67 #[.int .i64 x] w fun e w' => e = .returned (.int .i64 (cl x)) ∧ w' = w := by
  go_enter Tryz.func67, Tryz.ntmps67
  go_wp2
  all_goals
    go_ret
    refine ⟨congrArg (fun n => Ending.returned (.int .i64 n)) ?_, rfl⟩
    unfold cl mn mx
    (repeat' split) <;> omega
theorem most_calls (c : Cfg) (w : World) : Calls Tryz.prog 19 #[c.val] w fun e w' => e = .returned (.int .i64 (cl c.ca + cl c.ji)) ∧ Below w.heap.size w w' := by
  have h1 := cl_range c.ca
  have h2 := cl_range c.ji
  have HB := Aside0.mk (blk_new w (.cells c.cells 25 (0, 0)))
  obtain ⟨x0, x1, x2, x3, x4, x5, x6, x7, x8, x9, x10, x11⟩ := Cfg.read HB.out
  clear x0 x1 x2 x3 x4 x5 x6 x7 x8 x11
  go_enter Tryz.func19, Tryz.ntmps19
  go_wp2
  go_quiet ((go_at_call 67; exact Calls.quiet_of_same (clip_calls _ _)))
  go_wp2
  go_ret
  exact ⟨rfl, pw_below_drewN (below_alloc (Below.refl _ _) _) _⟩
end Go.Proofs.YthbngidbfhcdaaaGreat.C
/- A row of items, cloned. -/
namespace Go.Proofs.YthbngidbfhcdaaaGreat.C
open Go.RowKit Go.Maps Go.Proofs.YthbngidbfhcdaaaGreat.Mem Go.Proofs.YthbngidbfhcdaaaGreatW.PrintWords Go.Proofs.YthbngidbfhcdaaaGreat.PCoordScript
set_option linter.unusedVariables false
set_option linter.unusedSimpArgs false
theorem clone_items (A : Option Addr) (c : Nat) (l : List S46) (w : World) (hc : Kd.C k46 w A l.length l) (hn : l.length ≤ c) (h5 : l.length ≤ 100000) :
    Calls Tryz.prog 100 #[.slice A l.length c] w fun e w' => (∃ v, e = .returned v ∧ Kd.R k46 46 w' w.heap.size (fun _ => True) v l) ∧ Below w.heap.size w w' := by
  have HC := Aside0.mk hc
  clear hc
  have heq := fun (W : World) a n c => Go.Lib.run_eql_slice_nil (P := Tryz.prog) W 56 46 a n c 0 0 Tryz.underlying56
  cases A with
  | none =>
    have e0 : l = [] := by
      rcases Nat.eq_zero_or_pos l.length with h | h
      · exact List.eq_nil_of_length_eq_zero h
      · obtain ⟨ad, h, _⟩ := HC.out.2.2 h
        cases h
    subst e0
    go_enter Tryz.func100, Tryz.ntmps100
    go_wp2
    go_ret
    exact ⟨⟨_, rfl, Kd.R_nil _ _ _ _ _⟩, Below.refl _ _⟩
  | some ad =>
    obtain ⟨cs, hr, hcs⟩ := Rd.flat_of_C HC.out
    have HR := Aside0.mk hr
    have HS := Aside0.mk hcs
    clear hr hcs
    go_enter Tryz.func100, Tryz.ntmps100
    go_wp2_with (at_builtin; refine Rd.wpList_append_flat rfl (.tmp 5) (.tmp 6) 56 rfl w.heap.size 46 (.agg #[(.int .i64 0), (.string ⟨#[]⟩)]) 2 24 Tryz.underlying56 info46 rfl (by decide) _ 0 [] rfl ?own (some ad) l.length c cs rfl HR.out.1 ?flat (Rd.flat_one HR.out) (by unfold maxLen; omega) (by omega) ?base ?_; (case own => exact ⟨rfl, .inr ⟨w.heap.size, 0, #[], rfl, Nat.le_refl _, blk_new _ _, Nat.le_refl _, by decide, rfl, rfl⟩⟩); (case flat => exact Rd.cells_below HS.out (below_alloc (Below.refl _ _) _)); (case base => simp); intro v' w' ho hg _)
    have hb : Below w.heap.size w w' := Below.grown (below_alloc (Below.refl _ _) _) hg (by simp) (fun k hk => Nat.le_of_eq (Option.some.inj hk))
    have HO := Aside0.mk ho
    clear ho hg
    go_ret
    refine ⟨?_, hb⟩
    have ho := HO.out
    rw [Nat.zero_add, List.nil_append] at ho
    exact ⟨_, rfl, fun _ _ => trivial, cs, ho, HR.out.imp_ fun x cells hK => ⟨[.int .i64 x.f0], [.string x.f1], k46_inv hK, rfl, rfl⟩⟩
end Go.Proofs.YthbngidbfhcdaaaGreat.C
