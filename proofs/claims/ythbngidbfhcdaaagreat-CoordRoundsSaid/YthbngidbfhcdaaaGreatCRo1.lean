/- Texts of this proof, joined: part 1. -/
import Derived.Test.YthbngidbfhcdaaaGreatWWords
import Derived.Maps.AppendAt
import Derived.Maps.Own
import Derived.Maps.OwnOps
import Derived.Maps.OwnSet
import Derived.StillTailTactics
import Derived.Laws.RangeAny
import Derived.Deep.QuietTactic
import Derived.BigQuiet
import Derived.IntWalk
import Derived.WalkKit
import Derived.WalkLawsBesides
import Derived.WalkSpells
import Derived.Test.YthbngidbfhcdaaaGreatProg
import Derived.KernelRfl
import Derived.Shelf.Small.Strs
import Derived.Handy
import Derived.Test.YthbngidbfhcdaaaGreatPCoordScriptx0
import Derived.Deep.DeepCutAuto
import Derived.Deep.RegionLaw
import Derived.RegionTactic
import Derived.ChangeAlike
import Derived.BigRegion
import Derived.Outline
set_option linter.unusedVariables false
set_option linter.unusedSimpArgs false
/- Rows that are read: out of a block that is known whole; laid flat; out of a row of one's own. -/
namespace Go.Proofs.YthbngidbfhcdaaaGreat.Rd
open Go.RowKit Go.Proofs.YthbngidbfhcdaaaGreatW.PrintWords

/-- The world of a call under a name of its own, with what is known of it. -/
theorem gen_call {P : Program} {f : FuncId} {args : Array Value} {W : World} {Q : Ending → World → Prop} (R : World → Prop) (h : R W) (k : ∀ W', R W' → Calls P f args W' Q) : Calls P f args W Q := k W h
theorem gen_wp {P : Program} {c : Code} {a : Act} {W : World} {Q : Exit → Act → World → Prop} (R : World → Prop) (h : R W) (k : ∀ W', R W' → Code.wp P c Q a W') : Code.wp P c Q a W := k W h
theorem gen_list {P : Program} {ops : Array Oper} {rest : List Oper} {a : Act} {W : World} {Q : Exit → Act → World → Prop} (R : World → Prop) (h : R W) (k : ∀ W', R W' → wpList P ops Q rest a W') : wpList P ops Q rest a W := k W h

theorem blk_at {w : World} {g : Nat} {o : Obj} (h : g = w.heap.size) : (w.alloc o).heap[g]? = some o := by
  subst h
  exact blk_new w o

/-- A block that is known whole is a row. -/
theorem C_of_blk {α : Type} {d : Kd α} {w : World} {b : Nat} {t : TypeId} {cs : Array Value} {xs : List α} (hb : w.heap[b]? = some (.cells cs t (0, 0))) (hn : xs.length ≤ 9223372036854775807)
    (h : Reps (d.K w) d.sz xs cs.toList) : Kd.C d w (some ⟨b, 0, none⟩) xs.length xs := by
  refine ⟨rfl, hn, fun _ => ⟨_, rfl, fun j p hp => ⟨(cs.toList.drop (j * d.sz)).take d.sz, d.K_len (h.2 j p hp), h.2 j p hp, fun i u hu => ?_⟩⟩⟩
  have hi : i < d.sz := by
    have := (List.getElem?_eq_some_iff.1 hu).1
    have e := d.K_len (h.2 j p hp)
    omega
  rw [List.getElem?_take_of_lt hi, List.getElem?_drop] at hu
  have e : (⟨b, 0, none⟩ : Addr).add (j * d.sz + i) = ⟨b, j * d.sz + i, none⟩ := by
    unfold Addr.add
    split <;> simp_all
  rw [e, blk_cell hb]
  rw [Array.getElem?_toList] at hu
  exact hu

theorem reps_nil {α : Type} (R : α → List Value → Prop) (sz : Nat) : Reps R sz [] [] := Reps.none R sz
theorem reps_cons {α : Type} {R : α → List Value → Prop} {sz : Nat} {p : α} {c : List Value} {xs : List α} {cs : List Value} (hp : R p c) (hc : c.length = sz) (h : Reps R sz xs cs) : Reps R sz (p :: xs) (c ++ cs) := by
  refine ⟨by rw [List.length_append, hc, h.1, List.length_cons, Nat.add_mul, Nat.one_mul, Nat.add_comm], fun j q hq => ?_⟩
  cases j with
  | zero =>
    simp at hq
    subst hq
    rw [Nat.zero_mul, List.drop_zero, ← hc, List.take_left]
    exact hp
  | succ j =>
    rw [List.getElem?_cons_succ] at hq
    have := h.2 j q hq
    rw [Nat.succ_mul, Nat.add_comm, ← List.drop_drop, ← hc, List.drop_left, hc]
    exact this

/-- What is read, laid flat. -/
theorem flat_of_C {α : Type} {d : Kd α} {w : World} {A : Option Addr} {n : Nat} {xs : List α} (h : Kd.C d w A n xs) :
    ∃ cs : List Value, Reps (d.K w) d.sz xs cs ∧ (0 < n → ∃ ad, A = some ad ∧ ∀ j u, cs[j]? = some u → w.cell? (ad.add j) = some u) := by
  obtain ⟨hl, _, hc⟩ := h
  by_cases hn : 0 < n
  · obtain ⟨ad, rfl, hd⟩ := hc hn
    have key : ∀ (k : Nat) (ys : List α), (∀ j p, ys[j]? = some p → xs[k + j]? = some p) → ∃ cs : List Value, Reps (d.K w) d.sz ys cs ∧ ∀ j u, cs[j]? = some u → w.cell? (ad.add (k * d.sz + j)) = some u := by
      intro k ys
      induction ys generalizing k with
      | nil => exact fun _ => ⟨[], reps_nil _ _, fun j u hu => by simp at hu⟩
      | cons y ys ih =>
        intro hy
        obtain ⟨cs, h1, h2⟩ := ih (k + 1) (fun j p hp => by have := hy (j + 1) p (by simpa using hp); rw [show k + 1 + j = k + (j + 1) from by omega]; exact this)
        obtain ⟨c, hcl, hK, hcell⟩ := hd k y (hy 0 y (by simp))
        refine ⟨c ++ cs, reps_cons hK hcl h1, fun j u hu => ?_⟩
        by_cases hj : j < c.length
        · rw [List.getElem?_append_left hj] at hu
          exact hcell j u hu
        · rw [List.getElem?_append_right (by omega)] at hu
          have := h2 _ u hu
          rw [show k * d.sz + j = (k + 1) * d.sz + (j - c.length) from by rw [Nat.add_mul, Nat.one_mul]; omega]
          exact this
    obtain ⟨cs, h1, h2⟩ := key 0 xs (fun j p hp => by simpa using hp)
    exact ⟨cs, h1, fun _ => ⟨ad, rfl, fun j u hu => by simpa using h2 j u hu⟩⟩
  · have : xs = [] := List.eq_nil_of_length_eq_zero (by omega)
    subst this
    exact ⟨[], reps_nil _ _, fun h => absurd h hn⟩

theorem reps_append {α : Type} {R : α → List Value → Prop} {sz : Nat} {xs ys : List α} {cs es : List Value} (h : Reps R sz xs cs) (h' : Reps R sz ys es) : Reps R sz (xs ++ ys) (cs ++ es) := by
  refine ⟨by rw [List.length_append, List.length_append, h.1, h'.1, Nat.add_mul], fun j q hq => ?_⟩
  by_cases hj : j < xs.length
  · rw [List.getElem?_append_left hj] at hq
    have h1 : j * sz + sz ≤ cs.length := by rw [h.1, ← Nat.succ_mul]; exact Nat.mul_le_mul_right _ hj
    rw [List.drop_append_of_le_length (by omega), List.take_append_of_le_length (by rw [List.length_drop]; omega)]
    exact h.2 j q hq
  · rw [List.getElem?_append_right (by omega)] at hq
    have := h'.2 _ q hq
    have e : (cs ++ es).drop (j * sz) = es.drop ((j - xs.length) * sz) := by
      rw [List.drop_append, List.drop_eq_nil_of_le (by rw [h.1]; exact Nat.mul_le_mul_right _ (by omega)), List.nil_append, h.1, Nat.sub_mul]
    rw [e]
    exact this

/-- A row of one's own whose cells are known is read so. -/
theorem C_of_own {α : Type} {d : Kd α} {w : World} {base : Nat} {e : TypeId} {v : Value} {n : Nat} {cells : List Value} {xs : List α} (ho : w.ownsRow base e d.sz v n cells) (h : Reps (d.K w) d.sz xs cells) (hn : xs.length = n) (hb : n ≤ 9223372036854775807) :
    ∃ A c, v = .slice A n c ∧ n ≤ c ∧ Kd.C d w A n xs := by
  obtain ⟨h1, h2⟩ := ho
  rcases h2 with ⟨rfl, rfl⟩ | ⟨g, cap, cur, rfl, hg, hh, r1, r2, r3, r4⟩
  · have : xs = [] := List.eq_nil_of_length_eq_zero hn
    subst this
    exact ⟨none, 0, rfl, Nat.le_refl _, Kd.C_nil d w⟩
  · refine ⟨some ⟨g, 0, none⟩, cap, rfl, r1, hn, hb, fun _ => ⟨_, rfl, fun j p hp => ⟨(cells.drop (j * d.sz)).take d.sz, d.K_len (h.2 j p hp), h.2 j p hp, fun i u hu => ?_⟩⟩⟩
    have hi : i < d.sz := by
      have := (List.getElem?_eq_some_iff.1 hu).1
      have e := d.K_len (h.2 j p hp)
      omega
    rw [List.getElem?_take_of_lt hi, List.getElem?_drop] at hu
    have e : (⟨g, 0, none⟩ : Addr).add (j * d.sz + i) = ⟨g, j * d.sz + i, none⟩ := by
      unfold Addr.add
      split <;> simp_all
    rw [e, blk_cell hh]
    have hlt := (List.getElem?_eq_some_iff.1 hu).1
    rw [← r4, List.getElem?_take_of_lt (by omega), Array.getElem?_toList] at hu
    exact hu

section
variable {P : Program}
/-- append of whatever row is read (nil too) onto a row of one's own. -/
theorem run_append_flat (w : World) (base : Nat) (t ty e : TypeId) (z : Value) (size bytes : Nat) (ht : P.underlying t = some (.slice e)) (hinfo : (P.info? e).map (fun i => (i.zero, i.size, i.bytes)) = some (some z, size, bytes))
    (hzs : z.cells.size = size) (hsz : 0 < size) (v : Value) (n : Nat) (xs : List Value) (hown : w.ownsRow base e size v n xs)
    (A : Option Addr) (m c : Nat) (news : List Value) (hl : news.length = m * size) (hnews : 0 < m → ∃ ad, A = some ad ∧ ∀ j u, news[j]? = some u → w.cell? (ad.add j) = some u) (h1 : ∀ u ∈ news, u.oneCell' = true)
    (h63 : n + m ≤ maxLen) (hbytes : (n + m) * bytes ≤ 140737488355328) (hbase : base ≤ w.heap.size) :
    ∃ v' w', (Builtin.append_ #[t, t] ty #[v, .slice A m c]).run P w = .ok v' w' ∧ w'.ownsRow base e size v' (n + m) (xs ++ news) ∧ w.grownBy w' v.ownBlock ∧ (v'.ownBlock = v.ownBlock ∨ v'.ownBlock = some w.heap.size) := by
  obtain ⟨i, hi, hz, hs, hb⟩ := info_parts hinfo
  cases A with
  | none =>
    have hm : m = 0 := by
      rcases Nat.eq_zero_or_pos m with h | h
      · exact h
      · obtain ⟨ad, hA, _⟩ := hnews h
        cases hA
    subst hm
    have hnil : news = [] := List.eq_nil_of_length_eq_zero (by simpa using hl)
    subst hnil
    refine ⟨v, w, ?_, by simpa using hown, World.grownBy.refl w _, .inl rfl⟩
    rcases hown.2 with ⟨rfl, _⟩ | ⟨g, cap, cur, rfl, _, _, hnc, _⟩
    · simp [Builtin.append_, run_underlying ht, sizeOf, typeInfo, hi, Builtin.lenOf, Builtin.firstCells]
    · simp [Builtin.append_, run_underlying ht, sizeOf, typeInfo, hi, Builtin.lenOf, Builtin.firstCells, hnc, storeCells]
  | some ad =>
    have hcells : ∀ j u, news[j]? = some u → w.cell? (ad.add j) = some u := by
      intro j u hu
      rcases Nat.eq_zero_or_pos m with h | h
      · subst h
        have hnil : news = [] := List.eq_nil_of_length_eq_zero (by simpa using hl)
        subst hnil
        simp at hu
      · obtain ⟨ad', hA, hc⟩ := hnews h
        injection hA with hA
        subst hA
        exact hc j u hu
    obtain ⟨v', w', h1', h2, h3, _, h5⟩ := run_append_own_at (P := P) w base t ty e i z size bytes ht hi hz hs hb hzs hsz v n xs hown ad m c news hl hcells h1 h63 hbytes hbase
    exact ⟨v', w', h1', h2, h3, h5⟩
theorem wpList_append_flat {w : World} {ops : Array Oper} {rest : List Oper} {o : Oper} {a : Act} {Q : Exit → Act → World → Prop} (hgd : o.guard = none) (s x : Operand) (t : TypeId)
    (ho : o.op = .call { callee := .builtin .append, args := #[s, x], argTypes := #[t, t] })
    (base : Nat) (e : TypeId) (z : Value) (size bytes : Nat) (ht : P.underlying t = some (.slice e)) (hinfo : (P.info? e).map (fun i => (i.zero, i.size, i.bytes)) = some (some z, size, bytes))
    (hzs : z.cells.size = size) (hsz : 0 < size) (v : Value) (n : Nat) (xs : List Value) (hs : a.eval s = v) (hown : w.ownsRow base e size v n xs)
    (A : Option Addr) (m c : Nat) (news : List Value) (hx : a.eval x = .slice A m c) (hl : news.length = m * size) (hnews : 0 < m → ∃ ad, A = some ad ∧ ∀ j u, news[j]? = some u → w.cell? (ad.add j) = some u) (h1 : ∀ u ∈ news, u.oneCell' = true)
    (h63 : n + m ≤ maxLen) (hbytes : (n + m) * bytes ≤ 140737488355328) (hbase : base ≤ w.heap.size)
    (h : ∀ v' w', w'.ownsRow base e size v' (n + m) (xs ++ news) → w.grownBy w' v.ownBlock → (v'.ownBlock = v.ownBlock ∨ v'.ownBlock = some w.heap.size) → wpList P ops Q rest (a.put o.dst v') w') : wpList P ops Q (o :: rest) a w := by
  refine wpList_plain hgd fun K hK => ?_
  obtain ⟨v', w', hrun, h2, h3, h4⟩ := run_append_flat (P := P) w base t o.type e z size bytes ht hinfo hzs hsz v n xs hown A m c news hl hnews h1 h63 hbytes hbase
  unfold Oper.wp execOp
  simp only [ho, resolve, invoke, builtin, Sem.run_bind, Sem.run_pure, Result.andThen_ok, List.map_toArray, List.map_cons, List.map_nil, hs, hx, hrun]
  exact hK _ _ (h v' w' h2 h3 h4)
end

theorem cells_below {w w1 : World} {A : Option Addr} {m : Nat} {cs : List Value} (h : 0 < m → ∃ ad, A = some ad ∧ ∀ j u, cs[j]? = some u → w.cell? (ad.add j) = some u) (hb : Below w.heap.size w w1) :
    0 < m → ∃ ad, A = some ad ∧ ∀ j u, cs[j]? = some u → w1.cell? (ad.add j) = some u := by
  intro hm
  obtain ⟨ad, e, hc⟩ := h hm
  exact ⟨ad, e, fun j u hu => (hb.cell (World.block_lt_of_cell? w _ (hc j u hu))).trans (hc j u hu)⟩
theorem reps_below {α : Type} {d : Kd α} {w w1 : World} {xs : List α} {cs : List Value} (h : Reps (d.K w) d.sz xs cs) (hb : Below w.heap.size w w1) : Reps (d.K w1) d.sz xs cs := h.imp_ fun _ _ hk => d.K_below hb hk
theorem flat_one {α : Type} {d : Kd α} {w : World} : ∀ {xs : List α} {cs : List Value}, Reps (d.K w) d.sz xs cs → ∀ u ∈ cs, u.oneCell' = true
  | xs, cs, h, u, hu => by
    obtain ⟨i, hi⟩ := List.getElem?_of_mem hu
    have hlt := (List.getElem?_eq_some_iff.1 hi).1
    have hpos : 0 < d.sz := by
      rcases Nat.eq_zero_or_pos d.sz with h0 | h0
      · have := h.1; rw [h0, Nat.mul_zero] at this; omega
      · exact h0
    have hj : i / d.sz < xs.length := by
      refine (Nat.div_lt_iff_lt_mul hpos).2 ?_
      rw [← h.1]; exact hlt
    have hK := h.2 (i / d.sz) _ (List.getElem?_eq_getElem hj)
    refine d.K_one hK u ?_
    refine List.mem_of_getElem? (i := i % d.sz) ?_
    rw [List.getElem?_take_of_lt (Nat.mod_lt _ hpos), List.getElem?_drop, Nat.mul_comm, Nat.div_add_mod]
    exact hi
end Go.Proofs.YthbngidbfhcdaaaGreat.Rd
/- Memory of which a part may have turned: 'Only F w w''; maps of whole numbers as functions. -/
namespace Go.Proofs.YthbngidbfhcdaaaGreat.Mem
open Go.RowKit Go.Maps Go.Proofs.YthbngidbfhcdaaaGreatW.PrintWords

theorem dec_or (p : Prop) [Decidable p] : decide p = true ∨ decide p = false := by cases decide p <;> simp
theorem bool_or (b : Bool) : b = true ∨ b = false := by cases b <;> simp

/-- A drawn region of readings with a forced tail; its world under a name of its own. -/
theorem still_tail {P : Program} {id : Nat} {Q : Exit → Act → World → Prop} {a : Act} {w : World} {l : List Oper} (n : Nat) (hm : P.follows .mixedOrders = true) (hB : Region.lexTailB .any l.toArray n = true)
    (R : World → Prop) (hR : R w.drew) (h : ∀ W, R W → wpStill P l.toArray W (fun a' => wpList P l.toArray Q (l.drop n) a' W) (l.take n) a) : (Code.region id l.toArray true).wp P Q a w :=
  wp_region_still_tail n hm hB (h _ hR)

theorem blk_kept {B : Nat} {a b : World} (hb : Below B a b) {g : Nat} {o : Obj} (h : a.heap[g]? = some o) (hB : g < B) : b.heap[g]? = some o := (hb.block g hB).trans h
theorem new_kept {w w1 : World} {o : Obj} (hb : Below (w.alloc o).heap.size (w.alloc o) w1) : w1.heap[w.heap.size]? = some o := blk_kept hb (blk_new w o) (blk_lt (blk_new w o))

/-- Of the blocks that were there, only those of F may have turned. -/
structure Only (F : Nat → Prop) (w w' : World) : Prop where
  os : w'.os = w.os
  tape : w'.tape = w.tape
  output : w'.output = w.output
  size : w.heap.size ≤ w'.heap.size
  block : ∀ k, k < w.heap.size → ¬ F k → w'.heap[k]? = w.heap[k]?

section
variable {F G : Nat → Prop} {a b c w w' : World}
theorem Only.refl (F : Nat → Prop) (w : World) : Only F w w := ⟨rfl, rfl, rfl, Nat.le_refl _, fun _ _ _ => rfl⟩
theorem Only.trans (h : Only F a b) (k : Only G b c) (hG : ∀ i, i < a.heap.size → G i → F i) : Only F a c :=
  ⟨k.os.trans h.os, k.tape.trans h.tape, k.output.trans h.output, Nat.le_trans h.size k.size, fun i hi hn => (k.block i (Nat.lt_of_lt_of_le hi h.size) (fun g => hn (hG i hi g))).trans (h.block i hi hn)⟩
theorem Only.next (h : Only F a b) (k : Only F b c) : Only F a c := h.trans k fun _ _ g => g
theorem Only.mono (h : Only F a b) (hF : ∀ i, i < a.heap.size → F i → G i) : Only G a b := ⟨h.os, h.tape, h.output, h.size, fun i hi hn => h.block i hi (fun f => hn (hF i hi f))⟩
theorem Only.of_below {B : Nat} (h : Below B a b) (hB : a.heap.size ≤ B) (F : Nat → Prop) : Only F a b := ⟨h.os, h.tape, h.output, h.size, fun i hi _ => h.block i (Nat.lt_of_lt_of_le hi hB)⟩
theorem Only.fresh (h : Below a.heap.size a b) (F : Nat → Prop) : Only F a b := Only.of_below h (Nat.le_refl _) F
theorem Only.grown {row : Option Nat} (h : a.grownBy b row) (hF : ∀ k, row = some k → k < a.heap.size → F k) : Only F a b :=
  ⟨h.os, h.tape, h.output, h.size, fun i hi hn => h.block i hi (fun e => hn (hF i e.symm hi))⟩
theorem Only.below {B : Nat} (h : Only F a b) (hB : B ≤ a.heap.size) (hF : ∀ i, i < a.heap.size → F i → B ≤ i) : Below B a b :=
  ⟨h.os, h.tape, h.output, h.size, fun i hi => h.block i (Nat.lt_of_lt_of_le hi hB) (fun f => by have := hF i (Nat.lt_of_lt_of_le hi hB) f; omega)⟩
theorem Only.none_ (h : Only (fun _ => False) a b) : Below a.heap.size a b := h.below (Nat.le_refl _) fun _ _ f => f.elim
theorem Only.drew (h : Only F a b) : Only F a b.drew := ⟨h.os, h.tape, h.output, h.size, h.block⟩
theorem Only.drewN (h : Only F a b) (n : Nat) : Only F a (b.drewN n) := ⟨h.os, h.tape, h.output, h.size, h.block⟩
theorem Only.alloc (h : Only F a b) (o : Obj) : Only F a (b.alloc o) := h.trans (G := fun _ => False) (Only.fresh ((Below.refl _ _).alloc (Nat.le_refl _) o) _) fun _ _ f => f.elim
theorem Only.set (h : Only F a b) {p : Addr} (hp : p.block < a.heap.size → F p.block) (u : Value) : Only F a (b.setCell p u) :=
  ⟨h.os, h.tape, h.output, by simpa [World.setCell] using h.size, fun i hi hn => (Below.heap_setCell b p u i (fun e => hn (by subst e; exact hp hi))).trans (h.block i hi hn)⟩
theorem Only.blk (h : Only F w w') {g : Nat} {o : Obj} (hb : w.heap[g]? = some o) (hF : ¬ F g) : w'.heap[g]? = some o := (h.block g (blk_lt hb) hF).trans hb
theorem Only.C (h : Only F w w') {α : Type} {d : Kd α} {B : Nat} {A : Option Addr} {n : Nat} {xs : List α} {w0 : World} (hc : Kd.C d w0 A n xs) (h0 : Below w0.heap.size w0 w) (hF : ∀ i, F i → w0.heap.size ≤ i) : Kd.C d w' A n xs :=
  Kd.C_below hc (h0.trans (h.below h0.size fun i _ f => hF i f))
/-- A row of one's own stays where no block of its types turns. -/
theorem Only.R (h : Only F w w') {α : Type} {d : Kd α} {e base : Nat} {ok : Nat → Prop} {v : Value} {xs : List α} (hr : d.R e w base ok v xs)
    (hF : ∀ k, F k → ∀ cells q, w.heap[k]? = some (.cells cells q (0, 0)) → q ∈ e :: d.E → False) : d.R e w' base ok v xs :=
  Kd.R_mono (Kd.R_move (Kd.R_bound hr) (fun k hk => h.block k hk.2.2.1 (fun f => by
    obtain ⟨_, _, _, q, hq, cells, hc⟩ := hk
    exact hF k f cells q hc hq))) (fun _ hk => hk.1)
end

/-! ### what turns, told by the types of the rows and by blocks -/
def Ty (T B : List Nat) (w : World) (k : Nat) : Prop := k ∈ B ∨ ∃ cells q, q ∈ T ∧ w.heap[k]? = some (.cells cells q (0, 0))
/-- Of the blocks that were there, only rows of the types T and the blocks B may have turned. -/
abbrev Turn (T B : List Nat) (w w' : World) : Prop := Only (Ty T B w) w w'
theorem Turn.refl (T B : List Nat) (w : World) : Turn T B w w := Only.refl _ w
theorem Turn.next {T B : List Nat} {a b c : World} (h : Turn T B a b) (k : Turn T B b c) : Turn T B a c := by
  refine Only.trans h k fun i hi hG => ?_
  rcases hG with hG | ⟨cells, q, hq, hb⟩
  · exact .inl hG
  · by_cases hF : Ty T B a i
    · exact hF
    · exact .inr ⟨cells, q, hq, (h.block i hi hF).symm.trans hb⟩
theorem Turn.mono {T B T' B' : List Nat} {a b : World} (h : Turn T B a b) (hT : ∀ q ∈ T, q ∈ T') (hB : ∀ q ∈ B, q ∈ B') : Turn T' B' a b :=
  Only.mono h fun i _ hF => hF.imp (hB i) fun ⟨cells, q, hq, hb⟩ => ⟨cells, q, hT q hq, hb⟩
theorem Turn.fresh {T B : List Nat} {a b : World} (h : Below a.heap.size a b) : Turn T B a b := Only.fresh h _
theorem Turn.step {T B : List Nat} {a b c : World} (h : Turn T B a b) (k : Below b.heap.size b c) : Turn T B a c := Turn.next h (Turn.fresh k)
theorem Turn.set {T B : List Nat} {w : World} {g : Nat} {t : TypeId} {cs : Array Value} (h : w.heap[g]? = some (.cells cs t (0, 0))) (ht : t ∈ T) (i : Nat) (u : Value) : Turn T B w (w.setCell ⟨g, i, none⟩ u) :=
  Only.set (Only.refl _ w) (fun _ => .inr ⟨cs, t, ht, h⟩) u
theorem own_at {w : World} {base : Nat} {e : TypeId} {size n : Nat} {v : Value} {xs : List Value} (h : w.ownsRow base e size v n xs) {k : Nat} (hk : v.ownBlock = some k) : ∃ cur, w.heap[k]? = some (.cells cur e (0, 0)) := by
  rcases h.2 with ⟨rfl, _⟩ | ⟨g, cap, cur, rfl, _, hh, _⟩
  · cases hk
  · cases hk
    exact ⟨cur, hh⟩
theorem Turn.row {T B : List Nat} {α : Type} {d : Kd α} {e base : Nat} {ok : Nat → Prop} {v : Value} {xs : List α} {w w1 : World} (h : d.R e w base ok v xs) (hg : w.grownBy w1 v.ownBlock) (he : e ∈ T) : Turn T B w w1 := by
  obtain ⟨_, hown⟩ := Kd.R_own h
  exact Only.grown hg fun k hk _ => let ⟨cur, hc⟩ := own_at hown hk; .inr ⟨cur, e, he, hc⟩
theorem Turn.blk {T B : List Nat} {w w1 : World} (h : Turn T B w w1) {g : Nat} {t : TypeId} {cs : Array Value} (hb : w.heap[g]? = some (.cells cs t (0, 0))) (ht : t ∉ T) (hB : g ∉ B) : w1.heap[g]? = some (.cells cs t (0, 0)) :=
  Only.blk h hb fun hF => hF.elim hB fun ⟨cells, q, hq, hc⟩ => by rw [hb] at hc; cases hc; exact ht hq
def AreMaps (B : List Nat) (w : World) : Prop := ∀ b ∈ B, ∃ es clk, w.heap[b]? = some (.map es clk)
theorem Turn.R {T B : List Nat} {w w1 : World} (h : Turn T B w w1) (hB : AreMaps B w) {α : Type} {d : Kd α} {e base : Nat} {ok : Nat → Prop} {v : Value} {xs : List α} (hr : d.R e w base ok v xs) (ht : ∀ q ∈ e :: d.E, q ∉ T) : d.R e w1 base ok v xs :=
  Only.R h hr fun k hF cells q hc hq => by
    rcases hF with hF | ⟨cells', q', hq', hc'⟩
    · obtain ⟨es, clk, hm⟩ := hB k hF
      rw [hm] at hc
      cases hc
    · rw [hc] at hc'
      cases hc'
      exact ht q hq hq'

/-! ### maps of whole numbers -/
theorem tight {P : Program} {k : TypeId} {R : Value → Option (DataW Unit × List MemPlace)} {w : World} {b n : Nat} {D : DataW Unit} (h : w.ownsMap P k R b n D) : w.ownsMap P k R b (Maps.size D) D := by
  obtain ⟨es, clock, hb, F, hs, rfl⟩ := h
  refine ⟨es, clock, hb, F, ?_, rfl⟩
  simp [Maps.size, length_sorted]

/-- How a map's values stand: as a value, and as a datum. -/
structure Enc (α : Type) where
  ev : α → Value
  dv : α → DataW Unit
  R : Value → Option (DataW Unit × List MemPlace)
  z : Value
  zd : DataW Unit
  Rz : R z = some (zd, [])
  Rv : ∀ a, R (ev a) = some (dv a, [])
  inj : ∀ a v ps, R v = some (dv a, ps) → v = ev a
  injz : ∀ v ps, R v = some (zd, ps) → v = z

def RI : Value → Option (DataW Unit × List MemPlace)
  | .int .i64 n => some (.lit (.int .i64 n), [])
  | _ => none
def RP : Value → Option (DataW Unit × List MemPlace)
  | .pointer (some ⟨b, 0, none⟩) => some (.lit (.int .i64 b), [])
  | .pointer none => some (.nil, [])
  | _ => none
theorem RI_inv {v : Value} {n : Int} {ps : List MemPlace} (h : RI v = some (.lit (.int .i64 n), ps)) : v = .int .i64 n := by
  unfold RI at h
  split at h
  · simp at h
    rw [h.1]
  · cases h
def encI : Enc Int where
  ev := Value.int .i64
  dv n := .lit (.int .i64 n)
  R := RI
  z := .int .i64 0
  zd := .lit (.int .i64 0)
  Rz := rfl
  Rv _ := rfl
  inj _ _ _ h := RI_inv h
  injz _ _ h := RI_inv h
def encP : Enc Nat where
  ev b := .pointer (some ⟨b, 0, none⟩)
  dv b := .lit (.int .i64 (b : Int))
  R := RP
  z := .pointer none
  zd := .nil
  Rz := rfl
  Rv _ := rfl
  inj b v ps h := by
    unfold RP at h
    split at h
    · simp at h
      obtain ⟨h, _⟩ := h
      have := Int.ofNat.inj h
      subst this
      rfl
    · simp at h
    · cases h
  injz v ps h := by
    unfold RP at h
    split at h
    · simp at h
    · rfl
    · cases h

/-- The map in block b has m keys; f tells what lies at each. -/
def MapAt {α : Type} (P : Program) (k : TypeId) (E : Enc α) (w : World) (b m : Nat) (f : Int → Option α) : Prop :=
  ∃ D : DataW Unit, w.ownsMap P k E.R b m D ∧ Maps.size D = m ∧ (∀ x, has D (.int .i64 x) = (f x).isSome) ∧ ∀ x v z, f x = some v → D.atKey (.int .i64 x) z = E.dv v

section
variable {α : Type} {P : Program} {k e t : TypeId} {E : Enc α} {w w' : World} {b m : Nat} {f : Int → Option α}
theorem MapAt.lt (h : MapAt P k E w b m f) : b < w.heap.size := let ⟨_, h, _⟩ := h; h.lt
theorem MapAt.keep (h : MapAt P k E w b m f) (hb : w'.heap[b]? = w.heap[b]?) : MapAt P k E w' b m f := by
  obtain ⟨D, ⟨es, clock, h1, F, h2, rfl⟩, h3, h4, h5⟩ := h
  exact ⟨_, ⟨es, clock, hb.trans h1, F, h2, rfl⟩, h3, h4, h5⟩
theorem MapAt.only {F : Nat → Prop} (h : MapAt P k E w b m f) (ho : Only F w w') (hF : ¬ F b) : MapAt P k E w' b m f := h.keep (ho.block b h.lt hF)
theorem MapAt.isMap (h : MapAt P k E w b m f) : ∃ es clk, w.heap[b]? = some (.map es clk) := by
  obtain ⟨D, ⟨es, clock, h1, _⟩, _⟩ := h
  exact ⟨_, _, h1⟩
theorem MapAt.turn {T B : List Nat} (h : MapAt P k E w b m f) (ho : Turn T B w w') (hB : b ∉ B) : MapAt P k E w' b m f :=
  h.only ho fun hF => hF.elim hB fun ⟨cells, q, _, hc⟩ => by
    obtain ⟨es, clk, hm⟩ := h.isMap
    rw [hm] at hc
    cases hc
theorem MapAt.new (w : World) : MapAt P k E (w.alloc (.map #[] 0)) w.heap.size 0 (fun _ => none) :=
  ⟨.map [], World.ownsMap_made _ _ _ _, rfl, fun x => by simp [has_eq], fun x v z h => by cases h⟩
theorem MapAt.look (h : MapAt P k E w b m f) (K : Keyed P k) (ht : P.underlying t = some (.map k e)) (hz : (zeroValue e).run P w = .ok E.z w) (hk : P.underlying k = some (.int .i64)) {x : Int} (hx : (Lit.int .i64 x).wf = true) :
    (Instr.lookup t (.map (some b)) (.int .i64 x) false).run P w = .ok (match f x with | some v => E.ev v | none => E.z) w := by
  obtain ⟨D, h1, _, h3, h4⟩ := h
  obtain ⟨v, ps, hr, hv⟩ := h1.lookup K ht hz E.Rz (keyOf_int_mk hk hx)
  rw [hr]
  cases hf : f x with
  | some a => rw [h4 x a _ hf] at hv; rw [E.inj a v ps hv]
  | none => rw [atKey_of_not_has (by rw [h3 x, hf]; rfl)] at hv; rw [E.injz v ps hv]
theorem MapAt.look_ok (h : MapAt P k E w b m f) (K : Keyed P k) (ht : P.underlying t = some (.map k e)) (hz : (zeroValue e).run P w = .ok E.z w) (hk : P.underlying k = some (.int .i64)) {x : Int} (hx : (Lit.int .i64 x).wf = true) :
    (Instr.lookup t (.map (some b)) (.int .i64 x) true).run P w = .ok (.tuple #[match f x with | some v => E.ev v | none => E.z, .bool (f x).isSome]) w := by
  obtain ⟨D, h1, _, h3, h4⟩ := h
  obtain ⟨v, ps, hr, hv⟩ := h1.look_ok K ht hz E.Rz (keyOf_int_mk hk hx)
  rw [hr, h3 x]
  cases hf : f x with
  | some a => rw [h4 x a _ hf] at hv; rw [E.inj a v ps hv]
  | none => rw [atKey_of_not_has (by rw [h3 x, hf]; rfl)] at hv; rw [E.injz v ps hv]
theorem MapAt.len (h : MapAt P k E w b m f) (ht : P.underlying t = some (.map k e)) (ty : TypeId) : (Builtin.len_ #[t] ty #[.map (some b)]).run P w = .ok (.int .i64 m) w := by
  obtain ⟨D, h1, h2, _⟩ := h
  rw [h1.len ht ty, h2]
def upd (f : Int → Option α) (x : Int) (a : Option α) : Int → Option α := fun y => if y = x then a else f y
theorem MapAt.put (h : MapAt P k E w b m f) (K : Keyed P k) (ht : P.underlying t = some (.map k e)) (hk : P.underlying k = some (.int .i64)) (hm : m < 1000000) {x : Int} (hx : (Lit.int .i64 x).wf = true) (a : α) :
    ∃ w', (Instr.mapUpdate t (.map (some b)) (.int .i64 x) (E.ev a)).run P w = .ok () w' ∧ MapAt P k E w' b (if (f x).isSome then m else m + 1) (upd f x (some a)) ∧ w.grownBy w' (some b) := by
  obtain ⟨D, h1, h2, h3, h4⟩ := h
  obtain ⟨w', hr, h5, h6⟩ := h1.update K ht (by unfold maxLen; omega) (keyOf_int_mk hk hx) (E.Rv a)
  refine ⟨w', hr, ⟨D.put (.int .i64 x) (E.dv a), ?_, ?_, fun y => ?_, fun y v z hy => ?_⟩, h6⟩
  · have := tight h5
    rw [size_put (k := .int .i64 x) (h1.tidy K), h3 x, h2] at this
    exact this
  · rw [size_put (k := .int .i64 x) (h1.tidy K), h3 x, h2]
  · by_cases hy : y = x
    · subst hy
      simp [upd, has_put_same h1.isMap (k := .int .i64 y) trivial]
    · rw [has_put_other (by simp; exact hy), h3 y]
      simp [upd, hy]
  · by_cases hxy : y = x
    · subst hxy
      simp [upd] at hy
      subst hy
      rw [atKey_put_same h1.isMap (k := .int .i64 y) trivial]
    · rw [atKey_put_other (by simp; exact hxy)]
      simp [upd, hxy] at hy
      exact h4 y v z hy
theorem MapAt.del (h : MapAt P k E w b m f) (K : Keyed P k) (ht : P.underlying t = some (.map k e)) (hk : P.underlying k = some (.int .i64)) {x : Int} (hx : (Lit.int .i64 x).wf = true) (ty : TypeId) :
    ∃ w', (Builtin.delete_ #[t, k] ty #[.map (some b), .int .i64 x]).run P w = .ok (.tuple #[]) w' ∧ MapAt P k E w' b (if (f x).isSome then m - 1 else m) (upd f x none) ∧ w.grownBy w' (some b) := by
  obtain ⟨D, h1, h2, h3, h4⟩ := h
  obtain ⟨w', hr, h5, h6⟩ := h1.drop K ht (keyOf_int_mk hk hx) ty
  have hsz : Maps.size (D.del (.int .i64 x)) = if (f x).isSome then m - 1 else m := by
    have := size_del (k := .int .i64 x) (h1.tidy K)
    rw [h3 x, h2] at this
    split at this <;> simp_all <;> omega
  refine ⟨w', hr, ⟨D.del (.int .i64 x), ?_, hsz, fun y => ?_, fun y v z hy => ?_⟩, h6.grown⟩
  · have := tight h5
    rw [hsz] at this
    exact this
  · by_cases hy : y = x
    · subst hy
      simp [upd, has_del_same]
    · rw [has_del_other (by simp; exact hy), h3 y]
      simp [upd, hy]
  · by_cases hxy : y = x
    · subst hxy
      simp [upd] at hy
    · rw [atKey_del_other (by simp; exact hxy)]
      simp [upd, hxy] at hy
      exact h4 y v z hy
end
end Go.Proofs.YthbngidbfhcdaaaGreat.Mem
/- What package text's functions come to: runes counted, words, what may be asked for. -/
namespace Go.Proofs.YthbngidbfhcdaaaGreat.C
open Go.RowKit Go.Proofs.YthbngidbfhcdaaaGreatW.PrintWords
set_option linter.unusedVariables false
set_option linter.unusedSimpArgs false

/-- How many runes there are from a place on; -1: one that is none. -/
def lenFrom (s : ByteArray) : Nat → Nat → Int → Int
  | 0, _, acc => acc
  | b + 1, pos, acc => if pos < s.size then (if (Utf8.decode s pos).1 = 65533 then -1 else lenFrom s b (pos + (Utf8.decode s pos).2) (acc + 1)) else acc
def tlen (s : ByteArray) : Int := lenFrom s s.size 0 0
theorem width_pos (s : ByteArray) (pos : Nat) (h : pos < s.size) : 1 ≤ (Utf8.decode s pos).2 := by
  by_cases ha : (s[pos]'h).toNat < 128
  · rw [decode_ascii s pos h ha]
    exact Nat.le_refl _
  · exact (decode_high s pos h (by omega)).2
theorem lenFrom_end (s : ByteArray) (b pos : Nat) (acc : Int) (h : ¬ pos < s.size) : lenFrom s b pos acc = acc := by
  cases b with
  | zero => rfl
  | succ b => simp [lenFrom, h]
theorem lenFrom_range (s : ByteArray) : ∀ (b pos : Nat) (acc : Int), 0 ≤ acc → -1 ≤ lenFrom s b pos acc ∧ lenFrom s b pos acc ≤ acc + b
  | 0, _, acc, h => by simp [lenFrom]; omega
  | b + 1, pos, acc, h => by
    have ih := lenFrom_range s b (pos + (Utf8.decode s pos).2) (acc + 1) (by omega)
    simp only [lenFrom]
    (repeat' split) <;> omega
theorem tlen_range (s : ByteArray) : -1 ≤ tlen s ∧ tlen s ≤ s.size := by
  have := lenFrom_range s s.size 0 0 (by omega)
  unfold tlen; omega

theorem iter_below (w : World) (s : ByteArray) (pos : Nat) : Below w.heap.size w (w.iter s pos) := (Below.refl _ _).alloc (Nat.le_refl _) _
set_option maxHeartbeats 400000 in
theorem text_Len (s : ByteArray) (w : World) (hs : s.size ≤ 9223372036854775807) :
    Calls Tryz.prog 28 #[.string s] w fun e w' => e = .returned (.int .i64 (tlen s)) ∧ Below w.heap.size w w' := by
  go_enter Tryz.func28, Tryz.ntmps28
  go_wp2
  go_loopw [3] (fun n w' => ∃ (pos b : Nat) (acc : Int), w' = w.iter s pos ∧ n = .int .i64 acc ∧ 0 ≤ acc ∧ acc + b ≤ s.size ∧ lenFrom s b pos acc = tlen s ∧ s.size ≤ pos + b) (fun _ w' => s.size - w'.iterPos w.heap.size)
  case atStart => exact ⟨0, s.size, 0, rfl, rfl, by omega, by omega, rfl, by omega⟩
  case round =>
    obtain ⟨pos, b, acc, rfl, rfl, h0, h1, hc, hb⟩ := hrel
    by_cases hp : pos < s.size
    · have hnx : ∀ ty, (Instr.next (.pointer (some ⟨w.heap.size, 0, none⟩)) true ty).run Tryz.prog (w.iter s pos) = _ := fun ty => run_next_any w s pos ty hp
      have hwd := width_pos s pos hp
      obtain ⟨b, rfl⟩ : ∃ q, b = q + 1 := ⟨b - 1, by omega⟩
      have HC := Aside0.mk hc
      clear hc
      by_cases hr : (Utf8.decode s pos).1 = 65533
      · have hr1 : (((Utf8.decode s pos).1 : Int) == 65533) = true := by rw [hr]; rfl
        have HR := Aside0.mk hr
        clear hr
        go_wp2
        go_ret
        refine ⟨?_, iter_below _ _ _⟩
        rw [← HC.out]
        simp [lenFrom, hp, HR.out]
      · have hr1 : (((Utf8.decode s pos).1 : Int) == 65533) = false := by simp; omega
        go_wp2
        go_roundw
        case rel =>
          refine ⟨pos + (Utf8.decode s pos).2, b, acc + 1, rfl, by first | rfl | simp, by omega, by omega, ?_, by omega⟩
          rw [← HC.out]
          simp [lenFrom, hp, hr]
        case measure =>
          simp
          omega
    · have hnx : ∀ ty, (Instr.next (.pointer (some ⟨w.heap.size, 0, none⟩)) true ty).run Tryz.prog (w.iter s pos) = _ := fun ty => run_next_end w s pos ty hp
      go_wp2
      go_ret
      rw [lenFrom_end s b pos acc hp] at hc
      subst hc
      exact ⟨rfl, iter_below _ _ _⟩

/-- Is it a word? -/
def wordB (s : ByteArray) : Bool := decide (1 ≤ tlen s) && decide (tlen s ≤ 12)
def askedB (s : ByteArray) : Bool := decide (0 ≤ tlen s) && decide (tlen s ≤ 16)
theorem text_Word (s : ByteArray) (w : World) (hs : s.size ≤ 9223372036854775807) :
    Calls Tryz.prog 102 #[.string s] w fun e w' => e = .returned (.bool (wordB s)) ∧ Below w.heap.size w w' := by
  rcases Mem.dec_or (1 ≤ tlen s) with h1 | h1
  all_goals
    go_enter Tryz.func102, Tryz.ntmps102
    go_wp2_with (go_at_call 28; refine (text_Len _ _ hs).mono ?_; rintro e w1 ⟨rfl, hb⟩)
    go_ret
    exact ⟨by simp [wordB, h1], hb⟩
theorem text_Asked (s : ByteArray) (w : World) (hs : s.size ≤ 9223372036854775807) :
    Calls Tryz.prog 71 #[.string s] w fun e w' => e = .returned (.bool (askedB s)) ∧ Below w.heap.size w w' := by
  rcases Mem.dec_or (0 ≤ tlen s) with h1 | h1
  all_goals
    go_enter Tryz.func71, Tryz.ntmps71
    go_wp2_with (go_at_call 28; refine (text_Len _ _ hs).mono ?_; rintro e w1 ⟨rfl, hb⟩)
    go_ret
    exact ⟨by simp [askedB, h1], hb⟩
end Go.Proofs.YthbngidbfhcdaaaGreat.C
/- What comparing comes to: of numbers, of strings, the first that is not zero. -/
namespace Go.Proofs.YthbngidbfhcdaaaGreat.C
open Go.RowKit Go.Proofs.YthbngidbfhcdaaaGreatW.PrintWords
set_option linter.unusedVariables false
set_option linter.unusedSimpArgs false
def cmp106_ren : Go.Shelf.Ren := ⟨fun | 106 => 157 | 213 => 195 | 265 => 208 | n => n, fun | 3 => 3 | 9 => 9 | n => n, fun | n => n⟩
theorem cmp106 : Lays.n106 Tryz.prog cmp106_ren :=
  { mixed := by kernel_rfl,
    f106 := Tryz.func157.trans (congrArg some (by kernel_rfl)),
    f213 := Tryz.func195.trans (congrArg some (by kernel_rfl)),
    f265 := Tryz.func208.trans (congrArg some (by kernel_rfl)),
    t3 := Tryz.underlying3, a3 := Tryz.isAgg3, z3 := Tryz.sizeOf3, v3 := Tryz.zeroValue3,
    t9 := Tryz.underlying9, a9 := Tryz.isAgg9, z9 := Tryz.sizeOf9, v9 := Tryz.zeroValue9 }

def scmp (a b : ByteArray) : Int := Lib.compareBytes a.data.toList b.data.toList
theorem strings_Compare (a b : ByteArray) (w : World) : Calls Tryz.prog 157 #[.string a, .string b] w fun e w' => e = .returned (.int .i64 (scmp a b)) ∧ w' = w :=
  Any.strings_Compare cmp106 a b w
theorem text_Compare (a b : ByteArray) (w : World) : Calls Tryz.prog 103 #[.string a, .string b] w fun e w' => e = .returned (.int .i64 (scmp a b)) ∧ w' = w := by
  go_enter Tryz.func103, Tryz.ntmps103
  go_wp2_with (go_at_call 157; refine (strings_Compare _ _ _).mono ?_; rintro e w1 ⟨rfl, rfl⟩)
  go_ret
  exact ⟨rfl, rfl⟩

def icmp (x y : Int) : Int := if x < y then -1 else if y < x then 1 else 0
theorem cmp_isNaN (x : Int) (w : World) : Calls Tryz.prog 207 #[.int .i64 x] w fun e w' => e = .returned (.bool false) ∧ w' = w := by
  go_enter Tryz.func207, Tryz.ntmps207
  go_wp2
  go_ret
  exact ⟨rfl, rfl⟩
theorem cmp_Compare (x y : Int) (w : World) : Calls Tryz.prog 189 #[.int .i64 x, .int .i64 y] w fun e w' => e = .returned (.int .i64 (icmp x y)) ∧ w' = w := by
  rcases Mem.dec_or (x < y) with h1 | h1
  all_goals
    rcases Mem.dec_or (y < x) with h2 | h2
    all_goals
      go_enter Tryz.func189, Tryz.ntmps189
      go_wp2_with (go_at_call 207; refine (cmp_isNaN _ _).mono ?_; rintro e w1 ⟨rfl, rfl⟩)
      go_ret
      exact ⟨by simp at h1 h2; unfold icmp; (repeat' split) <;> first | rfl | omega, rfl⟩

/-- The first that is not zero. -/
def or2 (x y : Int) : Int := if x = 0 then y else x
theorem cmp_Or2 (b : Nat) (x y : Int) (w : World) (hb : w.heap[b]? = some (.cells #[.int .i64 x, .int .i64 y] 3 (0, 0))) :
    Calls Tryz.prog 188 #[.slice (some ⟨b, 0, none⟩) 2 2] w fun e w' => e = .returned (.int .i64 (or2 x y)) ∧ Below w.heap.size w w' := by
  have c0 : w.cell? ⟨b, 0, none⟩ = some (.int .i64 x) := (blk_cell hb 0).trans rfl
  have c1 : w.cell? ⟨b, 1, none⟩ = some (.int .i64 y) := (blk_cell hb 1).trans rfl
  have hlt := blk_lt hb
  rcases Mem.bool_or (x == 0) with h1 | h1
  all_goals
    rcases Mem.bool_or (y == 0) with h2 | h2
    all_goals
      have h1' : (x != 0) = !(x == 0) := rfl
      have h2' : (y != 0) = !(y == 0) := rfl
      rw [h1] at h1'
      rw [h2] at h2'
      simp only [Bool.not_true, Bool.not_false] at h1' h2'
      go_enter Tryz.func188, Tryz.ntmps188
      go_wp2
      go_rounds 3
      all_goals go_ret
      all_goals exact ⟨by simp at h1 h2; unfold or2; first | (exfalso; omega) | simp [h1, h2], Below.refl _ _⟩
end Go.Proofs.YthbngidbfhcdaaaGreat.C
/- What package part's functions come to: cuts that may be; how far a shard is at least. -/
namespace Go.Proofs.YthbngidbfhcdaaaGreat.C
open Go.RowKit Go.Proofs.YthbngidbfhcdaaaGreatW.PrintWords Go.Proofs.YthbngidbfhcdaaaGreat.PCoordScript
set_option linter.unusedVariables false
set_option linter.unusedSimpArgs false
def kcmp (a b : S107) : Int := or2 (icmp a.f0 b.f0) (scmp a.f1 b.f1)
set_option maxRecDepth 100000 in
theorem part_compare (a b : S107) (w : World) :
    Calls Tryz.prog 158 #[.agg #[.int .i64 a.f0, .string a.f1], .agg #[.int .i64 b.f0, .string b.f1]] w fun e w' => e = .returned (.int .i64 (kcmp a b)) ∧ Below w.heap.size w w' := by
  go_enter Tryz.func158, Tryz.ntmps158
  go_wp2
  (refine Mem.still_tail 10 (by kernel_rfl) (by kernel_rfl) (R := (fun W => Below w.heap.size w W ∧ W.heap[w.heap.size]? = some (.cells #[.int .i64 a.f0, .string a.f1] 107 (0, 0)) ∧ W.heap[w.heap.size + 1]? = some (.cells #[.int .i64 b.f0, .string b.f1] 107 (0, 0)))) ⟨by repeat (first | exact Below.refl _ _ | apply below_alloc | apply pw_below_drewN | apply below_drew1), blk_alloc (blk_new _ _) _, Rd.blk_at (by simp)⟩ ?_)
  rintro W ⟨hB, hb0, hb1⟩
  have c0 : W.cell? ⟨w.heap.size, 0, none⟩ = some (.int .i64 a.f0) := (blk_cell hb0 0).trans rfl
  have c1 : W.cell? ⟨w.heap.size, 1, none⟩ = some (.string a.f1) := (blk_cell hb0 1).trans rfl
  have d0 : W.cell? ⟨w.heap.size + 1, 0, none⟩ = some (.int .i64 b.f0) := (blk_cell hb1 0).trans rfl
  have d1 : W.cell? ⟨w.heap.size + 1, 1, none⟩ = some (.string b.f1) := (blk_cell hb1 1).trans rfl
  (simp only [List.take_succ_cons, List.take_zero, List.drop_succ_cons, List.drop_zero]; repeat still_step)
  still_call (cmp_Compare _ _ _)
  repeat still_step
  still_call (text_Compare _ _ _)
  repeat still_step
  refine wpStill_nil ?_
  go_wp2_with (go_at_call 188; refine (cmp_Or2 _ _ _ _ (blk_new _ _)).mono ?_; rintro e w1 ⟨rfl, hb⟩)
  go_ret
  exact ⟨rfl, below_step (below_alloc hB _) hb⟩

theorem part_Less (a b : S107) (w : World) :
    Calls Tryz.prog 104 #[.agg #[.int .i64 a.f0, .string a.f1], .agg #[.int .i64 b.f0, .string b.f1]] w fun e w' => e = .returned (.bool (decide (kcmp a b < 0))) ∧ Below w.heap.size w w' := by
  go_enter Tryz.func104, Tryz.ntmps104
  go_wp2_with (go_at_call 158; refine (part_compare a b _).mono ?_; rintro e w1 ⟨rfl, hb⟩)
  go_ret
  exact ⟨rfl, below_step (below_alloc (below_alloc (Below.refl _ _) _) _) hb⟩

/-! ### cuts that may be -/
theorem snoc_at {α : Type} {l : List α} {k : Int} (z : α) (h0 : 0 ≤ k) (h : k < (l.length : Int)) : l.getD k.toNat z ∈ l ∧ l.take (k + 1).toNat = l.take k.toNat ++ [l.getD k.toNat z] ∧ l[k.toNat]? = some (l.getD k.toNat z) := by
  have hk : k.toNat < l.length := by omega
  have e : l.getD k.toNat z = l[k.toNat] := by
    rw [List.getD_eq_getElem?_getD, List.getElem?_eq_getElem hk]; rfl
  rw [e]
  exact ⟨List.getElem_mem _, by rw [show (k + 1).toNat = k.toNat + 1 from by omega, List.take_succ_eq_append_getElem hk], List.getElem?_eq_getElem hk⟩
def cutOk (c : S107) : Prop := 1 ≤ c.f0 ∧ c.f0 ≤ 12 ∧ 0 ≤ tlen c.f1 ∧ tlen c.f1 ≤ 12
/-- Each is below the next one. -/
def Rises {α : Type} (less : α → α → Prop) (l : List α) : Prop := ∀ j a b, l[j]? = some a → l[j + 1]? = some b → less a b
def kless (a b : S107) : Prop := kcmp a b < 0
def CutsMay (l : List S107) : Prop := l.length ≤ 5 ∧ (∀ c ∈ l, cutOk c) ∧ Rises kless l
set_option maxHeartbeats 800000 in
set_option maxRecDepth 100000 in
theorem part_Good (A : Option Addr) (c : Nat) (l : List S107) (w : World) (hc : Kd.C k107 w A l.length l) (hn : l.length ≤ c) (hs : ∀ x ∈ l, x.f1.size ≤ 9223372036854775807) :
    Calls Tryz.prog 54 #[.slice A l.length c] w fun e w' => (∃ r, e = .returned (.int .i64 r) ∧ (r = 0 ↔ CutsMay l)) ∧ Below w.heap.size w w' := by
  rcases Mem.dec_or ((5 : Int) < (l.length : Int)) with h5 | h5
  · go_enter Tryz.func54, Tryz.ntmps54
    go_wp2
    go_ret
    exact ⟨⟨_, rfl, by constructor; intro h; exact absurd h (by decide); intro h; have := h.1; simp at h5; omega⟩, Below.refl _ _⟩
  have hl5 : l.length ≤ 5 := by simp at h5; omega
  have HC := Aside0.mk hc
  have HS := Aside0.mk hs
  clear hc hs
  go_enter Tryz.func54, Tryz.ntmps54
  go_wp2
  go_loopw [12] (fun v wr => ∃ k : Int, v = .int .i64 k ∧ 0 ≤ k ∧ k ≤ l.length ∧ (∀ x ∈ l.take k.toNat, cutOk x) ∧ Aside0 (Below w.heap.size w wr)) (fun v _ => l.length - (intOf v).toNat)
  case atStart => exact ⟨0, rfl, by omega, by omega, fun x hx => by simp at hx, ⟨Below.refl _ _⟩⟩
  case round =>
    obtain ⟨k, rfl, hk0, hk, hok, HB⟩ := hrel
    rcases Mem.dec_or (k < (l.length : Int)) with hlt | hlt
    · have hlt' : k < (l.length : Int) := of_decide_eq_true hlt
      obtain ⟨ad, rfl, hx0, hx1⟩ := at_T107 HC.out k hk0 hlt'
      replace hx0 := (HB.out.cell (World.block_lt_of_cell? w _ hx0)).trans hx0
      replace hx1 := (HB.out.cell (World.block_lt_of_cell? w _ hx1)).trans hx1
      obtain ⟨hm, ht, _⟩ := snoc_at z107 hk0 hlt'
      have HM : Aside0 (rd_T107 l k ∈ l) := ⟨hm⟩
      have HT : Aside0 (l.take (k + 1).toNat = l.take k.toNat ++ [rd_T107 l k]) := ⟨ht⟩
      have HOK := Aside0.mk hok
      clear hm ht hok
      generalize hx : rd_T107 l k = x at *
      have HX := Aside0.mk hx
      clear hx
      have hcases : decide (x.f0 < 1) = true ∨ (decide (x.f0 < 1) = false ∧ decide (12 < x.f0) = true) ∨ (decide (x.f0 < 1) = false ∧ decide (12 < x.f0) = false ∧ decide (tlen x.f1 < 0) = true) ∨ (decide (x.f0 < 1) = false ∧ decide (12 < x.f0) = false ∧ decide (tlen x.f1 < 0) = false ∧ decide (12 < tlen x.f1) = true) ∨
          (decide (x.f0 < 1) = false ∧ decide (12 < x.f0) = false ∧ decide (tlen x.f1 < 0) = false ∧ decide (12 < tlen x.f1) = false) := by
        cases decide (x.f0 < 1) <;> cases decide (12 < x.f0) <;> cases decide (tlen x.f1 < 0) <;> cases decide (12 < tlen x.f1) <;> simp
      rcases hcases with q1 | ⟨q1, q2⟩ | ⟨q1, q2, q3⟩ | ⟨q1, q2, q3, q4⟩ | ⟨q1, q2, q3, q4⟩
      case inr.inr.inr.inr =>
        go_wp2_with (go_at_call 28; refine (text_Len _ _ (HS.out _ HM.out)).mono ?_; rintro e w1 ⟨rfl, hb⟩; have e0 : w1.cell? ⟨wr.heap.size, 0, none⟩ = some (.int .i64 x.f0) := (blk_cell (Mem.new_kept hb) 0).trans rfl)
        go_roundw
        case rel =>
          refine ⟨k + 1, rfl, by omega, by omega, ?_, ⟨below_step (below_alloc HB.out _) hb⟩⟩
          rw [HT.out]
          intro y hy
          rcases List.mem_append.1 hy with hy | hy
          · exact HOK.out y hy
          · simp at hy
            subst hy
            simp at q1 q2 q3 q4
            exact ⟨by omega, by omega, by omega, by omega⟩
        case measure =>
          simp [intOf]
          omega
      all_goals
        go_wp2_with (go_at_call 28; refine (text_Len _ _ (HS.out _ HM.out)).mono ?_; rintro e w1 ⟨rfl, hb⟩; have e0 : w1.cell? ⟨wr.heap.size, 0, none⟩ = some (.int .i64 x.f0) := (blk_cell (Mem.new_kept hb) 0).trans rfl)
        go_ret
        refine ⟨⟨_, rfl, fun h => absurd h (by decide), fun h => ?_⟩, below_step (below_alloc HB.out _) hb⟩
        obtain ⟨a1, a2, a3, a4⟩ := h.2.1 _ HM.out
        simp at q1
        try simp at q2
        try simp at q3
        try simp at q4
        omega
    · have hall : Aside0 (∀ x ∈ l, cutOk x) := ⟨by
        have e : l.take k.toNat = l := List.take_of_length_le (by simp at hlt; omega)
        rw [e] at hok
        exact hok⟩
      clear hok
      go_wp2
      go_loopw [6] (fun v wr => ∃ i : Int, v = .int .i64 i ∧ 1 ≤ i ∧ (i ≤ l.length ∨ i = 1) ∧ (∀ j a b, (j + 1 : Int) < i → l[j.toNat]? = some a → l[(j + 1).toNat]? = some b → 0 ≤ j → kless a b) ∧ Aside0 (Below w.heap.size w wr)) (fun v _ => l.length - (intOf v).toNat)
      case atStart => exact ⟨1, rfl, by omega, by omega, fun j a b h => by omega, HB⟩
      case round =>
        obtain ⟨i, rfl, hi1, hi, hok, HB⟩ := hrel
        have HOK := Aside0.mk hok
        clear hok
        rcases Mem.dec_or (i < (l.length : Int)) with hlt | hlt
        · have hlt' : i < (l.length : Int) := of_decide_eq_true hlt
          obtain ⟨h, rfl⟩ : ∃ h, i = h + 1 := ⟨i - 1, by omega⟩
          obtain ⟨ad, rfl, hx0, hx1⟩ := at_T107 HC.out (h + 1) (by omega) hlt'
          have hw : IntKind.i64.wrap h = h := IntWalk.i64_in _ (by omega)
          have hj0 : (0 : Int) ≤ h := by omega
          have hj1 : h < (l.length : Int) := by omega
          have hj2 : (0 : Int) ≤ h + 1 := by omega
          obtain ⟨ad', e, hy0, hy1⟩ := at_T107 HC.out h (by omega) (by omega)
          cases e
          replace hx0 := (HB.out.cell (World.block_lt_of_cell? w _ hx0)).trans hx0
          replace hx1 := (HB.out.cell (World.block_lt_of_cell? w _ hx1)).trans hx1
          replace hy0 := (HB.out.cell (World.block_lt_of_cell? w _ hy0)).trans hy0
          replace hy1 := (HB.out.cell (World.block_lt_of_cell? w _ hy1)).trans hy1
          have hX : Aside0 (l[(h + 1).toNat]? = some (rd_T107 l (h + 1))) := ⟨(snoc_at z107 (by omega) hlt').2.2⟩
          have hY : Aside0 (l[h.toNat]? = some (rd_T107 l h)) := ⟨(snoc_at z107 (by omega) (by omega)).2.2⟩
          generalize rd_T107 l (h + 1) = x at *
          generalize rd_T107 l h = y at *
          rcases Mem.dec_or (kcmp y x < 0) with hq | hq
          case' inl =>
            have hq' : kcmp y x < 0 := of_decide_eq_true hq
            have HOK2 : Aside0 (∀ j a b, (j + 1 : Int) < h + 1 + 1 → l[j.toNat]? = some a → l[(j + 1).toNat]? = some b → 0 ≤ j → kless a b) := ⟨fun j a b hj ha hb hj0 => by
              by_cases e : j = h
              · subst e
                rw [hY.out] at ha
                rw [hX.out] at hb
                cases ha
                cases hb
                exact hq'
              · exact HOK.out j a b (by omega) ha hb hj0⟩
            clear hq'
          all_goals
            go_wp2
            (refine Mem.still_tail 9 (by kernel_rfl) (by kernel_rfl) (R := (fun W => Below w.heap.size w W ∧ W.cell? (ad.add ((h + 1).toNat * 2)) = some (.int .i64 x.f0) ∧ W.cell? ⟨(ad.add ((h + 1).toNat * 2)).block, (ad.add ((h + 1).toNat * 2)).off + 1, none⟩ = some (.string x.f1) ∧
              W.cell? (ad.add (h.toNat * 2)) = some (.int .i64 y.f0) ∧ W.cell? ⟨(ad.add (h.toNat * 2)).block, (ad.add (h.toNat * 2)).off + 1, none⟩ = some (.string y.f1))) ⟨by repeat (first | exact HB.out | apply below_alloc | apply pw_below_drewN | apply below_drew1), hx0, hx1, hy0, hy1⟩ ?_)
            clear HB hx0 hx1 hy0 hy1
            rintro W ⟨hB, hx0, hx1, hy0, hy1⟩
            have HB := Aside0.mk hB
            clear hB
            (simp only [List.take_succ_cons, List.take_zero, List.drop_succ_cons, List.drop_zero]; repeat still_step)
            refine wpStill_nil ?_
            go_wp2_with (go_at_call 104; refine (part_Less y x _).mono ?_; rintro e w1 ⟨rfl, hb⟩)
          · go_roundw
            case rel => exact ⟨h + 1 + 1, rfl, by omega, by omega, HOK2.out, ⟨below_step HB.out hb⟩⟩
            case measure =>
              simp [intOf]
              omega
          · go_ret
            refine ⟨⟨_, rfl, fun h => absurd h (by decide), fun hm => ?_⟩, below_step HB.out hb⟩
            have : kless y x := hm.2.2 h.toNat y x hY.out (by rw [show h.toNat + 1 = (h + 1).toNat from by omega]; exact hX.out)
            simp at hq
            unfold kless at this
            omega
        · go_wp2
          go_ret
          refine ⟨⟨_, rfl, fun _ => ⟨hl5, hall.out, fun j a b ha hb => ?_⟩, fun _ => rfl⟩, HB.out⟩
          have hlb := (List.getElem?_eq_some_iff.1 hb).1
          simp at hlt
          exact HOK.out j a b (by omega) (by simpa using ha) (by rw [show ((j : Int) + 1).toNat = j + 1 from by omega]; exact hb) (by omega)
end Go.Proofs.YthbngidbfhcdaaaGreat.C
/- What list.Good comes to. -/
namespace Go.Proofs.YthbngidbfhcdaaaGreat.C
open Go.RowKit Go.Proofs.YthbngidbfhcdaaaGreatW.PrintWords Go.Proofs.YthbngidbfhcdaaaGreat.PCoordScript
set_option linter.unusedVariables false
set_option linter.unusedSimpArgs false
def sless (a b : ByteArray) : Prop := scmp a b < 0
def WordsMay (l : List ByteArray) : Prop := l.length ≤ 60 ∧ (∀ c ∈ l, wordB c = true) ∧ Rises sless l
set_option maxRecDepth 100000 in
theorem list_Good (A : Option Addr) (c : Nat) (l : List ByteArray) (w : World) (hc : Kd.C Kd.string w A l.length l) (hn : l.length ≤ c) (hs : ∀ x ∈ l, x.size ≤ 9223372036854775807) :
    Calls Tryz.prog 53 #[.slice A l.length c] w fun e w' => (∃ r, e = .returned (.int .i64 r) ∧ (r = 0 ↔ WordsMay l)) ∧ Below w.heap.size w w' := by
  rcases Mem.dec_or ((60 : Int) < (l.length : Int)) with h5 | h5
  · go_enter Tryz.func53, Tryz.ntmps53
    go_wp2
    go_ret
    exact ⟨⟨_, rfl, by constructor; intro h; exact absurd h (by decide); intro h; have := h.1; simp at h5; omega⟩, Below.refl _ _⟩
  have hl5 : l.length ≤ 60 := by simp at h5; omega
  have HC := Aside0.mk hc
  have HS := Aside0.mk hs
  clear hc hs
  go_enter Tryz.func53, Tryz.ntmps53
  go_wp2
  go_loopw [11] (fun v wr => ∃ k : Int, v = .int .i64 k ∧ 0 ≤ k ∧ k ≤ l.length ∧ (∀ x ∈ l.take k.toNat, wordB x = true) ∧ Aside0 (Below w.heap.size w wr)) (fun v _ => l.length - (intOf v).toNat)
  case atStart => exact ⟨0, rfl, by omega, by omega, fun x hx => by simp at hx, ⟨Below.refl _ _⟩⟩
  case round =>
    obtain ⟨k, rfl, hk0, hk, hok, HB⟩ := hrel
    rcases Mem.dec_or (k < (l.length : Int)) with hlt | hlt
    · have hlt' : k < (l.length : Int) := of_decide_eq_true hlt
      obtain ⟨ad, rfl, hx0⟩ := Kd.at_string HC.out k hk0 hlt'
      replace hx0 := (HB.out.cell (World.block_lt_of_cell? w _ hx0)).trans hx0
      obtain ⟨hm, ht, _⟩ := snoc_at ByteArray.empty hk0 hlt'
      have HM : Aside0 (rdOf ByteArray.empty l k ∈ l) := ⟨hm⟩
      have HT : Aside0 (l.take (k + 1).toNat = l.take k.toNat ++ [rdOf ByteArray.empty l k]) := ⟨ht⟩
      have HOK := Aside0.mk hok
      clear hm ht hok
      generalize rdOf ByteArray.empty l k = x at *
      rcases Mem.bool_or (wordB x) with hq | hq
      all_goals
        go_wp2_with (go_at_call 102; refine (text_Word _ _ (HS.out _ HM.out)).mono ?_; rintro e w1 ⟨rfl, hb⟩)
      · go_roundw
        case rel =>
          refine ⟨k + 1, rfl, by omega, by omega, ?_, ⟨below_step HB.out hb⟩⟩
          rw [HT.out]
          intro y hy
          rcases List.mem_append.1 hy with hy | hy
          · exact HOK.out y hy
          · simp at hy
            subst hy
            exact hq
        case measure =>
          simp [intOf]
          omega
      · go_ret
        refine ⟨⟨_, rfl, fun h => absurd h (by decide), fun h => ?_⟩, below_step HB.out hb⟩
        have := h.2.1 _ HM.out
        rw [hq] at this
        cases this
    · have hall : Aside0 (∀ x ∈ l, wordB x = true) := ⟨by
        have e : l.take k.toNat = l := List.take_of_length_le (by simp at hlt; omega)
        rw [e] at hok
        exact hok⟩
      clear hok
      go_wp2
      go_loopw [5] (fun v wr => ∃ i : Int, v = .int .i64 i ∧ 1 ≤ i ∧ (i ≤ l.length ∨ i = 1) ∧ (∀ j a b, (j + 1 : Int) < i → l[j.toNat]? = some a → l[(j + 1).toNat]? = some b → 0 ≤ j → sless a b) ∧ Aside0 (Below w.heap.size w wr)) (fun v _ => l.length - (intOf v).toNat)
      case atStart => exact ⟨1, rfl, by omega, by omega, fun j a b h => by omega, HB⟩
      case round =>
        obtain ⟨i, rfl, hi1, hi, hok, HB⟩ := hrel
        have HOK := Aside0.mk hok
        clear hok
        rcases Mem.dec_or (i < (l.length : Int)) with hlt | hlt
        · have hlt' : i < (l.length : Int) := of_decide_eq_true hlt
          obtain ⟨h, rfl⟩ : ∃ h, i = h + 1 := ⟨i - 1, by omega⟩
          obtain ⟨ad, rfl, hx0⟩ := Kd.at_string HC.out (h + 1) (by omega) hlt'
          have hw : IntKind.i64.wrap h = h := IntWalk.i64_in _ (by omega)
          have hj0 : (0 : Int) ≤ h := by omega
          have hj1 : h < (l.length : Int) := by omega
          have hj2 : (0 : Int) ≤ h + 1 := by omega
          obtain ⟨ad', e, hy0⟩ := Kd.at_string HC.out h (by omega) (by omega)
          cases e
          replace hx0 := (HB.out.cell (World.block_lt_of_cell? w _ hx0)).trans hx0
          replace hy0 := (HB.out.cell (World.block_lt_of_cell? w _ hy0)).trans hy0
          have hX : Aside0 (l[(h + 1).toNat]? = some (rdOf ByteArray.empty l (h + 1))) := ⟨(snoc_at ByteArray.empty (by omega) hlt').2.2⟩
          have hY : Aside0 (l[h.toNat]? = some (rdOf ByteArray.empty l h)) := ⟨(snoc_at ByteArray.empty (by omega) (by omega)).2.2⟩
          generalize rdOf ByteArray.empty l (h + 1) = x at *
          generalize rdOf ByteArray.empty l h = y at *
          rcases Mem.dec_or (0 ≤ scmp y x) with hq | hq
          case' inr =>
            have hq' : scmp y x < 0 := by simp at hq; omega
            have HOK2 : Aside0 (∀ j a b, (j + 1 : Int) < h + 1 + 1 → l[j.toNat]? = some a → l[(j + 1).toNat]? = some b → 0 ≤ j → sless a b) := ⟨fun j a b hj ha hb hj0 => by
              by_cases e : j = h
              · subst e
                rw [hY.out] at ha
                rw [hX.out] at hb
                cases ha
                cases hb
                exact hq'
              · exact HOK.out j a b (by omega) ha hb hj0⟩
            clear hq'
          all_goals
            go_wp2
            (refine Mem.still_tail 9 (by kernel_rfl) (by kernel_rfl) (R := (fun W => Below w.heap.size w W ∧ W.cell? (ad.add (h + 1).toNat) = some (.string x) ∧ W.cell? (ad.add h.toNat) = some (.string y))) ⟨by repeat (first | exact HB.out | apply below_alloc | apply pw_below_drewN | apply below_drew1), hx0, hy0⟩ ?_)
            clear HB hx0 hy0
            rintro W ⟨hB, hx0, hy0⟩
            have HB := Aside0.mk hB
            clear hB
            (simp only [List.take_succ_cons, List.take_zero, List.drop_succ_cons, List.drop_zero]; repeat still_step)
            refine wpStill_nil ?_
            go_wp2_with (go_at_call 103; refine (text_Compare y x _).mono ?_; rintro e w1 ⟨rfl, rfl⟩)
          · go_roundw
            case rel => exact ⟨h + 1 + 1, rfl, by omega, by omega, HOK2.out, HB⟩
            case measure =>
              simp [intOf]
              omega
          · go_ret
            refine ⟨⟨_, rfl, fun h => absurd h (by decide), fun hm => ?_⟩, HB.out⟩
            have : sless y x := hm.2.2 h.toNat y x hY.out (by rw [show h.toNat + 1 = (h + 1).toNat from by omega]; exact hX.out)
            simp at hq
            unfold sless at this
            omega
        · go_wp2
          go_ret
          refine ⟨⟨_, rfl, fun _ => ⟨hl5, hall.out, fun j a b ha hb => ?_⟩, fun _ => rfl⟩, HB.out⟩
          have hlb := (List.getElem?_eq_some_iff.1 hb).1
          simp at hlt
          exact HOK.out j a b (by omega) (by simpa using ha) (by rw [show ((j : Int) + 1).toNat = j + 1 from by omega]; exact hb) (by omega)
end Go.Proofs.YthbngidbfhcdaaaGreat.C
/- What package place's functions come to: configurations that may be; how many shards; a shard's copies. -/
namespace Go.Proofs.YthbngidbfhcdaaaGreat.C
open Go.RowKit Go.Proofs.YthbngidbfhcdaaaGreatW.PrintWords Go.Proofs.YthbngidbfhcdaaaGreat.PCoordScript
set_option linter.unusedVariables false
set_option linter.unusedSimpArgs false
def inB (x a b : Int) : Bool := decide (a ≤ x) && decide (x ≤ b)
theorem place_within (x a b : Int) (w : World) : Calls Tryz.prog 55 #[.int .i64 x, .int .i64 a, .int .i64 b] w fun e w' => e = .returned (.bool (inB x a b)) ∧ w' = w := by
  rcases Mem.dec_or (a ≤ x) with h1 | h1
  all_goals
    go_enter Tryz.func55, Tryz.ntmps55
    go_wp2
    go_ret
    exact ⟨by simp [inB, h1], rfl⟩
/-- A configuration's values. -/
structure Cfg where
  A0 : Option Addr
  c0 : Nat
  A1 : Option Addr
  c1 : Nat
  words : List ByteArray
  cuts : List S107
  wk : Int
  cp : Int
  sl : Int
  ba : Int
  le : Int
  he : Int
  fi : Int
  ca : Int
  ji : Int
  ne : Int
abbrev Cfg.cells (c : Cfg) : Array Value := #[.slice c.A0 c.words.length c.c0, .slice c.A1 c.cuts.length c.c1, .int .i64 c.wk, .int .i64 c.cp, .int .i64 c.sl, .int .i64 c.ba, .int .i64 c.le, .int .i64 c.he, .int .i64 c.fi, .int .i64 c.ca, .int .i64 c.ji, .int .i64 c.ne]
abbrev Cfg.val (c : Cfg) : Value := .agg c.cells
/-- The configuration's rows lie in w. -/
structure Cfg.At (c : Cfg) (w : World) : Prop where
  words : Kd.C Kd.string w c.A0 c.words.length c.words
  w_cap : c.words.length ≤ c.c0
  cuts : Kd.C k107 w c.A1 c.cuts.length c.cuts
  c_cap : c.cuts.length ≤ c.c1
  w_size : ∀ x ∈ c.words, x.size ≤ 9223372036854775807
  c_size : ∀ x ∈ c.cuts, x.f1.size ≤ 9223372036854775807
theorem Cfg.At.below {c : Cfg} {w w' : World} (h : c.At w) (hb : Below w.heap.size w w') : c.At w' :=
  { h with words := Kd.C_below h.words hb, cuts := Kd.C_below h.cuts hb }
theorem Cfg.read {c : Cfg} {W : World} {b : Nat} {t : TypeId} (hb : W.heap[b]? = some (.cells c.cells t (0, 0))) : W.cell? ⟨b, 0, none⟩ = some (.slice c.A0 c.words.length c.c0) ∧ W.cell? ⟨b, 1, none⟩ = some (.slice c.A1 c.cuts.length c.c1) ∧ W.cell? ⟨b, 2, none⟩ = some (.int .i64 c.wk) ∧ W.cell? ⟨b, 3, none⟩ = some (.int .i64 c.cp) ∧ W.cell? ⟨b, 4, none⟩ = some (.int .i64 c.sl) ∧ W.cell? ⟨b, 5, none⟩ = some (.int .i64 c.ba) ∧ W.cell? ⟨b, 6, none⟩ = some (.int .i64 c.le) ∧ W.cell? ⟨b, 7, none⟩ = some (.int .i64 c.he) ∧ W.cell? ⟨b, 8, none⟩ = some (.int .i64 c.fi) ∧ W.cell? ⟨b, 9, none⟩ = some (.int .i64 c.ca) ∧ W.cell? ⟨b, 10, none⟩ = some (.int .i64 c.ji) ∧ W.cell? ⟨b, 11, none⟩ = some (.int .i64 c.ne) :=
  ⟨(blk_cell hb 0).trans rfl, (blk_cell hb 1).trans rfl, (blk_cell hb 2).trans rfl, (blk_cell hb 3).trans rfl, (blk_cell hb 4).trans rfl, (blk_cell hb 5).trans rfl, (blk_cell hb 6).trans rfl, (blk_cell hb 7).trans rfl, (blk_cell hb 8).trans rfl, (blk_cell hb 9).trans rfl, (blk_cell hb 10).trans rfl, (blk_cell hb 11).trans rfl⟩
theorem Cfg.kept {c : Cfg} {w W : World} {t : TypeId} (hb : Below (w.alloc (.cells c.cells t (0, 0))).heap.size (w.alloc (.cells c.cells t (0, 0))) W) : Below w.heap.size w W ∧ W.heap[w.heap.size]? = some (.cells c.cells t (0, 0)) :=
  ⟨below_step (below_alloc (Below.refl _ _) _) hb, Mem.new_kept hb⟩
def Cfg.nodes (c : Cfg) : Bool := inB c.wk 1 5 && inB c.cp 1 (min 3 c.wk)
def Cfg.sizes (c : Cfg) : Bool := inB c.sl 1 4 && inB c.ba 1 5 && inB c.ne 8 64
def Cfg.times (c : Cfg) : Bool := inB c.le 1 1000 && inB c.he 1 1000 && inB c.fi 1 10 && inB c.ca c.fi 50 && inB c.ji 0 10
def Cfg.numbers (c : Cfg) : Bool := c.nodes && c.sizes && c.times
def Cfg.May (c : Cfg) : Prop := WordsMay c.words ∧ CutsMay c.cuts ∧ c.numbers = true
set_option maxRecDepth 100000 in
theorem place_May (c : Cfg) (w : World) (hc : c.At w) :
    Calls Tryz.prog 13 #[c.val] w fun e w' => (∃ r, e = .returned (.bool r) ∧ (r = true ↔ c.May)) ∧ Below w.heap.size w w' := by
  have HC := Aside0.mk hc
  clear hc
  by_cases hw : WordsMay c.words
  · by_cases hcu : CutsMay c.cuts
    · have HW := Aside0.mk hw
      have HCU := Aside0.mk hcu
      clear hw hcu
      go_enter Tryz.func13, Tryz.ntmps13
      go_upto_region 3 with (first
        | (go_at_call 53; refine (list_Good _ _ _ _ (Kd.C_below HC.out.words (below_alloc (Below.refl _ _) _)) HC.out.w_cap HC.out.w_size).mono ?_; rintro e w1 ⟨⟨r, rfl, hr⟩, hb⟩; obtain rfl := hr.2 HW.out; clear hr;
            obtain ⟨x0, x1, x2, x3, x4, x5, x6, x7, x8, x9, x10, x11⟩ := Cfg.read (Cfg.kept hb).2; have HB := Aside0.mk hb; clear hb)
        | (go_at_call 54; refine (part_Good _ _ _ _ (Kd.C_below HC.out.cuts (Cfg.kept HB.out).1) HC.out.c_cap HC.out.c_size).mono ?_; rintro e w2 ⟨⟨r, rfl, hr⟩, hb⟩; obtain rfl := hr.2 HCU.out; clear hr; clear x0 x1 x2 x3 x4 x5 x6 x7 x8 x9 x10 x11;
            have HB2 := Aside0.mk (below_step HB.out hb); clear HB hb; obtain ⟨x0, x1, x2, x3, x4, x5, x6, x7, x8, x9, x10, x11⟩ := Cfg.read (Cfg.kept HB2.out).2))
      go_cut [3] (fun s wx => s = .bool c.nodes ∧ wx = w2)
      case first =>
        have hcs : (inB c.wk 1 5 = false) ∨ (inB c.wk 1 5 = true) := by
          cases inB c.wk 1 5 <;> simp
        rcases hcs with h0 | h0
        all_goals
          go_wp2_with (go_at_call 55; refine (place_within _ _ _ _).mono ?_; rintro e w3 ⟨rfl, rfl⟩)
          go_meet
          exact ⟨by simp [Cfg.nodes, *], rfl⟩
      case rest =>
      obtain ⟨rfl, rfl⟩ := hcut
      go_upto_region 4 with fail
      go_cut [4] (fun s wx => s = .bool c.sizes ∧ wx = wc)
      case first =>
        have hcs : (inB c.sl 1 4 = false) ∨ (inB c.sl 1 4 = true ∧ inB c.ba 1 5 = false) ∨ (inB c.sl 1 4 = true ∧ inB c.ba 1 5 = true) := by
          cases inB c.sl 1 4 <;> cases inB c.ba 1 5 <;> simp
        rcases hcs with h0 | ⟨h0, h1⟩ | ⟨h0, h1⟩
        all_goals
          go_wp2_with (go_at_call 55; refine (place_within _ _ _ _).mono ?_; rintro e w3 ⟨rfl, rfl⟩)
          go_meet
          exact ⟨by simp [Cfg.sizes, *], rfl⟩
      case rest =>
      obtain ⟨rfl, rfl⟩ := hcut
      go_upto_region 5 with fail
      go_cut [5] (fun s wx => s = .bool c.times ∧ wx = wc)
      case first =>
        have hcs : (inB c.le 1 1000 = false) ∨ (inB c.le 1 1000 = true ∧ inB c.he 1 1000 = false) ∨ (inB c.le 1 1000 = true ∧ inB c.he 1 1000 = true ∧ inB c.fi 1 10 = false) ∨ (inB c.le 1 1000 = true ∧ inB c.he 1 1000 = true ∧ inB c.fi 1 10 = true ∧ inB c.ca c.fi 50 = false) ∨ (inB c.le 1 1000 = true ∧ inB c.he 1 1000 = true ∧ inB c.fi 1 10 = true ∧ inB c.ca c.fi 50 = true) := by
          cases inB c.le 1 1000 <;> cases inB c.he 1 1000 <;> cases inB c.fi 1 10 <;> cases inB c.ca c.fi 50 <;> simp
        rcases hcs with h0 | ⟨h0, h1⟩ | ⟨h0, h1, h2⟩ | ⟨h0, h1, h2, h3⟩ | ⟨h0, h1, h2, h3⟩
        all_goals
          go_wp2_with (go_at_call 55; refine (place_within _ _ _ _).mono ?_; rintro e w3 ⟨rfl, rfl⟩)
          go_meet
          exact ⟨by simp [Cfg.times, *], rfl⟩
      case rest =>
      obtain ⟨rfl, rfl⟩ := hcut
      have HK := Aside0.mk (Cfg.kept HB2.out).1
      clear x0 x1 x2 x3 x4 x5 x6 x7 x8 x9 x10 x11 HB2
      rcases Mem.bool_or c.nodes with h0 | h0
      all_goals
        rcases Mem.bool_or c.sizes with h1 | h1
        all_goals
          go_wp2
          go_ret
          refine ⟨⟨_, rfl, ?_⟩, HK.out⟩
          simp [Cfg.May, HW.out, HCU.out, Cfg.numbers, h0, h1]
    · have HW := Aside0.mk hw
      have HCU := Aside0.mk hcu
      clear hw hcu
      go_enter Tryz.func13, Tryz.ntmps13
      go_wp2_with (first
        | (go_at_call 53; refine (list_Good _ _ _ _ (Kd.C_below HC.out.words (below_alloc (Below.refl _ _) _)) HC.out.w_cap HC.out.w_size).mono ?_; rintro e w1 ⟨⟨r, rfl, hr⟩, hb⟩; obtain rfl := hr.2 HW.out; clear hr;
            obtain ⟨x0, x1, x2, x3, x4, x5, x6, x7, x8, x9, x10, x11⟩ := Cfg.read (Cfg.kept hb).2; have HB := Aside0.mk hb; clear hb)
        | (go_at_call 54; refine (part_Good _ _ _ _ (Kd.C_below HC.out.cuts (Cfg.kept HB.out).1) HC.out.c_cap HC.out.c_size).mono ?_; rintro e w2 ⟨⟨r, rfl, hr⟩, hb⟩; have hne : (r != 0) = true := (by simp; intro h; exact HCU.out (hr.1 h))))
      go_ret
      exact ⟨⟨_, rfl, fun h => (by cases h), fun h => absurd h.2.1 HCU.out⟩, (Cfg.kept (below_step HB.out hb)).1⟩
  · have HW := Aside0.mk hw
    clear hw
    go_enter Tryz.func13, Tryz.ntmps13
    go_wp2_with (go_at_call 53; refine (list_Good _ _ _ _ (Kd.C_below HC.out.words (below_alloc (Below.refl _ _) _)) HC.out.w_cap HC.out.w_size).mono ?_; rintro e w1 ⟨⟨r, rfl, hr⟩, hb⟩; have hne : (r != 0) = true := by (simp; intro h; exact HW.out (hr.1 h)))
    go_ret
    exact ⟨⟨_, rfl, fun h => (by cases h), fun h => absurd h.1 HW.out⟩, (Cfg.kept hb).1⟩
end Go.Proofs.YthbngidbfhcdaaaGreat.C
/- The small configuration of the statements' waking. -/
namespace Go.Proofs.YthbngidbfhcdaaaGreat.C
open Go.RowKit Go.Proofs.YthbngidbfhcdaaaGreatW.PrintWords Go.Proofs.YthbngidbfhcdaaaGreat.PCoordScript
set_option linter.unusedVariables false
set_option linter.unusedSimpArgs false
def smallWords : List ByteArray := [⟨#[97]⟩, ⟨#[97, 98, 99]⟩, ⟨#[98]⟩]
def cSm (g : Nat) : Cfg := ⟨some ⟨g, 0, none⟩, 3, none, 0, smallWords, [], 1, 1, 1, 2, 5, 9, 2, 4, 0, 8⟩
theorem small_calls (w : World) : Calls Tryz.prog 56 #[] w fun e w' => ∃ g, e = .returned (cSm g).val ∧ (cSm g).At w' ∧ Below w.heap.size w w' := by
  go_enter Tryz.func56, Tryz.ntmps56
  go_wp2
  refine bodyPost_ret (v := (cSm (w.heap.size + 1)).val) (by simp [results, Tryz.results56, go_sem, cSm, smallWords]) rfl ⟨_, rfl, ⟨?_, Nat.le_refl 3, Kd.C_nil _ _, Nat.le_refl _, ?_, fun x hx => by cases hx⟩, below_alloc (below_alloc (Below.refl _ _) _) _⟩
  · refine Rd.C_of_blk (d := Kd.string) (xs := smallWords) (Rd.blk_at (by simp)) (by decide) ?_
    exact Rd.reps_cons (c := [_]) rfl rfl (Rd.reps_cons (c := [_]) rfl rfl (Rd.reps_cons (c := [_]) rfl rfl (Rd.reps_nil _ _)))
  · show ∀ x ∈ smallWords, x.size ≤ 9223372036854775807
    decide
end Go.Proofs.YthbngidbfhcdaaaGreat.C
/- How many shards a configuration has; who keeps a shard. -/
namespace Go.Proofs.YthbngidbfhcdaaaGreat.C
open Go.RowKit Go.Proofs.YthbngidbfhcdaaaGreatW.PrintWords Go.Proofs.YthbngidbfhcdaaaGreat.PCoordScript
set_option linter.unusedVariables false
set_option linter.unusedSimpArgs false
theorem CutsMay.few {l : List S107} (h : CutsMay l) : l.length ≤ 5 := h.1
theorem Cfg.May.nums {c : Cfg} (h : c.May) : (1 ≤ c.wk ∧ c.wk ≤ 5) ∧ (1 ≤ c.cp ∧ c.cp ≤ 3 ∧ c.cp ≤ c.wk) ∧ (1 ≤ c.sl ∧ c.sl ≤ 4) ∧ (1 ≤ c.ba ∧ c.ba ≤ 5) ∧ (1 ≤ c.le ∧ c.le ≤ 1000) ∧ (1 ≤ c.he ∧ c.he ≤ 1000) ∧ (1 ≤ c.fi ∧ c.fi ≤ 10) ∧ (c.fi ≤ c.ca ∧ c.ca ≤ 50) ∧ (0 ≤ c.ji ∧ c.ji ≤ 10) := by
  have := h.2.2
  simp [Cfg.numbers, Cfg.nodes, Cfg.sizes, Cfg.times, inB] at this
  omega
/-- Of numbers that may be: how many shards there are; the copies of one. -/
theorem place_Shards (c : Cfg) (w : World) (hc : c.At w) (hm : c.May) :
    Calls Tryz.prog 21 #[c.val] w fun e w' => e = .returned (.int .i64 (c.cuts.length + 1)) ∧ Below w.heap.size w w' := by
  have HC := Aside0.mk hc
  have HM := Aside0.mk hm
  have h5 := hm.2.1.1
  clear hc hm
  go_enter Tryz.func21, Tryz.ntmps21
  go_wp2_with (go_at_call 13; refine (place_May c _ (HC.out.below (below_alloc (Below.refl _ _) _))).mono ?_; rintro e w1 ⟨⟨r, rfl, hr⟩, hb⟩; obtain rfl := hr.2 HM.out; clear hr; obtain ⟨x0, x1, x2, x3, x4, x5, x6, x7, x8, x9, x10, x11⟩ := Cfg.read (Cfg.kept hb).2; have HB := Aside0.mk hb; clear hb)
  go_ret
  exact ⟨rfl, (Cfg.kept HB.out).1⟩
def Cfg.copy (c : Cfg) (s j : Int) : Int := 1 + (s + j) % c.wk
def Cfg.copies (c : Cfg) (s : Int) : List Int := (List.range c.cp.toNat).map fun j : Nat => c.copy s j
theorem inB_true {x a b : Int} (h1 : a ≤ x) (h2 : x ≤ b) : inB x a b = true := by simp [inB, h1, h2]
set_option maxRecDepth 100000 in
theorem place_Copies (c : Cfg) (s : Int) (w : World) (hc : c.At w) (hm : c.May) (h0 : 0 ≤ s) (h1 : s ≤ c.cuts.length) :
    Calls Tryz.prog 22 #[c.val, .int .i64 s] w fun e w' => ∃ v, e = .returned v ∧ Kd.R (Kd.int .i64) 3 w' w.heap.size (fun _ => True) v (c.copies s) ∧ Below w.heap.size w w' := by
  have HC := Aside0.mk hc
  have HM := Aside0.mk hm
  have h5 := hm.2.1.1
  obtain ⟨⟨hk1, hk2⟩, ⟨hp1, hp2, _⟩, _⟩ := hm.nums
  clear hc hm
  go_enter Tryz.func22, Tryz.ntmps22
  go_wp2_with (first
    | (go_at_call 21; refine (place_Shards c _ (HC.out.below (below_alloc (Below.refl _ _) _)) HM.out).mono ?_; rintro e w1 ⟨rfl, hb⟩; obtain ⟨x0, x1, x2, x3, x4, x5, x6, x7, x8, x9, x10, x11⟩ := Cfg.read (Cfg.kept hb).2; have HB := Aside0.mk hb; clear hb)
    | (go_at_call 55; refine (place_within _ _ _ _).mono ?_; rintro e w2 ⟨rfl, rfl⟩; rw [inB_true (by omega) (by omega)]))
  have hk := (Cfg.kept HB.out).2
  have HK := Aside0.mk hk
  have hkb := (Cfg.kept HB.out).1
  have HKB := Aside0.mk hkb
  have hsz : w.heap.size + 1 ≤ w2.heap.size := blk_lt hk
  clear HB x0 x1 x2 x3 x4 x5 x6 x7 x8 x9 x10 x11 hk hkb
  have hx3 : w2.cell? ⟨w.heap.size, 3, none⟩ = some (.int .i64 c.cp) := (Cfg.read HK.out).2.2.2.1
  go_loopw [5, 15] (fun v5 v wr => ∃ k : Int, v = .int .i64 k ∧ 0 ≤ k ∧ k ≤ c.cp ∧ Aside0 (Kd.R (Kd.int .i64) 3 wr (w.heap.size + 1) (fun _ => True) v5 ((List.range k.toNat).map fun j : Nat => c.copy s j)) ∧ Aside0 (Below (w.heap.size + 1) w2 wr)) (fun _ v _ => c.cp.toNat - (intOf v).toNat)
  case atStart => exact ⟨0, rfl, by omega, by omega, ⟨Kd.R_nil _ _ _ _ _⟩, ⟨Below.refl _ _⟩⟩
  case round =>
    obtain ⟨k, rfl, hk0, hk, HR, HB⟩ := hrel
    rcases Mem.dec_or (k < c.cp) with hlt | hlt
    · have hb := Mem.blk_kept HB.out HK.out (by omega)
      have hx2 : wr.cell? ⟨w.heap.size, 2, none⟩ = some (.int .i64 c.wk) := (Cfg.read hb).2.2.1
      clear hb
      have hq := Int.emod_nonneg (s + k) (show c.wk ≠ 0 by omega)
      have hq2 := Int.emod_lt_of_pos (s + k) (show (0 : Int) < c.wk by omega)
      have hbd : Aside0 ((List.range k.toNat).length + 1 ≤ 1000) := ⟨by simp; omega⟩
      go_wp2_with (at_builtin; refine Kd.R_append (Kd.int .i64) (w0 := w2) (w.heap.size + 1) rfl (.tmp 18) (.tmp 26) 26 3 (.int .i64 0) 8 rfl Tryz.underlying26 info3 rfl (by decide) (by omega) _ _ (c.copy s k) [.int .i64 (c.copy s k)] (fun _ => True) (fun _ => False) rfl rfl rfl (fun _ h => h.elim) (fun _ _ => trivial) HR.out HB.out (Nat.le_trans hsz HB.out.size) (by rw [List.length_map]; have := hbd.out; omega) ?_; intro v' w' hr hb hg _)
      clear hg
      have hlt' : k < c.cp := of_decide_eq_true hlt
      refine ⟨⟨k + 1, rfl, by omega, by omega, ⟨?_⟩, ⟨hb⟩⟩, ?_⟩
      · rw [show (k + 1).toNat = k.toNat + 1 from by omega, List.range_succ, List.map_append]
        have e : (List.map (fun j : Nat => c.copy s j) [k.toNat]) = [c.copy s k] := by
          show [c.copy s ((k.toNat : Nat) : Int)] = _
          rw [Int.toNat_of_nonneg hk0]
        rw [e]
        exact hr
      · simp [intOf]
        omega
    · have e : k = c.cp := by simp at hlt; omega
      subst e
      go_wp2
      go_ret
      exact ⟨_, rfl, Kd.R_lower HR.out (by omega), below_weaken HKB.out (by omega) HB.out⟩
end Go.Proofs.YthbngidbfhcdaaaGreat.C
/- New tables, slots, timers; rows cloned. -/
namespace Go.Proofs.YthbngidbfhcdaaaGreat.C
open Go.RowKit Go.Maps Go.Proofs.YthbngidbfhcdaaaGreatW.PrintWords Go.Proofs.YthbngidbfhcdaaaGreat.PCoordScript
set_option linter.unusedVariables false
set_option linter.unusedSimpArgs false
structure Ls where
  life : Int
  epoch : Int
  till : Int
abbrev tabCells (n t : Int) (L : Nat → Ls) : Array Value := #[.int .i64 n, .int .i64 t, .int .i64 (L 0).life, .int .i64 (L 0).epoch, .int .i64 (L 0).till, .int .i64 (L 1).life, .int .i64 (L 1).epoch, .int .i64 (L 1).till, .int .i64 (L 2).life, .int .i64 (L 2).epoch, .int .i64 (L 2).till, .int .i64 (L 3).life, .int .i64 (L 3).epoch, .int .i64 (L 3).till, .int .i64 (L 4).life, .int .i64 (L 4).epoch, .int .i64 (L 4).till, .int .i64 (L 5).life, .int .i64 (L 5).epoch, .int .i64 (L 5).till]
abbrev Tab (n t : Int) (L : Nat → Ls) : Obj := .cells (tabCells n t L) 217 (0, 0)
theorem lease_New (n t : Int) (w : World) (h : (1 ≤ n ∧ n ≤ 5) ∧ 1 ≤ t ∧ t ≤ 1000) :
    Calls Tryz.prog 58 #[.int .i64 n, .int .i64 t] w fun e w' => e = .returned (.tuple #[.pointer (some ⟨w.heap.size, 0, none⟩), .int .i64 0]) ∧ w' = w.alloc (Tab n t fun _ => ⟨0, 0, 0⟩) := by
  have h1 : decide (n < 1) = false := by simp; omega
  have h2 : decide (5 < n) = false := by simp; omega
  have h3 : decide (t < 1) = false := by simp; omega
  have h4 : decide (1000 < t) = false := by simp; omega
  clear h
  go_enter Tryz.func58, Tryz.ntmps58
  go_wp2
  go_ret2
  exact ⟨rfl, rfl⟩
abbrev slotCells (most last : Int) (a b : Nat) : Array Value := #[.int .i64 most, .int .i64 last, .map (some a), .map (some b)]
abbrev SlotB (most last : Int) (a b : Nat) : Obj := .cells (slotCells most last a b) 220 (0, 0)
theorem slots_New (n : Int) (w : World) (h : 1 ≤ n ∧ n ≤ 4) :
    Calls Tryz.prog 59 #[.int .i64 n] w fun e w' => e = .returned (.tuple #[.pointer (some ⟨w.heap.size + 2, 0, none⟩), .int .i64 0]) ∧ w' = ((w.alloc (.map #[] 0)).alloc (.map #[] 0)).alloc (SlotB n 0 w.heap.size (w.heap.size + 1)) := by
  have hmm := @run_makeMap Tryz.prog
  have h1 : decide (n < 1) = false := by simp; omega
  have h2 : decide (4 < n) = false := by simp; omega
  clear h
  go_enter Tryz.func59, Tryz.ntmps59
  go_wp2
  go_ret2
  exact ⟨rfl, rfl⟩
abbrev TimB (most : Int) (v : Value) : Obj := .cells #[.int .i64 most, v] 224 (0, 0)
theorem timer_New (n : Int) (w : World) (h : 1 ≤ n ∧ n ≤ 24) :
    Calls Tryz.prog 60 #[.int .i64 n] w fun e w' => e = .returned (.tuple #[.pointer (some ⟨w.heap.size, 0, none⟩), .int .i64 0]) ∧ w' = w.alloc (TimB n (.slice none 0 0)) := by
  have h1 : decide (n < 1) = false := by simp; omega
  have h2 : decide (24 < n) = false := by simp; omega
  clear h
  go_enter Tryz.func60, Tryz.ntmps60
  go_wp2
  go_ret2
  exact ⟨rfl, rfl⟩

theorem info107 : (Tryz.prog.info? 107).map (fun i => (i.zero, i.size, i.bytes)) = some (some (.agg #[(.int .i64 0), (.string ⟨#[]⟩)]), 2, 24) := by kernel_rfl
set_option maxRecDepth 100000 in
theorem clone_keys (A : Option Addr) (c : Nat) (l : List S107) (w : World) (hc : Kd.C k107 w A l.length l) (hn : l.length ≤ c) (h5 : l.length ≤ 5) :
    Calls Tryz.prog 57 #[.slice A l.length c] w fun e w' => (∃ v, e = .returned v ∧ Kd.R k107 107 w' w.heap.size (fun _ => True) v l) ∧ Below w.heap.size w w' := by
  have HC := Aside0.mk hc
  clear hc
  have heq := fun (W : World) a n c => Go.Lib.run_eql_slice_nil (P := Tryz.prog) W 23 107 a n c 0 0 Tryz.underlying23
  cases A with
  | none =>
    have e0 : l = [] := by
      rcases Nat.eq_zero_or_pos l.length with h | h
      · exact List.eq_nil_of_length_eq_zero h
      · obtain ⟨ad, h, _⟩ := HC.out.2.2 h
        cases h
    subst e0
    go_enter Tryz.func57, Tryz.ntmps57
    go_wp2
    go_ret
    exact ⟨⟨_, rfl, Kd.R_nil _ _ _ _ _⟩, Below.refl _ _⟩
  | some ad =>
    obtain ⟨cs, hr, hcs⟩ := Rd.flat_of_C HC.out
    have HR := Aside0.mk hr
    have HS := Aside0.mk hcs
    clear hr hcs
    go_enter Tryz.func57, Tryz.ntmps57
    go_wp2_with (at_builtin; refine Rd.wpList_append_flat rfl (.tmp 5) (.tmp 6) 23 rfl w.heap.size 107 (.agg #[(.int .i64 0), (.string ⟨#[]⟩)]) 2 24 Tryz.underlying23 info107 rfl (by decide) _ 0 [] rfl ?own (some ad) l.length c cs rfl HR.out.1 ?flat (Rd.flat_one HR.out) (by unfold maxLen; omega) (by omega) ?base ?_; (case own => exact ⟨rfl, .inr ⟨w.heap.size, 0, #[], rfl, Nat.le_refl _, blk_new _ _, Nat.le_refl _, by decide, rfl, rfl⟩⟩); (case flat => exact Rd.cells_below HS.out (below_alloc (Below.refl _ _) _)); (case base => simp); intro v' w' ho hg _)
    have hb : Below w.heap.size w w' := Below.grown (below_alloc (Below.refl _ _) _) hg (by simp) (fun k hk => Nat.le_of_eq (Option.some.inj hk))
    have HO := Aside0.mk ho
    clear ho hg
    go_ret
    refine ⟨?_, hb⟩
    have ho := HO.out
    rw [Nat.zero_add, List.nil_append] at ho
    exact ⟨_, rfl, fun _ _ => trivial, cs, ho, HR.out.imp_ fun x cells hK => by obtain rfl := k107_open hK; exact k107_mkM _ _ _ _⟩
end Go.Proofs.YthbngidbfhcdaaaGreat.C
/- A new coordinator. -/
namespace Go.Proofs.YthbngidbfhcdaaaGreat.C
open Go.RowKit Go.Maps Go.Proofs.YthbngidbfhcdaaaGreat.Mem Go.Proofs.YthbngidbfhcdaaaGreatW.PrintWords Go.Proofs.YthbngidbfhcdaaaGreat.PCoordScript
set_option linter.unusedVariables false
set_option linter.unusedSimpArgs false
abbrev coCells (c : Cfg) (cv : Value) (now : Int) (l s t q told : Value) : Array Value := #[.slice c.A0 c.words.length c.c0, .slice c.A1 c.cuts.length c.c1, .int .i64 c.wk, .int .i64 c.cp, .int .i64 c.sl, .int .i64 c.ba, .int .i64 c.le, .int .i64 c.he, .int .i64 c.fi, .int .i64 c.ca, .int .i64 c.ji, .int .i64 c.ne,
  cv, .int .i64 now, l, s, t, q, told]
abbrev CoB (c : Cfg) (cv : Value) (now : Int) (l s t q told : Value) : Obj := .cells (coCells c cv now l s t q told) 120 (0, 0)
/-- The configuration without its words. -/
def Cfg.bare (c : Cfg) (A1 : Option Addr) (c1 : Nat) : Cfg := { c with A0 := none, c0 := 0, words := [], A1 := A1, c1 := c1 }
abbrev dcopies : Kd (List Int) := Kd.slice 3 (Kd.int .i64)
def Cfg.allCopies (c : Cfg) (n : Nat) : List (List Int) := (List.range n).map fun s : Nat => c.copies s
theorem Cfg.bare_At {c : Cfg} {A1 : Option Addr} {c1 : Nat} {W : World} {base : Nat} {ok : Nat → Prop} (h : Kd.R k107 107 W base ok (.slice A1 c.cuts.length c1) c.cuts) (hs : ∀ x ∈ c.cuts, x.f1.size ≤ 9223372036854775807) : (c.bare A1 c1).At W :=
  { words := Kd.C_nil _ _, w_cap := Nat.le_refl _, cuts := (Kd.R_reads' h).2.2, c_cap := (Kd.R_reads' h).2.1, w_size := fun _ h => (by cases h), c_size := hs }
theorem Cfg.bare_May {c : Cfg} (h : c.May) (A1 : Option Addr) (c1 : Nat) : (c.bare A1 c1).May := ⟨⟨Nat.zero_le _, fun _ h => (by cases h), fun j a b h => (by simp [Cfg.bare] at h)⟩, h.2⟩
theorem info26 : (Tryz.prog.info? 26).map (fun i => (i.zero, i.size, i.bytes)) = some (some (.slice none 0 0), 1, 24) := by kernel_rfl
/-- Where a coordinator's parts lie. -/
structure CoIds where
  x : Nat
  m : Nat
  l : Nat
  s : Nat
  a : Nat
  b : Nat
  t : Nat
  A1 : Option Addr
  c1 : Nat
  cv : Value
abbrev kone : Kd (Int × Int) := Kd.pair (Kd.int .i64) (Kd.int .i64)
/-- How a coordinator stands: its time, its leases, its last ID, which slot has which ID and back, its timers, its queries' blocks, what was told. -/
structure CoG where
  now : Int
  L : Nat → Ls
  last : Int
  nof : Nat
  fof : Int → Option Int
  nat : Nat
  fat : Int → Option Int
  tv : Value
  tl : List (Int × Int)
  nq : Nat
  fq : Int → Option Nat
  dv : Value
  dl : List S58
structure CoSt (c : Cfg) (base : Nat) (I : CoIds) (S : CoG) (W : World) : Prop where
  co : W.heap[I.x]? = some (CoB (c.bare I.A1 I.c1) I.cv S.now (.pointer (some ⟨I.l, 0, none⟩)) (.pointer (some ⟨I.s, 0, none⟩)) (.pointer (some ⟨I.t, 0, none⟩)) (.map (some I.m)) S.dv)
  cuts : Kd.R k107 107 W base (fun _ => True) (.slice I.A1 c.cuts.length I.c1) c.cuts
  copies : Kd.R dcopies 26 W base (fun _ => True) I.cv (c.allCopies (c.cuts.length + 1))
  tab : W.heap[I.l]? = some (Tab c.wk c.le S.L)
  slot : W.heap[I.s]? = some (SlotB c.sl S.last I.a I.b)
  of_ : MapAt Tryz.prog 3 encI W I.a S.nof S.fof
  at_ : MapAt Tryz.prog 3 encI W I.b S.nat S.fat
  tim : W.heap[I.t]? = some (TimB 24 S.tv)
  rows : Kd.R kone 265 W base (fun _ => True) S.tv S.tl
  qs : MapAt Tryz.prog 3 encP W I.m S.nq S.fq
  told : Kd.R k58 58 W base (fun _ => True) S.dv S.dl
  ges : base ≤ I.x ∧ base ≤ I.m ∧ base ≤ I.l ∧ base ≤ I.s ∧ base ≤ I.a ∧ base ≤ I.b ∧ base ≤ I.t
  nes : I.a ≠ I.b ∧ I.a ≠ I.m ∧ I.b ≠ I.m
theorem no_maps (W : World) : AreMaps [] W := fun _ h => by cases h
/-- The types of a coordinator's rows. -/
def coTypes : List Nat := [120, 107, 26, 3, 217, 220, 224, 265, 58, 46]
theorem CoSt.frame {c : Cfg} {base : Nat} {I : CoIds} {S : CoG} {W W1 : World} {T : List Nat} (h : CoSt c base I S W) (ht : Turn T [] W W1) (hd : ∀ q ∈ coTypes, q ∉ T) : CoSt c base I S W1 :=
  { h with co := ht.blk h.co (hd _ (by decide)) List.not_mem_nil, cuts := ht.R (no_maps _) h.cuts (fun q hq => hd q (by revert q; decide)), copies := ht.R (no_maps _) h.copies (fun q hq => hd q (by revert q; decide)), tab := ht.blk h.tab (hd _ (by decide)) List.not_mem_nil,
           slot := ht.blk h.slot (hd _ (by decide)) List.not_mem_nil, of_ := h.of_.turn ht List.not_mem_nil, at_ := h.at_.turn ht List.not_mem_nil, tim := ht.blk h.tim (hd _ (by decide)) List.not_mem_nil, rows := ht.R (no_maps _) h.rows (fun q hq => hd q (by revert q; decide)),
           qs := h.qs.turn ht List.not_mem_nil, told := ht.R (no_maps _) h.told (fun q hq => hd q (by revert q; decide)) }
theorem CoSt.fresh {c : Cfg} {base : Nat} {I : CoIds} {S : CoG} {W W1 : World} (h : CoSt c base I S W) (hb : Below W.heap.size W W1) : CoSt c base I S W1 := h.frame (T := []) (Turn.fresh hb) (fun _ _ => List.not_mem_nil)
/-- The leases turn. -/
theorem CoSt.leases {c : Cfg} {base : Nat} {I : CoIds} {S : CoG} {W W1 : World} {L : Nat → Ls} (h : CoSt c base I S W) (ht : Turn [217] [] W W1) (hb : W1.heap[I.l]? = some (Tab c.wk c.le L)) : CoSt c base I { S with L := L } W1 :=
  { co := ht.blk h.co (by decide) List.not_mem_nil, cuts := ht.R (no_maps _) h.cuts (by decide), copies := ht.R (no_maps _) h.copies (by decide), tab := hb, slot := ht.blk h.slot (by decide) List.not_mem_nil, of_ := h.of_.turn ht List.not_mem_nil, at_ := h.at_.turn ht List.not_mem_nil,
    tim := ht.blk h.tim (by decide) List.not_mem_nil, rows := ht.R (no_maps _) h.rows (by decide), qs := h.qs.turn ht List.not_mem_nil, told := ht.R (no_maps _) h.told (by decide), ges := h.ges, nes := h.nes }
/-- The coordinator's own cells turn: its time. -/
theorem CoSt.tick {c : Cfg} {base : Nat} {I : CoIds} {S : CoG} {W : World} (h : CoSt c base I S W) (v : Int) : CoSt c base I { S with now := v } (W.setCell ⟨I.x, 13, none⟩ (.int .i64 v)) :=
  have ht : Turn [120] [] W (W.setCell ⟨I.x, 13, none⟩ (.int .i64 v)) := Turn.set h.co (by decide) _ _
  { co := blk_put h.co 13 _ rfl, cuts := ht.R (no_maps _) h.cuts (by decide), copies := ht.R (no_maps _) h.copies (by decide), tab := ht.blk h.tab (by decide) List.not_mem_nil, slot := ht.blk h.slot (by decide) List.not_mem_nil, of_ := h.of_.turn ht List.not_mem_nil, at_ := h.at_.turn ht List.not_mem_nil,
    tim := ht.blk h.tim (by decide) List.not_mem_nil, rows := ht.R (no_maps _) h.rows (by decide), qs := h.qs.turn ht List.not_mem_nil, told := ht.R (no_maps _) h.told (by decide), ges := h.ges, nes := h.nes }
def newG : CoG := ⟨0, fun _ => ⟨0, 0, 0⟩, 0, 0, fun _ => none, 0, fun _ => none, .slice none 0 0, [], 0, fun _ => none, .slice none 0 0, []⟩
/-- A coordinator that is being made. -/
structure NewSt (c : Cfg) (A1 : Option Addr) (c1 : Nat) (w W : World) (x m : Nat) (cv l s t : Value) (n : Nat) : Prop where
  below : Below w.heap.size w W
  box : W.heap[w.heap.size]? = some (.cells (c.bare A1 c1).cells 25 (0, 0))
  cuts : Kd.R k107 107 W w.heap.size (fun _ => True) (.slice A1 c.cuts.length c1) c.cuts
  co : W.heap[x]? = some (CoB (c.bare A1 c1) cv 0 l s t (.map (some m)) (.slice none 0 0))
  copies : Kd.R dcopies 26 W w.heap.size (fun _ => True) cv (c.allCopies n)
  map : MapAt Tryz.prog 3 Mem.encP W m 0 (fun _ => none)
  x_ge : w.heap.size ≤ x
  m_ge : w.heap.size ≤ m
theorem NewSt.below_step {c : Cfg} {A1 : Option Addr} {c1 : Nat} {w W W1 : World} {x m : Nat} {cv l s t : Value} {n : Nat} (h : NewSt c A1 c1 w W x m cv l s t n) (hb : Below W.heap.size W W1) : NewSt c A1 c1 w W1 x m cv l s t n :=
  { h with below := Go.Proofs.YthbngidbfhcdaaaGreatW.PrintWords.below_step h.below hb, box := blk_below h.box hb, cuts := Kd.R_below h.cuts hb, co := blk_below h.co hb, copies := Kd.R_below h.copies hb, map := h.map.keep (hb.block _ h.map.lt) }
theorem NewSt.append {c : Cfg} {A1 : Option Addr} {c1 : Nat} {w W W1 : World} {x m : Nat} {cv v1 l s t : Value} {n : Nat} (h : NewSt c A1 c1 w W x m cv l s t n) (hb : Below w.heap.size w W1) (hg : W.grownBy W1 cv.ownBlock)
    (hr : Kd.R dcopies 26 W1 w.heap.size (fun _ => True) v1 (c.allCopies n ++ [c.copies n])) : NewSt c A1 c1 w (W1.setCell ⟨x, 12, none⟩ v1) x m v1 l s t (n + 1) ∧ W1.cell? ⟨x, 12, none⟩ = some cv ∧ W1.frozen? ⟨x, 12, none⟩ = false := by
  have ht : Turn [26] [] W W1 := Turn.row h.copies hg (by decide)
  have hm : AreMaps [] W := fun _ h => by cases h
  have hco := ht.blk h.co (by decide) List.not_mem_nil
  have hs : Turn [120] [] W1 (W1.setCell ⟨x, 12, none⟩ v1) := Turn.set hco (by decide) _ _
  have hm1 : AreMaps [] W1 := fun _ h => by cases h
  refine ⟨⟨below_set hb h.x_ge, hs.blk (ht.blk h.box (by decide) List.not_mem_nil) (by decide) List.not_mem_nil, hs.R hm1 (ht.R hm h.cuts (by decide)) (by decide), blk_put hco 12 _ rfl, ?_, (h.map.turn ht List.not_mem_nil).turn hs List.not_mem_nil, h.x_ge, h.m_ge⟩, (blk_cell hco 12).trans rfl, blk_frozen hco 12⟩
  have e : c.allCopies (n + 1) = c.allCopies n ++ [c.copies n] := by simp [Cfg.allCopies, List.range_succ]
  rw [e]
  exact hs.R hm1 hr (by decide)
theorem NewSt.put {c : Cfg} {A1 : Option Addr} {c1 : Nat} {w W : World} {x m : Nat} {cv l s t : Value} {n : Nat} (h : NewSt c A1 c1 w W x m cv l s t n) (i : Nat) (u l' s' t' : Value)
    (e : (coCells (c.bare A1 c1) cv 0 l s t (.map (some m)) (.slice none 0 0)).setIfInBounds i u = coCells (c.bare A1 c1) cv 0 l' s' t' (.map (some m)) (.slice none 0 0)) : NewSt c A1 c1 w (W.setCell ⟨x, i, none⟩ u) x m cv l' s' t' n := by
  have hs : Turn [120] [] W (W.setCell ⟨x, i, none⟩ u) := Turn.set h.co (by decide) _ _
  have hm1 : AreMaps [] W := fun _ h => by cases h
  exact ⟨below_set h.below h.x_ge, hs.blk h.box (by decide) List.not_mem_nil, hs.R hm1 h.cuts (by decide), blk_put h.co i _ e, hs.R hm1 h.copies (by decide), h.map.turn hs List.not_mem_nil, h.x_ge, h.m_ge⟩
/-- A row or a map that lies there stays, where a cell of the coordinator's turns. -/
theorem NewSt.still {c : Cfg} {A1 : Option Addr} {c1 : Nat} {w W : World} {x m : Nat} {cv l s t : Value} {n : Nat} (h : NewSt c A1 c1 w W x m cv l s t n) (i : Nat) (u : Value) : Turn [120] [] W (W.setCell ⟨x, i, none⟩ u) := Turn.set h.co (by decide) _ _
set_option maxHeartbeats 4000000 in
set_option maxRecDepth 100000 in
theorem coord_New (c : Cfg) (w : World) (hc : c.At w) (hm : c.May) :
    Calls Tryz.prog 15 #[c.val] w fun e w' => ∃ I, e = .returned (.tuple #[.pointer (some ⟨I.x, 0, none⟩), .int .i64 0]) ∧ CoSt c w.heap.size I newG w' ∧ Below w.heap.size w w' := by
  have HC := Aside0.mk hc
  have HM := Aside0.mk hm
  have h5 := hm.2.1.1
  obtain ⟨⟨hk1, hk2⟩, ⟨hp1, hp2, _⟩, hsl, _, hle, _⟩ := hm.nums
  clear hc hm
  have hmm := @run_makeMap Tryz.prog
  go_enter Tryz.func15, Tryz.ntmps15
  go_upto_region 4 with (first
    | (go_at_call 13; refine (place_May c _ (HC.out.below (below_alloc (Below.refl _ _) _))).mono ?_; rintro e w1 ⟨⟨r, rfl, hr⟩, hb⟩; obtain rfl := hr.2 HM.out; clear hr; obtain ⟨x0, x1, x2, x3, x4, x5, x6, x7, x8, x9, x10, x11⟩ := Cfg.read (Cfg.kept hb).2; have HB := Aside0.mk hb; clear hb)
    | (go_at_call 57; refine (clone_keys _ _ _ _ (Kd.C_below HC.out.cuts (Cfg.kept HB.out).1) HC.out.c_cap (by omega)).mono ?_; rintro e w2 ⟨⟨v, rfl, hv⟩, hb⟩; obtain ⟨A1, c1, rfl⟩ := Kd.R_slice hv; clear x0 x1 x2 x3 x4 x5 x6 x7 x8 x9 x10 x11; have HV := Aside0.mk (Kd.R_lower hv (Cfg.kept HB.out).1.size); have HB2 := Aside0.mk (below_step HB.out hb); clear hb hv HB;
         obtain ⟨x0, x1, x2, x3, x4, x5, x6, x7, x8, x9, x10, x11⟩ := Cfg.read (Cfg.kept HB2.out).2; have hkb := (Cfg.kept HB2.out).2; have hfz0 := blk_frozen hkb 0; have hfz1 := blk_frozen hkb 1))
  refine Rd.gen_wp (R := fun W => Below w.heap.size w W ∧ W.heap[w.heap.size]? = some (.cells (c.bare A1 c1).cells 25 (0, 0)) ∧ Kd.R k107 107 W w.heap.size (fun _ => True) (.slice A1 c.cuts.length c1) c.cuts) ⟨below_set (below_set (Cfg.kept HB2.out).1 (Nat.le_refl _)) (Nat.le_refl _), blk_put (blk_put hkb 0 _ rfl) 1 _ rfl, ?_⟩ ?_
  · have hm0 : AreMaps [] w2 := fun _ h => by cases h
    have hm1 : ∀ W : World, AreMaps [] W := fun W _ h => by cases h
    have t0 : Turn [25] [] w2 (w2.setCell ⟨w.heap.size, 0, none⟩ (.slice none 0 0)) := Turn.set hkb (by decide) _ _
    have t1 := Turn.set (T := [25]) (B := []) (blk_put hkb 0 (.slice none 0 0) rfl) (by decide) 1 (.slice A1 c.cuts.length c1)
    exact t1.R (hm1 _) (t0.R hm0 HV.out (by decide)) (by decide)
  clear x0 x1 x2 x3 x4 x5 x6 x7 x8 x9 x10 x11 HB2 HV hkb hfz0 hfz1
  rintro W ⟨hB, hb, hV⟩
  obtain ⟨x0, x1, x2, x3, x4, x5, x6, x7, x8, x9, x10, x11⟩ := Cfg.read hb
  go_upto_region 5 with fail
  refine Rd.gen_wp (R := fun W2 => Below w.heap.size w W2 ∧ W2.heap[w.heap.size]? = some (.cells (c.bare A1 c1).cells 25 (0, 0)) ∧ Kd.R k107 107 W2 w.heap.size (fun _ => True) (.slice A1 c.cuts.length c1) c.cuts ∧
     W2.heap[W.heap.size + 1]? = some (CoB (c.bare A1 c1) (.slice none 0 0) 0 (.pointer none) (.pointer none) (.pointer none) (.map (some W.heap.size)) (.slice none 0 0)) ∧ MapAt Tryz.prog 3 Mem.encP W2 W.heap.size 0 (fun _ => none)) ⟨below_alloc (below_alloc hB _) _, blk_alloc (blk_alloc hb _) _, Kd.R_alloc (Kd.R_alloc hV _) _, Rd.blk_at (by simp), ?_⟩ ?_
  · exact (MapAt.new W).keep (Below.heap_alloc _ _ _ (by simp))
  clear x0 x1 x2 x3 x4 x5 x6 x7 x8 x9 x10 x11
  have hxge : w.heap.size ≤ W.heap.size + 1 := Nat.le_succ_of_le hB.size
  have hm0 : w.heap.size ≤ W.heap.size := hB.size
  generalize W.heap.size + 1 = x at *
  generalize W.heap.size = m at *
  clear hV hb hB W
  rintro W ⟨hB, hb, hV, hx, hm⟩
  obtain ⟨x0, x1, x2, x3, x4, x5, x6, x7, x8, x9, x10, x11⟩ := Cfg.read hb
  have HN : Aside0 (NewSt c A1 c1 w W x m (.slice none 0 0) (.pointer none) (.pointer none) (.pointer none) 0) := ⟨⟨hB, hb, hV, hx, Kd.R_nil _ _ _ _ _, hm, hxge, hm0⟩⟩
  clear hB hb hV hx hm
  go_wp2_with (go_at_call 21; refine (place_Shards (c.bare A1 c1) _ (Cfg.bare_At HN.out.cuts HC.out.c_size) (Cfg.bare_May HM.out _ _)).mono ?_; rintro e W1 ⟨rfl, hb⟩; have HN1 := Aside0.mk (HN.out.below_step hb); clear HN hb)
  clear x0 x1 x2 x3 x4 x5 x6 x7 x8 x9 x10 x11
  go_loopw [20] (fun v wr => ∃ k : Int, v = .int .i64 k ∧ 0 ≤ k ∧ k ≤ c.cuts.length + 1 ∧ Aside0 (∃ cv, NewSt c A1 c1 w wr x m cv (.pointer none) (.pointer none) (.pointer none) k.toNat)) (fun v _ => (c.cuts.length + 1) - (intOf v).toNat)
  case atStart => exact ⟨0, rfl, by omega, by omega, ⟨_, HN1.out⟩⟩
  case round =>
    obtain ⟨k, rfl, hk0, hk, HN⟩ := hrel
    clear HN1
    have hbl : (c.bare A1 c1).cuts.length = c.cuts.length := rfl
    rcases Mem.dec_or (k < (c.cuts.length : Int) + 1) with hlt | hlt
    · have hlt' := of_decide_eq_true hlt
      obtain ⟨cv, hN⟩ := HN.out
      have HN1 := Aside0.mk hN
      obtain ⟨A2, c2, rfl⟩ := Kd.R_slice hN.copies
      clear HN hN
      obtain ⟨x0, x1, x2, x3, x4, x5, x6, x7, x8, x9, x10, x11⟩ := Cfg.read HN1.out.box
      have hx12 := (blk_cell HN1.out.co 12).trans rfl
      go_upto_region 8 with fail
      have hx12d : wr.drew.cell? ⟨x, 12, none⟩ = some (.slice A2 (c.allCopies k.toNat).length c2) := hx12
      have hlen : Aside0 ((c.allCopies k.toNat).length = k.toNat) := ⟨by simp [Cfg.allCopies]⟩
      go_region_law (first
        | (go_simp; go_at_call 22; refine (place_Copies (c.bare A1 c1) k _ (Cfg.bare_At (Kd.R_drew HN1.out.cuts) HC.out.c_size) (Cfg.bare_May HM.out _ _) hk0 (by omega)).mono ?_; rintro e w3 ⟨v, rfl, hv, hb⟩; obtain ⟨A3, c3, rfl⟩ := Kd.R_slice hv; have HN3 := Aside0.mk (HN1.out.below_step (below_step (below_drew1 (Below.refl _ _)) hb)); have HV := Aside0.mk (Kd.R_lower (Kd.R_mono (Kd.R_bound hv) (ok' := fun b => wr.heap.size ≤ b) (fun b h => h.2.1)) HN1.out.below.size); have hx12' : w3.cell? ⟨x, 12, none⟩ = some (.slice A2 (c.allCopies k.toNat).length c2) := (blk_cell HN3.out.co 12).trans rfl; have hx12a : ∀ o, (w3.alloc o).cell? ⟨x, 12, none⟩ = some (.slice A2 (c.allCopies k.toNat).length c2) := fun o => (blk_cell (blk_alloc HN3.out.co o) 12).trans rfl; clear hv hb)
        | (refine Kd.R_append_step dcopies w.heap.size rfl (.tmp 27) (.tmp 31) 115 26 (.slice none 0 0) 24 rfl Tryz.underlying115 info26 rfl (by decide) (by omega) _ (c.allCopies k.toNat) (c.copies k) [.slice A3 (c.copies k).length c3] (fun _ => True) (fun b => wr.heap.size ≤ b) rfl rfl ⟨_, rfl, HV.out⟩ (fun b hb => ⟨trivial, fun e => absurd (Kd.R_lt HN1.out.copies b e.symm) (Nat.not_lt.2 hb)⟩) (fun _ _ => trivial) HN3.out.copies HN3.out.below HN3.out.below.size (by rw [hlen.out]; omega) ?_; intro v1 w4 hr hb hg _; obtain ⟨A4, c4, rfl⟩ := Kd.R_slice hr; obtain ⟨hn, hx12'', hf12⟩ := NewSt.append HN3.out hb hg (by rw [Int.toNat_of_nonneg hk0]; exact hr); simp only [List.length_append, List.length_cons, List.length_nil, Nat.zero_add] at hn; have HN5 := Aside0.mk hn; clear hn hr hb hg HN3 HV))
      all_goals
        go_wp2
        refine ⟨⟨_, _, _, _, _, _, _, _, _, _, _, _, _, _, _, _, _, ⟨k + 1, ?rel1, ?rel2, ?rel3, ?rel4⟩, rfl⟩, ?meas⟩
        case rel1 => rfl
        case rel2 => omega
        case rel3 => omega
        case rel4 =>
          rw [show (k + 1).toNat = k.toNat + 1 from by omega]
          exact ⟨_, HN5.out⟩
        case meas =>
          simp [intOf]
          omega
    · have e : k = c.cuts.length + 1 := by simp at hlt; omega
      subst e
      obtain ⟨cv, hN⟩ := HN.out
      have hne := blk_ne hN.co hN.box (by decide)
      have HN1 := Aside0.mk hN
      clear HN hN
      have R1 : ∀ W l s t, NewSt c A1 c1 w W x m cv l s t ((c.cuts.length : Int) + 1).toNat → _ := fun W l s t h => Cfg.read h.box
      obtain ⟨x0, x1, x2, x3, x4, x5, x6, x7, x8, x9, x10, x11⟩ := R1 _ _ _ _ HN1.out
      go_upto_region 11 with (go_at_call 58; refine (lease_New _ _ _ ⟨⟨hk1, hk2⟩, hle⟩).mono ?_; rintro e W2 ⟨rfl, hw⟩; have hN2 := HN1.out.below_step (hw ▸ below_alloc (Below.refl _ _) _ : Below wr.heap.size wr W2); have HT : Aside0 (W2.heap[wr.heap.size]? = some (Tab c.wk c.le fun _ => ⟨0, 0, 0⟩)) := ⟨hw ▸ blk_new _ _⟩; have y14 : W2.cell? ⟨x, 14, none⟩ = some (.pointer none) := (blk_cell hN2.co 14).trans rfl; have f14 := blk_frozen hN2.co 14; have HN2 := Aside0.mk hN2; clear hN2 hw)
      refine Rd.gen_wp (R := fun W => NewSt c A1 c1 w W x m cv (.pointer (some ⟨wr.heap.size, 0, none⟩)) (.pointer none) (.pointer none) ((c.cuts.length : Int) + 1).toNat ∧ W.heap[wr.heap.size]? = some (Tab c.wk c.le fun _ => ⟨0, 0, 0⟩))
        ⟨HN2.out.put 14 _ _ _ _ rfl, (HN2.out.still 14 _).blk HT.out (by decide) List.not_mem_nil⟩ ?_
      have hlge : w.heap.size ≤ wr.heap.size := HN1.out.below.size
      clear HN1 HN2 HT y14 f14 x0 x1 x2 x3 x4 x5 x6 x7 x8 x9 x10 x11 hne
      generalize wr.heap.size = lb at *
      rintro W3 ⟨hN, hT⟩
      obtain ⟨x0, x1, x2, x3, x4, x5, x6, x7, x8, x9, x10, x11⟩ := R1 _ _ _ _ hN
      have HN3 := Aside0.mk hN
      have HT := Aside0.mk hT
      clear hN hT
      go_upto_region 12 with (go_at_call 59; refine (slots_New _ _ hsl).mono ?_; rintro e W4 ⟨rfl, hw⟩; have hbe := (hw ▸ below_alloc (below_alloc (below_alloc (Below.refl _ _) _) _) _ : Below W3.heap.size W3 W4); have hN4 := HN3.out.below_step hbe; have HT4 := Aside0.mk (blk_below HT.out hbe); have HS : Aside0 (W4.heap[W3.heap.size + 2]? = some (SlotB c.sl 0 W3.heap.size (W3.heap.size + 1)) ∧ MapAt Tryz.prog 3 encI W4 W3.heap.size 0 (fun _ => none) ∧ MapAt Tryz.prog 3 encI W4 (W3.heap.size + 1) 0 (fun _ => none)) := ⟨by subst hw; exact ⟨Rd.blk_at (by simp), ((MapAt.new W3).keep (Below.heap_alloc _ _ _ (by simp))).keep (Below.heap_alloc _ _ _ (by simp; omega)), ((show MapAt Tryz.prog 3 encI ((W3.alloc (.map #[] 0)).alloc (.map #[] 0)) (W3.heap.size + 1) 0 (fun _ => none) from by have := MapAt.new (P := Tryz.prog) (k := 3) (E := encI) (W3.alloc (.map #[] 0)); simpa using this).keep (Below.heap_alloc _ _ _ (by simp)))⟩⟩; have y15 : W4.cell? ⟨x, 15, none⟩ = some (.pointer none) := (blk_cell hN4.co 15).trans rfl; have f15 := blk_frozen hN4.co 15; have HN4 := Aside0.mk hN4; clear hN4 hw hbe)
      refine Rd.gen_wp (R := fun W => NewSt c A1 c1 w W x m cv (.pointer (some ⟨lb, 0, none⟩)) (.pointer (some ⟨W3.heap.size + 2, 0, none⟩)) (.pointer none) ((c.cuts.length : Int) + 1).toNat ∧ W.heap[lb]? = some (Tab c.wk c.le fun _ => ⟨0, 0, 0⟩) ∧ 
         W.heap[W3.heap.size + 2]? = some (SlotB c.sl 0 W3.heap.size (W3.heap.size + 1)) ∧ MapAt Tryz.prog 3 encI W W3.heap.size 0 (fun _ => none) ∧ MapAt Tryz.prog 3 encI W (W3.heap.size + 1) 0 (fun _ => none))
        ⟨HN4.out.put 15 _ _ _ _ rfl, (HN4.out.still 15 _).blk HT4.out (by decide) List.not_mem_nil, (HN4.out.still 15 _).blk HS.out.1 (by decide) List.not_mem_nil, HS.out.2.1.turn (HN4.out.still 15 _) List.not_mem_nil, HS.out.2.2.turn (HN4.out.still 15 _) List.not_mem_nil⟩ ?_
      have hsge : w.heap.size ≤ W3.heap.size := HN3.out.below.size
      have hmsb : m < W3.heap.size := HN3.out.map.lt
      clear HN3 HN4 HT HT4 HS y15 f15 x0 x1 x2 x3 x4 x5 x6 x7 x8 x9 x10 x11
      generalize W3.heap.size = sb at *
      rintro W5 ⟨hN, hT, hS, hf, ha⟩
      have HN5 := Aside0.mk hN
      have HX : Aside0 (W5.heap[lb]? = some (Tab c.wk c.le fun _ => ⟨0, 0, 0⟩) ∧ W5.heap[sb + 2]? = some (SlotB c.sl 0 sb (sb + 1)) ∧ MapAt Tryz.prog 3 encI W5 sb 0 (fun _ => none) ∧ MapAt Tryz.prog 3 encI W5 (sb + 1) 0 (fun _ => none)) := ⟨⟨hT, hS, hf, ha⟩⟩
      clear hN hT hS hf ha
      go_wp2_with (go_at_call 60; refine (timer_New _ _ (by omega)).mono ?_; rintro e W6 ⟨rfl, hw⟩; have hbe := (hw ▸ below_alloc (Below.refl _ _) _ : Below W5.heap.size W5 W6); have hN6 := HN5.out.below_step hbe; have HM : Aside0 (W6.heap[W5.heap.size]? = some (TimB 24 (.slice none 0 0))) := ⟨hw ▸ blk_new _ _⟩; have y16 : W6.cell? ⟨x, 16, none⟩ = some (.pointer none) := (blk_cell hN6.co 16).trans rfl; have f16 := blk_frozen hN6.co 16; have HN6 := Aside0.mk hN6; have HBE := Aside0.mk hbe; clear hN6 hw hbe)
      go_ret2
      have hNF := HN6.out.put 16 (.pointer (some ⟨W5.heap.size, 0, none⟩)) _ _ _ rfl
      have hs := HN6.out.still 16 (.pointer (some ⟨W5.heap.size, 0, none⟩))
      have hx1 := hs.blk (blk_below HX.out.1 HBE.out) (by decide) List.not_mem_nil
      have hx2 := hs.blk (blk_below HX.out.2.1 HBE.out) (by decide) List.not_mem_nil
      have hx3 := (HX.out.2.2.1.keep (HBE.out.block _ HX.out.2.2.1.lt)).turn hs List.not_mem_nil
      have hx4 := (HX.out.2.2.2.keep (HBE.out.block _ HX.out.2.2.2.lt)).turn hs List.not_mem_nil
      have hx5 := hs.blk HM.out (by decide) List.not_mem_nil
      have e : ((c.cuts.length : Int) + 1).toNat = c.cuts.length + 1 := by omega
      rw [e] at hNF
      have h5ge := HN5.out.below.size
      refine ⟨⟨x, m, lb, sb + 2, sb, sb + 1, W5.heap.size, A1, c1, cv⟩, rfl, ⟨hNF.co, hNF.cuts, hNF.copies, hx1, hx2, hx3, hx4, hx5, Kd.R_nil _ _ _ _ _, hNF.map, Kd.R_nil _ _ _ _ _, ⟨hNF.x_ge, hNF.m_ge, hlge, Nat.le_trans hsge (Nat.le_add_right _ 2), hsge, Nat.le_trans hsge (Nat.le_add_right _ 1), h5ge⟩, ⟨by simp, fun h => by have h : sb = m := h; omega, fun h => by have h : sb + 1 = m := h; omega⟩⟩, hNF.below⟩
end Go.Proofs.YthbngidbfhcdaaaGreat.C
/- A new merge. -/
namespace Go.Proofs.YthbngidbfhcdaaaGreat.C
open Go.RowKit Go.Maps Go.Proofs.YthbngidbfhcdaaaGreat.Mem Go.Proofs.YthbngidbfhcdaaaGreatW.PrintWords Go.Proofs.YthbngidbfhcdaaaGreat.PCoordScript
set_option linter.unusedVariables false
set_option linter.unusedSimpArgs false
theorem infoSh : (Tryz.prog.info? 235).map (fun i => (i.zero, i.size, i.bytes)) = some (some (.agg #[.int .i64 0, .int .i64 0, .bool false, .bool false, .int .i64 0, .string ⟨#[]⟩, .slice none 0 0]), 7, 72) := by kernel_rfl
/-- A shard of a new merge. -/
def newSh (d : Int) : S172 := ⟨d, 0, decide (d < 0), false, ⟨0, ⟨#[]⟩⟩, []⟩
abbrev MergeB (n : Int) (v told : Value) : Obj := .cells #[.int .i64 n, v, told] 233 (0, 0)
/-- Shards that are new: nothing heard, nothing waits. -/
abbrev newCells (d : Int) : List Value := [.int .i64 d, .int .i64 0, .bool (decide (d < 0)), .bool false, .int .i64 0, .string ⟨#[]⟩, .slice none 0 0]
def kNew : Kd Int where
  sz := 7
  E := []
  K := fun _ x cs => cs = newCells x
  M := fun _ _ _ x cs => cs = newCells x
  K_len := fun h => by rw [h]; rfl
  K_one := fun h u hu => by
    rw [h] at hu
    simp only [newCells, List.mem_cons, List.not_mem_nil, or_false] at hu
    rcases hu with rfl | rfl | rfl | rfl | rfl | rfl | rfl <;> rfl
  K_below := fun _ h => h
  K_of_M := fun h => h
  M_mono := fun _ h => h
  M_bound := fun h => h
  M_move := fun _ h => h
  M_lower := fun _ h => h
structure NewM (w W : World) (g : Nat) (n : Int) (v : Value) (l : List Int) : Prop where
  below : Below w.heap.size w W
  ge : w.heap.size ≤ g
  box : W.heap[g]? = some (MergeB n v (.slice none 0 0))
  rows : Kd.R kNew 235 W w.heap.size (fun _ => True) v l
theorem NewM.append {w W W1 : World} {g : Nat} {n : Int} {v v1 : Value} {l : List Int} {d : Int} (h : NewM w W g n v l) (hb : Below w.heap.size w W1) (hg : W.grownBy W1 v.ownBlock)
    (hr : Kd.R kNew 235 W1 w.heap.size (fun _ => True) v1 (l ++ [d])) : NewM w (W1.setCell ⟨g, 1, none⟩ v1) g n v1 (l ++ [d]) ∧ W1.cell? ⟨g, 1, none⟩ = some v ∧ W1.frozen? ⟨g, 1, none⟩ = false := by
  have ht : Turn [235] [] W W1 := Turn.row h.rows hg (by decide)
  have hco := ht.blk h.box (by decide) List.not_mem_nil
  have hs : Turn [233] [] W1 (W1.setCell ⟨g, 1, none⟩ v1) := Turn.set hco (by decide) _ _
  refine ⟨⟨below_set hb h.ge, h.ge, blk_put hco 1 _ rfl, ?_⟩, (blk_cell hco 1).trans rfl, blk_frozen hco 1⟩
  exact hs.R (no_maps _) hr (by decide)
set_option maxRecDepth 100000 in
set_option maxHeartbeats 1000000 in
theorem merge_New (A : Option Addr) (c : Nat) (l : List Int) (n : Int) (w : World) (hc : Kd.C (Kd.int .i64) w A l.length l) (hn : l.length ≤ c) (h1 : 1 ≤ l.length) (h6 : l.length ≤ 6) (hn1 : 1 ≤ n ∧ n ≤ 10) :
    Calls Tryz.prog 65 #[.slice A l.length c, .int .i64 n] w fun e w' => ∃ g v, e = .returned (.tuple #[.pointer (some ⟨g, 0, none⟩), .int .i64 0]) ∧ NewM w w' g n v l := by
  have HC := Aside0.mk hc
  clear hc
  have d1 : ((l.length : Int) == 0) = false := beq_eq_false_iff_ne.2 (by omega)
  have d2 : decide ((6 : Int) < l.length) = false := by simp; omega
  have d3 : decide (n < 1) = false := by simp; omega
  have d4 : decide (10 < n) = false := by simp; omega
  go_enter Tryz.func65, Tryz.ntmps65
  go_wp2
  go_loopw [30] (fun v wr => ∃ k : Int, v = .int .i64 k ∧ 0 ≤ k ∧ k ≤ l.length ∧ Aside0 (∃ sv, NewM w wr w.heap.size n sv (l.take k.toNat))) (fun v _ => l.length - (intOf v).toNat)
  case atStart => exact ⟨0, rfl, by omega, by omega, ⟨_, ⟨below_alloc (Below.refl _ _) _, Nat.le_refl _, blk_new _ _, by simpa using Kd.R_nil _ _ _ _ _⟩⟩⟩
  case round =>
    obtain ⟨k, rfl, hk0, hk, HN⟩ := hrel
    rcases Mem.dec_or (k < (l.length : Int)) with hlt | hlt
    · have hlt' : k < (l.length : Int) := of_decide_eq_true hlt
      obtain ⟨sv, hN⟩ := HN.out
      obtain ⟨A2, c2, rfl⟩ := Kd.R_slice hN.rows
      obtain ⟨ad, rfl, hx0⟩ := Kd.at_int HC.out k hk0 hlt'
      replace hx0 := (hN.below.cell (World.block_lt_of_cell? w _ hx0)).trans hx0
      obtain ⟨_, ht, _⟩ := snoc_at (0 : Int) hk0 hlt'
      have HT : Aside0 (l.take (k + 1).toNat = l.take k.toNat ++ [Go.Proofs.YthbngidbfhcdaaaGreatW.PrintWords.rd l k]) := ⟨ht⟩
      have hbd : Aside0 ((l.take k.toNat).length ≤ 6) := ⟨by rw [List.length_take]; omega⟩
      clear HN ht
      generalize l.take k.toNat = ls at *
      have y1 : wr.cell? ⟨w.heap.size, 1, none⟩ = _ := (blk_cell hN.box 1).trans rfl
      have f1 := blk_frozen hN.box 1
      have hlg := blk_lt hN.box
      have HN1 := Aside0.mk hN
      clear hN
      generalize Go.Proofs.YthbngidbfhcdaaaGreatW.PrintWords.rd l k = d at *
      go_wp2_with (at_builtin; refine Kd.R_append kNew (w0 := w) w.heap.size rfl (.tmp 38) (.tmp 43) 231 235 (.agg #[.int .i64 0, .int .i64 0, .bool false, .bool false, .int .i64 0, .string ⟨#[]⟩, .slice none 0 0]) 72 rfl Tryz.underlying231 infoSh rfl (by decide) (by omega) _ ls d (newCells d) (fun _ => True) (fun _ => False) rfl rfl rfl (fun _ h => h.elim) (fun _ _ => trivial) HN1.out.rows HN1.out.below HN1.out.below.size (by have := hbd.out; omega) ?_; intro v1 w4 hr hb hg _; obtain ⟨A4, c4, rfl⟩ := Kd.R_slice hr; obtain ⟨hn', hx12, hf12⟩ := NewM.append HN1.out hb hg hr; simp only [List.length_append, List.length_cons, List.length_nil, Nat.zero_add] at hn'; have HN5 := Aside0.mk hn'; clear hn' hr hb hg)
      refine ⟨⟨k + 1, rfl, by omega, by omega, ⟨_, by rw [HT.out]; exact HN5.out⟩⟩, ?_⟩
      simp [intOf]
      omega
    · have e : k = l.length := by simp at hlt; omega
      obtain ⟨sv, hN⟩ := HN.out
      rw [e, Int.toNat_natCast, List.take_length] at hN
      clear HN
      go_wp2
      go_ret2
      exact ⟨_, _, rfl, hN⟩
end Go.Proofs.YthbngidbfhcdaaaGreat.C
/- What a merge says of one shard. -/
namespace Go.Proofs.YthbngidbfhcdaaaGreat.C
open Go.RowKit Go.Maps Go.Proofs.YthbngidbfhcdaaaGreat.Mem Go.Proofs.YthbngidbfhcdaaaGreatW.PrintWords Go.Proofs.YthbngidbfhcdaaaGreat.PCoordScript
set_option linter.unusedVariables false
set_option linter.unusedSimpArgs false
theorem merge_get (g : Nat) (n : Int) (ad : Addr) (c : Nat) (l : List S172) (tv : Value) (i : Int) (w : World) (hb : w.heap[g]? = some (MergeB n (.slice (some ad) l.length c) tv)) (h0 : 0 ≤ i) (h1 : i < l.length) :
    Calls Tryz.prog 163 #[.pointer (some ⟨g, 0, none⟩), .int .i64 i] w fun e w' => e = .returned (.pointer (some (ad.add (i.toNat * 7)))) ∧ w' = w := by
  have c0 : w.cell? ⟨g, 1, none⟩ = some (.slice (some ad) l.length c) := (blk_cell hb 1).trans rfl
  have d1 : decide (i < 0) = false := by simp; omega
  have d2 : decide ((l.length : Int) ≤ i) = false := by simp; omega
  go_enter Tryz.func163, Tryz.ntmps163
  go_wp2
  go_ret
  exact ⟨rfl, rfl⟩
theorem merge_Seq (g : Nat) (n : Int) (ad : Addr) (c : Nat) (l : List S172) (tv : Value) (i : Int) (w : World) (hb : w.heap[g]? = some (MergeB n (.slice (some ad) l.length c) tv)) (hr : Kd.C k172 w (some ad) l.length l) (h0 : 0 ≤ i) (h1 : i < l.length) :
    Calls Tryz.prog 172 #[.pointer (some ⟨g, 0, none⟩), .int .i64 i] w fun e w' => e = .returned (.int .i64 (rd_T172 l i).f1) ∧ w' = w := by
  obtain ⟨ad', A6, c6, e, x0, x1, x2⟩ := at_T172 hr i h0 h1
  cases e
  have y1 := x2.1
  clear x2
  go_enter Tryz.func172, Tryz.ntmps172
  go_wp2_with (go_at_call 163; refine (merge_get g n ad c l tv i _ hb h0 h1).mono ?_; rintro e w1 ⟨rfl, rfl⟩)
  go_ret
  exact ⟨rfl, rfl⟩
end Go.Proofs.YthbngidbfhcdaaaGreat.C
/- Timers: which stands where. -/
namespace Go.Proofs.YthbngidbfhcdaaaGreat.C
open Go.RowKit Go.Maps Go.Proofs.YthbngidbfhcdaaaGreat.Mem Go.Proofs.YthbngidbfhcdaaaGreatW.PrintWords Go.Proofs.YthbngidbfhcdaaaGreat.PCoordScript
set_option linter.unusedVariables false
set_option linter.unusedSimpArgs false
def one (l : List (Int × Int)) (i : Int) : Int × Int := l.getD i.toNat (0, 0)
theorem at_one {w : World} {A : Option Addr} {n : Nat} {xs : List (Int × Int)} (h : Kd.C kone w A n xs) (i : Int) (h0 : 0 ≤ i) (h1 : i < n) : ∃ ad, A = some ad ∧ w.cell? (ad.add (i.toNat * 2)) = some (.int .i64 (one xs i).1) ∧ w.cell? ⟨(ad.add (i.toNat * 2)).block, (ad.add (i.toNat * 2)).off + 1, none⟩ = some (.int .i64 (one xs i).2) := by
  obtain ⟨ad, c, e, _, hK, hc0⟩ := Kd.C_get h (0, 0) i h0 h1
  have hc : ∀ j u, c[j]? = some u → w.cell? (ad.add (i.toNat * 2 + j)) = some u := hc0
  obtain ⟨c1, c2, rfl, rfl, rfl⟩ := hK
  exact ⟨ad, e, hc 0 _ rfl, by rw [← add_field _ _ 1 (by omega)]; exact hc 1 _ rfl⟩
/-- The first place from k on where a timer has the number id; -1: none. -/
def findFrom (l : List (Int × Int)) (id : Int) : Nat → Int → Int
  | 0, _ => -1
  | b + 1, k => if k < l.length then (if (one l k).2 = id then k else findFrom l id b (k + 1)) else -1
def findT (l : List (Int × Int)) (id : Int) : Int := findFrom l id l.length 0
set_option maxRecDepth 100000 in
theorem tim_pred (p : Nat) (x : Int × Int) (id : Int) (w : World) (hp : w.cell? ⟨p, 0, none⟩ = some (.int .i64 id)) :
    Calls Tryz.prog 197 #[.agg #[.int .i64 x.1, .int .i64 x.2], .pointer (some ⟨p, 0, none⟩)] w fun e w' => e = .returned (.bool (x.2 == id)) ∧ Below w.heap.size w w' := by
  have hlt := World.block_lt_of_cell? w _ hp
  go_enter Tryz.func197, Tryz.ntmps197
  go_wp2
  go_ret
  exact ⟨rfl, below_alloc (Below.refl _ _) _⟩
set_option maxRecDepth 100000 in
theorem tim_index (A : Option Addr) (c : Nat) (l : List (Int × Int)) (p : Nat) (id : Int) (w : World) (hc : Kd.C kone w A l.length l) (hn : l.length ≤ c) (hp : w.cell? ⟨p, 0, none⟩ = some (.int .i64 id)) (hl : l.length ≤ 24) :
    Calls Tryz.prog 196 #[.slice A l.length c, .func (.func 197) #[] #[.pointer (some ⟨p, 0, none⟩)]] w fun e w' => e = .returned (.int .i64 (findT l id)) ∧ Below w.heap.size w w' := by
  have HC := Aside0.mk hc
  have HP := Aside0.mk hp
  clear hc hp
  go_enter Tryz.func196, Tryz.ntmps196
  go_wp2
  go_loopw [8] (fun v wr => ∃ (k : Int) (b : Nat), v = .int .i64 k ∧ 0 ≤ k ∧ k ≤ l.length ∧ l.length ≤ k + b ∧ findFrom l id b k = findT l id ∧ Aside0 (Below w.heap.size w wr)) (fun v _ => l.length - (intOf v).toNat)
  case atStart => exact ⟨0, l.length, rfl, by omega, by omega, by omega, rfl, ⟨Below.refl _ _⟩⟩
  case round =>
    obtain ⟨k, b, rfl, hk0, hk, hkb, hf, HB⟩ := hrel
    have HF := Aside0.mk hf
    clear hf
    rcases Mem.dec_or (k < (l.length : Int)) with hlt | hlt
    · have hlt' : k < (l.length : Int) := of_decide_eq_true hlt
      obtain ⟨b, rfl⟩ : ∃ q, b = q + 1 := ⟨b - 1, by omega⟩
      obtain ⟨ad, rfl, hx0, hx1⟩ := at_one HC.out k hk0 hlt'
      replace hx0 := (HB.out.cell (World.block_lt_of_cell? w _ hx0)).trans hx0
      replace hx1 := (HB.out.cell (World.block_lt_of_cell? w _ hx1)).trans hx1
      have hp' : wr.cell? ⟨p, 0, none⟩ = some (.int .i64 id) := (HB.out.cell (World.block_lt_of_cell? w _ HP.out)).trans HP.out
      have HP' := Aside0.mk hp'
      clear hp'
      rcases Mem.bool_or ((one l k).2 == id) with hq | hq
      all_goals
        go_wp2_with (go_at_call 197; refine (tim_pred p (one l k) id _ HP'.out).mono ?_; rintro e w1 ⟨rfl, hb⟩; have HB1 := Aside0.mk (below_step HB.out hb); clear hb)
      · go_ret
        refine ⟨?_, HB1.out⟩
        rw [← HF.out]
        simp at hq
        simp [findFrom, hlt', hq]
      · go_roundw
        case rel =>
          refine ⟨k + 1, b, rfl, by omega, by omega, by omega, ?_, HB1⟩
          rw [← HF.out]
          simp at hq
          simp [findFrom, hlt', hq]
        case measure =>
          simp [intOf]
          omega
    · go_wp2
      go_ret
      refine ⟨?_, HB.out⟩
      rw [← HF.out]
      simp at hlt
      cases b with
      | zero => rfl
      | succ b => simp [findFrom]; omega
theorem findFrom_range (l : List (Int × Int)) (id : Int) : ∀ (b : Nat) (k : Int), 0 ≤ k → findFrom l id b k = -1 ∨ (k ≤ findFrom l id b k ∧ findFrom l id b k < l.length ∧ (one l (findFrom l id b k)).2 = id)
  | 0, k, h => .inl rfl
  | b + 1, k, h => by
    unfold findFrom
    split
    · split
      · rename_i h1 h2
        exact .inr ⟨Int.le_refl _, h1, h2⟩
      · rcases findFrom_range l id b (k + 1) (by omega) with h3 | ⟨h3, h4, h5⟩
        · exact .inl h3
        · exact .inr ⟨by omega, h4, h5⟩
    · exact .inl rfl
theorem timer_find (t : Nat) (most : Int) (A : Option Addr) (c : Nat) (l : List (Int × Int)) (id : Int) (w : World) (hb : w.heap[t]? = some (TimB most (.slice A l.length c))) (hc : Kd.C kone w A l.length l) (hn : l.length ≤ c) (hl : l.length ≤ 24) :
    Calls Tryz.prog 164 #[.pointer (some ⟨t, 0, none⟩), .int .i64 id] w fun e w' => e = .returned (.int .i64 (findT l id)) ∧ Below w.heap.size w w' := by
  have hlt := blk_lt hb
  have c0 : w.cell? ⟨t, 1, none⟩ = some (.slice A l.length c) := (blk_cell hb 1).trans rfl
  have HC : Aside0 (Kd.C kone (w.alloc (.cells #[.int .i64 id] 3 (0, 0))) A l.length l) := ⟨Kd.C_below hc (below_alloc (Below.refl _ _) _)⟩
  clear hb hc
  go_enter Tryz.func164, Tryz.ntmps164
  go_wp2_with (go_at_call 196; refine (tim_index A c l _ id _ HC.out hn ((blk_cell (blk_new _ _) 0).trans rfl) hl).mono ?_; rintro e w1 ⟨rfl, hb⟩)
  go_ret
  exact ⟨rfl, below_step (below_alloc (Below.refl _ _) _) hb⟩
/-- When the timer with the number id is due; whether it is there. -/
def atT (l : List (Int × Int)) (id : Int) : Int := if findT l id < 0 then 0 else (one l (findT l id)).1
def isT (l : List (Int × Int)) (id : Int) : Bool := decide (0 ≤ findT l id)
theorem timer_At (t : Nat) (most : Int) (A : Option Addr) (c : Nat) (l : List (Int × Int)) (id : Int) (w : World) (hb : w.heap[t]? = some (TimB most (.slice A l.length c))) (hc : Kd.C kone w A l.length l) (hn : l.length ≤ c) (hl : l.length ≤ 24) :
    Calls Tryz.prog 116 #[.pointer (some ⟨t, 0, none⟩), .int .i64 id] w fun e w' => e = .returned (.tuple #[.int .i64 (atT l id), .bool (isT l id)]) ∧ Below w.heap.size w w' := by
  have hr := findFrom_range l id l.length 0 (by omega)
  have HB := Aside0.mk hb
  have HC := Aside0.mk hc
  clear hb hc
  rcases Mem.dec_or (findT l id < 0) with d | d
  · go_enter Tryz.func116, Tryz.ntmps116
    go_wp2_with (go_at_call 164; refine (timer_find t most A c l id _ HB.out HC.out hn hl).mono ?_; rintro e w1 ⟨rfl, hb⟩)
    go_ret2
    simp at d
    exact ⟨by simp [atT, isT, d], hb⟩
  · have d' : 0 ≤ findT l id := by simp at d; omega
    have hlt : findT l id < l.length := by
      rcases hr with h | ⟨_, h, _⟩
      · exact absurd h (by unfold findT at d'; omega)
      · exact h
    obtain ⟨ad, rfl, hx0, hx1⟩ := at_one HC.out (findT l id) d' hlt
    have HX := Aside0.mk hx0
    clear hx0 hx1 hr
    go_enter Tryz.func116, Tryz.ntmps116
    go_wp2_with (go_at_call 164; refine (timer_find t most _ c l id _ HB.out HC.out hn hl).mono ?_; rintro e w1 ⟨rfl, hb⟩; have y1 : w1.cell? ⟨t, 1, none⟩ = some (.slice (some ad) l.length c) := (blk_cell (blk_below HB.out hb) 1).trans rfl; have y2 := (hb.cell (World.block_lt_of_cell? w _ HX.out)).trans HX.out)
    go_ret2
    exact ⟨by simp [atT, isT, d', show ¬ findT l id < 0 by omega], hb⟩
end Go.Proofs.YthbngidbfhcdaaaGreat.C
/- Rows of one's own, a cell of an element written in place. -/
namespace Go.Proofs.YthbngidbfhcdaaaGreat.Mem
open Go.RowKit Go.Proofs.YthbngidbfhcdaaaGreatW.PrintWords
theorem chunk_same {α : Type} (cs : List α) (i j sz : Nat) (u : α) (hj : j < sz) : ((cs.set (i * sz + j) u).drop (i * sz)).take sz = ((cs.drop (i * sz)).take sz).set j u := by
  rw [List.drop_set, if_neg (by omega), List.take_set]
  congr 1
  omega
theorem chunk_other {α : Type} (cs : List α) (i j k sz : Nat) (u : α) (hj : j < sz) (hk : k ≠ i) : ((cs.set (i * sz + j) u).drop (k * sz)).take sz = (cs.drop (k * sz)).take sz := by
  rw [List.drop_set]
  split
  · rfl
  · rename_i h
    rw [List.take_set]
    refine List.set_eq_of_length_le ?_
    rw [List.length_take]
    have h1 : k < i := by
      rcases Nat.lt_or_ge k i with h1 | h1
      · exact h1
      · have : i + 1 ≤ k := by omega
        have := Nat.mul_le_mul_right sz this
        rw [Nat.add_mul, Nat.one_mul] at this
        omega
    have := Nat.mul_le_mul_right sz (show k + 1 ≤ i from h1)
    rw [Nat.add_mul, Nat.one_mul] at this
    omega
theorem Reps.put {α : Type} {R : α → List Value → Prop} {sz : Nat} {ps : List α} {cs : List Value} (h : Reps R sz ps cs) (i j : Nat) (hj : j < sz) (u : Value) (p : α)
    (hp : ∀ q c, ps[i]? = some q → c.length = sz → R q c → R p (c.set j u)) : Reps R sz (ps.set i p) (cs.set (i * sz + j) u) := by
  refine ⟨by rw [List.length_set, List.length_set, h.1], fun k q hq => ?_⟩
  by_cases hk : k = i
  · subst hk
    have hlt : k < ps.length := by
      have := (List.getElem?_eq_some_iff.1 hq).1
      rwa [List.length_set] at this
    rw [List.getElem?_set_self hlt] at hq
    cases hq
    rw [chunk_same _ _ _ _ _ hj]
    refine hp _ _ (List.getElem?_eq_getElem hlt) ?_ (h.2 k _ (List.getElem?_eq_getElem hlt))
    rw [List.length_take, List.length_drop, h.1]
    have := Nat.mul_le_mul_right sz (show k + 1 ≤ ps.length from hlt)
    rw [Nat.add_mul, Nat.one_mul] at this
    omega
  · rw [List.getElem?_set_ne (Ne.symm hk)] at hq
    rw [chunk_other _ _ _ _ _ _ hj hk]
    exact h.2 k q hq
section
variable {α : Type} {R : α → List Value → Prop} {e : TypeId} {sz : Nat} {W : World} {base : Nat} {ps : List α} {g n cap : Nat}
theorem OwnRow.put (h : OwnRow R e sz W base (.slice (some ⟨g, 0, none⟩) n cap) ps) (i j : Nat) (hj : j < sz) (u : Value) (p : α) (hp : ∀ q c, ps[i]? = some q → c.length = sz → R q c → R p (c.set j u)) :
    OwnRow R e sz (W.setCell ⟨g, i * sz + j, none⟩ u) base (.slice (some ⟨g, 0, none⟩) n cap) (ps.set i p) := by
  obtain ⟨inner, ho, hr⟩ := h
  refine ⟨inner.set (i * sz + j) u, ?_, Reps.put hr i j hj u p hp⟩
  have hn : n = ps.length := by
    obtain ⟨A, c, he⟩ := own_slice ho
    cases he
    rfl
  subst hn
  rw [List.length_set]
  exact (ho.stored (i * sz + j) u).1
theorem own_blk {w : World} {xs : List Value} (h : w.ownsRow base e sz (.slice (some ⟨g, 0, none⟩) n cap) n xs) : ∃ cur, w.heap[g]? = some (.cells cur e (0, 0)) := own_at h rfl
theorem R_blk {d : Kd α} {ok : Nat → Prop} {xs : List α} (h : d.R e W base ok (.slice (some ⟨g, 0, none⟩) n cap) xs) : ∃ cur, W.heap[g]? = some (.cells cur e (0, 0)) := by
  obtain ⟨_, ho⟩ := Kd.R_own h
  exact own_at ho rfl
theorem frozen_of_blk {w : World} {g : Nat} {cur : Array Value} {t : TypeId} (h : w.heap[g]? = some (.cells cur t (0, 0))) : ∀ o, w.frozen? ⟨g, o, none⟩ = false := fun o => blk_frozen h o
end
end Go.Proofs.YthbngidbfhcdaaaGreat.Mem
/- Timers: what container/heap asks of the moments; container/heap's up, down, Fix, Push, Remove over them: the same moments in another order. -/
namespace Go.Proofs.YthbngidbfhcdaaaGreat.C
open Go.RowKit Go.Maps Go.Proofs.YthbngidbfhcdaaaGreat.Mem Go.Proofs.YthbngidbfhcdaaaGreatW.PrintWords Go.Proofs.YthbngidbfhcdaaaGreat.PCoordScript
set_option linter.unusedVariables false
set_option linter.unusedSimpArgs false
theorem meth_Len (n t : Nat) (v : Value) (w : World) (h : w.cell? ⟨t, 1, none⟩ = some v) : (method (n + 1) 260 (.pointer (some ⟨t, 1, none⟩)) "Len").run Tryz.prog w = .ok (232, v) w := by
  have e : (method (n + 1) 260 (.pointer (some ⟨t, 1, none⟩)) "Len").run Tryz.prog w = ((do let v ← loadVar 222 ⟨t, 1, none⟩; pure (232, v)) : Sem (FuncId × Value)).run Tryz.prog w := by kernel_rfl
  rw [e]
  go_simp
theorem meth_Less (n t : Nat) (v : Value) (w : World) (h : w.cell? ⟨t, 1, none⟩ = some v) : (method (n + 1) 260 (.pointer (some ⟨t, 1, none⟩)) "Less").run Tryz.prog w = .ok (233, v) w := by
  have e : (method (n + 1) 260 (.pointer (some ⟨t, 1, none⟩)) "Less").run Tryz.prog w = ((do let v ← loadVar 222 ⟨t, 1, none⟩; pure (233, v)) : Sem (FuncId × Value)).run Tryz.prog w := by kernel_rfl
  rw [e]
  go_simp
theorem meth_Swap (n t : Nat) (v : Value) (w : World) (h : w.cell? ⟨t, 1, none⟩ = some v) : (method (n + 1) 260 (.pointer (some ⟨t, 1, none⟩)) "Swap").run Tryz.prog w = .ok (234, v) w := by
  have e : (method (n + 1) 260 (.pointer (some ⟨t, 1, none⟩)) "Swap").run Tryz.prog w = ((do let v ← loadVar 222 ⟨t, 1, none⟩; pure (234, v)) : Sem (FuncId × Value)).run Tryz.prog w := by kernel_rfl
  rw [e]
  go_simp
theorem meth_Pop (n t : Nat) (w : World) : (method (n + 1) 260 (.pointer (some ⟨t, 1, none⟩)) "Pop").run Tryz.prog w = .ok (235, .pointer (some ⟨t, 1, none⟩)) w := by kernel_rfl
theorem meth_Push (n t : Nat) (w : World) : (method (n + 1) 260 (.pointer (some ⟨t, 1, none⟩)) "Push").run Tryz.prog w = .ok (236, .pointer (some ⟨t, 1, none⟩)) w := by kernel_rfl
theorem mom_Len (A : Option Addr) (n c : Nat) (w : World) :
    Calls Tryz.prog 232 #[.slice A n c] w fun e w' => e = .returned (.int .i64 n) ∧ w' = w := by
  go_enter Tryz.func232, Tryz.ntmps232
  go_wp2
  go_ret
  exact ⟨rfl, rfl⟩
def lessT (a b : Int × Int) : Bool := decide (or2 (icmp a.1 b.1) (icmp a.2 b.2) < 0)
set_option maxRecDepth 100000 in
theorem mom_Less (A : Option Addr) (c : Nat) (l : List (Int × Int)) (i j : Int) (w : World) (hc : Kd.C kone w A l.length l) (hi0 : 0 ≤ i) (hi : i < l.length) (hj0 : 0 ≤ j) (hj : j < l.length) :
    Calls Tryz.prog 233 #[.slice A l.length c, .int .i64 i, .int .i64 j] w fun e w' => e = .returned (.bool (lessT (one l i) (one l j))) ∧ Below w.heap.size w w' := by
  obtain ⟨ad, rfl, x0, x1⟩ := at_one hc i hi0 hi
  obtain ⟨ad', e, y0, y1⟩ := at_one hc j hj0 hj
  cases e
  have l0 := World.block_lt_of_cell? w _ x0
  clear hc
  go_enter Tryz.func233, Tryz.ntmps233
  go_wp2
  (refine Mem.still_tail 22 (by kernel_rfl) (by kernel_rfl) (R := (fun W => Below w.heap.size w W ∧ W.cell? (ad.add (i.toNat * 2)) = some (.int .i64 (one l i).1) ∧ W.cell? ⟨(ad.add (i.toNat * 2)).block, (ad.add (i.toNat * 2)).off + 1, none⟩ = some (.int .i64 (one l i).2) ∧
      W.cell? (ad.add (j.toNat * 2)) = some (.int .i64 (one l j).1) ∧ W.cell? ⟨(ad.add (j.toNat * 2)).block, (ad.add (j.toNat * 2)).off + 1, none⟩ = some (.int .i64 (one l j).2))) ⟨below_drew1 (Below.refl _ _), x0, x1, y0, y1⟩ ?_)
  clear x0 x1 y0 y1
  rintro W ⟨hB, x0, x1, y0, y1⟩
  (simp only [List.take_succ_cons, List.take_zero, List.drop_succ_cons, List.drop_zero]; repeat still_step)
  still_call (cmp_Compare _ _ _)
  repeat still_step
  still_call (cmp_Compare _ _ _)
  repeat still_step
  refine wpStill_nil ?_
  go_wp2_with (go_at_call 188; refine (cmp_Or2 _ _ _ _ (blk_new _ _)).mono ?_; rintro e w1 ⟨rfl, hb⟩)
  go_ret
  exact ⟨rfl, below_step (below_alloc hB _) hb⟩
set_option maxRecDepth 100000 in
theorem mom_Swap0 (g n c : Nat) (i j : Int) (a b d e' : Int) (w : World) (hi0 : 0 ≤ i) (hi : i < n) (hj0 : 0 ≤ j) (hj : j < n) (hij : i ≠ j) (hf : ∀ o, w.frozen? ⟨g, o, none⟩ = false)
    (c0 : w.cell? ⟨g, i.toNat * 2, none⟩ = some (.int .i64 a)) (c1 : w.cell? ⟨g, i.toNat * 2 + 1, none⟩ = some (.int .i64 b)) (c2 : w.cell? ⟨g, j.toNat * 2, none⟩ = some (.int .i64 d)) (c3 : w.cell? ⟨g, j.toNat * 2 + 1, none⟩ = some (.int .i64 e')) :
    Calls Tryz.prog 234 #[.slice (some ⟨g, 0, none⟩) n c, .int .i64 i, .int .i64 j] w fun e w' => e = .returned (.tuple #[]) ∧ ∃ m, w' = ((((w.setCell ⟨g, i.toNat * 2, none⟩ (.int .i64 d)).setCell ⟨g, i.toNat * 2 + 1, none⟩ (.int .i64 e')).setCell ⟨g, j.toNat * 2, none⟩ (.int .i64 a)).setCell ⟨g, j.toNat * 2 + 1, none⟩ (.int .i64 b)).drewN m := by
  have hd1 : i.toNat * 2 ≠ j.toNat * 2 := by omega
  have f0 := hf (i.toNat * 2)
  have f1 := hf (i.toNat * 2 + 1)
  have f2 := hf (j.toNat * 2)
  have f3 := hf (j.toNat * 2 + 1)
  clear hf
  go_enter Tryz.func234, Tryz.ntmps234
  go_region
  all_goals
    go_end0
    exact ⟨rfl, 1, rfl⟩
def swapL (l : List (Int × Int)) (i j : Int) : List (Int × Int) := (l.set i.toNat (one l j)).set j.toNat (one l i)
theorem swapL_length (l : List (Int × Int)) (i j : Int) : (swapL l i j).length = l.length := by simp [swapL]
theorem swapL_perm (l : List (Int × Int)) (i j : Int) (hi0 : 0 ≤ i) (hi : i < l.length) (hj0 : 0 ≤ j) (hj : j < l.length) : (swapL l i j).Perm l := by
  have h1 : i.toNat < l.length := by omega
  have h2 : j.toNat < l.length := by omega
  have := List.set_set_perm h1 h2
  simpa [swapL, one, List.getD_eq_getElem?_getD, h1, h2] using this
theorem swapL_at (l : List (Int × Int)) (i j : Int) (k : Nat) (h1 : k ≠ i.toNat) (h2 : k ≠ j.toNat) : (swapL l i j)[k]? = l[k]? := by
  unfold swapL
  rw [List.getElem?_set_ne (Ne.symm h2), List.getElem?_set_ne (Ne.symm h1)]
/-- An element of a row of moments written whole. -/
theorem one_put {e : TypeId} {W : World} {base : Nat} {ok : Nat → Prop} {g n cap : Nat} {l : List (Int × Int)} (h : Kd.R kone e W base ok (.slice (some ⟨g, 0, none⟩) n cap) l) (i : Nat) (hi : i < l.length) (a b : Int) :
    Kd.R kone e ((W.setCell ⟨g, i * 2, none⟩ (.int .i64 a)).setCell ⟨g, i * 2 + 1, none⟩ (.int .i64 b)) base ok (.slice (some ⟨g, 0, none⟩) n cap) (l.set i (a, b)) := by
  obtain ⟨h0, h1⟩ := h
  refine ⟨h0, ?_⟩
  have h2 := OwnRow.put (p := (a, (l.getD i (0, 0)).2)) h1 i 0 (by decide) (.int .i64 a) (by
    rintro q c hq hcl ⟨c1, c2, rfl, rfl, rfl⟩
    refine ⟨[.int .i64 a], [.int .i64 q.2], rfl, rfl, ?_⟩
    have e : l.getD i (0, 0) = q := by rw [List.getD_eq_getElem?_getD, hq]; rfl
    rw [e]
    rfl)
  rw [Nat.add_zero] at h2
  have h3 := OwnRow.put (p := (a, b)) (h2.imp_ (R' := kone.M ((W.setCell ⟨g, i * 2, none⟩ (.int .i64 a)).setCell ⟨g, i * 2 + 1, none⟩ (.int .i64 b)) base (fun k => ok k ∧ some k ≠ (Value.slice (some ⟨g, 0, none⟩) n cap).ownBlock)) fun p c hp => hp) i 1 (by decide) (.int .i64 b) (by
    rintro q c hq hcl ⟨c1, c2, rfl, rfl, rfl⟩
    rw [List.getElem?_set_self hi] at hq
    cases hq
    exact ⟨[.int .i64 a], [.int .i64 b], rfl, rfl, rfl⟩)
  rw [List.set_set] at h3
  exact h3
theorem mom_Swap (g cap : Nat) (l : List (Int × Int)) (e0 base : Nat) (ok : Nat → Prop) (i j : Int) (w : World) (h : Kd.R kone e0 w base ok (.slice (some ⟨g, 0, none⟩) l.length cap) l) (hi0 : 0 ≤ i) (hi : i < l.length) (hj0 : 0 ≤ j) (hj : j < l.length) (hij : i ≠ j) :
    Calls Tryz.prog 234 #[.slice (some ⟨g, 0, none⟩) l.length cap, .int .i64 i, .int .i64 j] w fun e w' => e = .returned (.tuple #[]) ∧ Kd.R kone e0 w' base ok (.slice (some ⟨g, 0, none⟩) l.length cap) (swapL l i j) ∧ Only (fun k => k = g) w w' := by
  have hC := (Kd.R_reads' h).2.2
  obtain ⟨cur, hb⟩ := R_blk h
  obtain ⟨ad, e, x0, x1⟩ := at_one hC i hi0 hi
  cases e
  obtain ⟨ad', e, y0, y1⟩ := at_one hC j hj0 hj
  cases e
  rw [add_plain] at x0 x1 y0 y1
  refine (mom_Swap0 g l.length cap i j (one l i).1 (one l i).2 (one l j).1 (one l j).2 w hi0 hi hj0 hj hij (frozen_of_blk hb) x0 x1 y0 y1).mono ?_
  rintro e w' ⟨rfl, m, rfl⟩
  refine ⟨rfl, ?_, ?_⟩
  · have h1 := one_put h i.toNat (by omega) (one l j).1 (one l j).2
    have h2 := one_put h1 j.toNat (by rw [List.length_set]; omega) (one l i).1 (one l i).2
    exact Kd.R_step h2 fun k _ _ => rfl
  · exact (((((Only.refl (fun k => k = g) w).set (p := ⟨g, _, none⟩) (fun _ => rfl) _).set (p := ⟨g, _, none⟩) (fun _ => rfl) _).set (p := ⟨g, _, none⟩) (fun _ => rfl) _).set (p := ⟨g, _, none⟩) (fun _ => rfl) _).drewN m
end Go.Proofs.YthbngidbfhcdaaaGreat.C
/- container/heap's up, down, Fix, Push, Remove over the moments: the same moments in another order. -/
namespace Go.Proofs.YthbngidbfhcdaaaGreat.C
open Go.RowKit Go.Maps Go.Proofs.YthbngidbfhcdaaaGreat.Mem Go.Proofs.YthbngidbfhcdaaaGreatW.PrintWords Go.Proofs.YthbngidbfhcdaaaGreat.PCoordScript
set_option linter.unusedVariables false
set_option linter.unusedSimpArgs false
abbrev momI (t : Nat) : Value := .iface 260 (.pointer (some ⟨t, 1, none⟩))
abbrev momV (g n cap : Nat) : Value := .slice (some ⟨g, 0, none⟩) n cap
/-- Timers at t, their moments in the block g: l' is l in another order; from m on nothing was moved. -/
structure Hp (base : Nat) (ok : Nat → Prop) (t : Nat) (most : Int) (g cap : Nat) (l : List (Int × Int)) (m : Int) (w : World) (l' : List (Int × Int)) (wr : World) : Prop where
  len : l'.length = l.length
  perm : l'.Perm l
  rest : ∀ k : Nat, m ≤ k → l'[k]? = l[k]?
  box : wr.heap[t]? = some (TimB most (momV g l.length cap))
  row : Kd.R kone 265 wr base ok (momV g l.length cap) l'
  only : Only (fun k => k = g) w wr
section
variable {base : Nat} {ok : Nat → Prop} {t : Nat} {most : Int} {g cap : Nat} {l : List (Int × Int)} {m : Int} {w : World} {l' : List (Int × Int)} {wr w1 : World}
theorem Hp.start (hb : w.heap[t]? = some (TimB most (momV g l.length cap))) (hr : Kd.R kone 265 w base ok (momV g l.length cap) l) (m : Int) : Hp base ok t most g cap l m w l w := ⟨rfl, .refl _, fun _ _ => rfl, hb, hr, Only.refl _ _⟩
theorem Hp.fresh (h : Hp base ok t most g cap l m w l' wr) (hb : Below wr.heap.size wr w1) : Hp base ok t most g cap l m w l' w1 :=
  ⟨h.len, h.perm, h.rest, blk_below h.box hb, Kd.R_below h.row hb, h.only.next (Only.fresh hb _)⟩
theorem Hp.cell (h : Hp base ok t most g cap l m w l' wr) : wr.cell? ⟨t, 1, none⟩ = some (momV g l'.length cap) := by
  rw [h.len]
  exact (blk_cell h.box 1).trans rfl
theorem Hp.reads (h : Hp base ok t most g cap l m w l' wr) : Kd.C kone wr (some ⟨g, 0, none⟩) l'.length l' := by
  have hr := h.row
  rw [← h.len] at hr
  obtain ⟨A, c, e, _, hc⟩ := Kd.R_reads hr
  cases e
  exact hc
theorem Hp.row' (h : Hp base ok t most g cap l m w l' wr) : Kd.R kone 265 wr base ok (momV g l'.length cap) l' := by
  rw [h.len]
  exact h.row
theorem Hp.ne (h : Hp base ok t most g cap l m w l' wr) : t ≠ g := by
  rintro rfl
  obtain ⟨cur, hb⟩ := R_blk h.row
  rw [h.box] at hb
  cases hb
theorem Hp.swap (h : Hp base ok t most g cap l m w l' wr) (i j : Int) (hi0 : 0 ≤ i) (hi : i < l.length) (hj0 : 0 ≤ j) (hj : j < l.length) (him : i < m) (hjm : j < m)
    (hr : Kd.R kone 265 w1 base ok (momV g l'.length cap) (swapL l' i j)) (ho : Only (fun k => k = g) wr w1) : Hp base ok t most g cap l m w (swapL l' i j) w1 :=
  ⟨(swapL_length _ _ _).trans h.len, (swapL_perm l' i j hi0 (by rw [h.len]; exact hi) hj0 (by rw [h.len]; exact hj)).trans h.perm, fun k hk => (swapL_at l' i j k (by omega) (by omega)).trans (h.rest k hk), ho.blk h.box h.ne, by rw [← h.len]; exact hr, h.only.next ho⟩
theorem Hp.weaken (h : Hp base ok t most g cap l m w l' wr) {m' : Int} (hm : m ≤ m') : Hp base ok t most g cap l m' w l' wr := ⟨h.len, h.perm, fun k hk => h.rest k (by omega), h.box, h.row, h.only⟩
theorem Hp.trans {l2 : List (Int × Int)} (h : Hp base ok t most g cap l m w l' wr) (k : Hp base ok t most g cap l' m wr l2 w1) : Hp base ok t most g cap l m w l2 w1 :=
  ⟨k.len.trans h.len, k.perm.trans h.perm, fun i hi => (k.rest i hi).trans (h.rest i hi), by rw [k.box, h.len], by rw [← h.len]; exact k.row, h.only.next k.only⟩
end
set_option maxHeartbeats 1000000 in
set_option maxRecDepth 100000 in
theorem heap_up (base : Nat) (ok : Nat → Prop) (t : Nat) (most : Int) (g cap : Nat) (l : List (Int × Int)) (j : Int) (w : World) (hb : w.heap[t]? = some (TimB most (momV g l.length cap))) (hr : Kd.R kone 265 w base ok (momV g l.length cap) l) (hj0 : 0 ≤ j) (hj : j < l.length) (hl : l.length ≤ 24) :
    Calls Tryz.prog 199 #[momI t, .int .i64 j] w fun e w' => e = .returned (.tuple #[]) ∧ ∃ l', Hp base ok t most g cap l (j + 1) w l' w' := by
  have HS := Aside0.mk (Hp.start hb hr (j + 1))
  clear hb hr
  have hm1 := meth_Less
  have hm2 := meth_Swap
  go_enter Tryz.func199, Tryz.ntmps199
  go_wp2
  go_loopw [1] (fun v wr => ∃ k : Int, v = .int .i64 k ∧ 0 ≤ k ∧ k ≤ j ∧ Aside0 (∃ l', Hp base ok t most g cap l (j + 1) w l' wr)) (fun v _ => (intOf v).toNat)
  case atStart => exact ⟨j, rfl, by omega, by omega, ⟨_, HS.out⟩⟩
  case round =>
    obtain ⟨k, rfl, hk0, hk, H⟩ := hrel
    clear HS
    obtain ⟨l', hh⟩ := H.out
    have H1 := Aside0.mk hh
    have c0 := hh.cell
    clear hh H
    rcases Mem.dec_or (k = 0) with h0 | h0
    · have e : k = 0 := of_decide_eq_true h0
      subst e
      clear h0
      go_wp2
      go_end0
      exact ⟨rfl, l', H1.out⟩
    · have h1 : 1 ≤ k := by simp at h0; omega
      clear h0
      have hp2 : (k - 1).tdiv 2 = (k - 1) / 2 := Int.tdiv_eq_ediv_of_nonneg (by omega)
      have hp0 : 0 ≤ (k - 1).tdiv 2 := by omega
      have hpk : (k - 1).tdiv 2 < k := by omega
      have hq : ((k - 1).tdiv 2 == k) = false := beq_eq_false_iff_ne.2 (by omega)
      clear hp2
      have hkl : k < l'.length := by rw [H1.out.len]; omega
      have hpl : (k - 1).tdiv 2 < l'.length := by omega
      rcases Mem.bool_or (lessT (one l' k) (one l' ((k - 1).tdiv 2))) with hq2 | hq2
      all_goals
        go_wp2_with (first
          | (go_at_call 233; refine (mom_Less _ cap l' k ((k - 1).tdiv 2) _ H1.out.reads hk0 hkl hp0 hpl).mono ?_; rintro e w1 ⟨rfl, hb⟩; have H2 := Aside0.mk (H1.out.fresh hb); have c1 := H2.out.cell; clear hb)
          | (go_at_call 234; refine (mom_Swap g cap l' 265 base ok ((k - 1).tdiv 2) k _ H2.out.row' hp0 hpl hk0 hkl (by omega)).mono ?_; rintro e w2 ⟨rfl, hr, ho⟩; have H3 := Aside0.mk (H2.out.swap ((k - 1).tdiv 2) k hp0 (by omega) hk0 (by omega) (by omega) (by omega) hr ho); clear hr ho))
      · exact ⟨⟨(k - 1).tdiv 2, rfl, hp0, by omega, ⟨_, H3.out⟩⟩, by simp [intOf]; omega⟩
      · go_end0
        exact ⟨rfl, l', H2.out⟩
set_option maxHeartbeats 2000000 in
set_option maxRecDepth 100000 in
theorem heap_down (base : Nat) (ok : Nat → Prop) (t : Nat) (most : Int) (g cap : Nat) (l : List (Int × Int)) (i0 n : Int) (w : World) (hb : w.heap[t]? = some (TimB most (momV g l.length cap))) (hr : Kd.R kone 265 w base ok (momV g l.length cap) l) (hi0 : 0 ≤ i0) (hi : i0 < l.length) (hn0 : 0 ≤ n) (hn : n ≤ l.length) (hl : l.length ≤ 24) :
    Calls Tryz.prog 198 #[momI t, .int .i64 i0, .int .i64 n] w fun e w' => (∃ b, e = .returned (.bool b)) ∧ ∃ l', Hp base ok t most g cap l n w l' w' := by
  have HS := Aside0.mk (Hp.start hb hr n)
  clear hb hr
  have hm1 := meth_Less
  have hm2 := meth_Swap
  go_enter Tryz.func198, Tryz.ntmps198
  go_wp2
  go_loopw [7] (fun v wr => ∃ k : Int, v = .int .i64 k ∧ 0 ≤ k ∧ k < l.length ∧ Aside0 (∃ l', Hp base ok t most g cap l n w l' wr)) (fun v _ => 24 - (intOf v).toNat)
  case atStart => exact ⟨i0, rfl, by omega, by omega, ⟨_, HS.out⟩⟩
  case round =>
    obtain ⟨k, rfl, hk0, hk, H⟩ := hrel
    clear HS
    obtain ⟨l', hh⟩ := H.out
    have H1 := Aside0.mk hh
    have c0 := hh.cell
    clear hh H
    rcases Mem.dec_or (n ≤ 2 * k + 1) with h0 | h0
    · go_wp2
      go_ret
      exact ⟨⟨_, rfl⟩, l', H1.out⟩
    · have h0' : 2 * k + 1 < n := by simp at h0; omega
      have hm0 : decide (2 * k + 1 < 0) = false := by simp; omega
      have hkl : k < l'.length := by rw [H1.out.len]; omega
      have hj1 : 2 * k + 1 < l'.length := by rw [H1.out.len]; omega
      have hbl : l'.length ≤ 24 := by rw [H1.out.len]; omega
      have hL := Aside0.mk H1.out.len
      rcases Mem.dec_or (2 * k + 1 + 1 < n) with h2 | h2
      · have h2' : 2 * k + 1 + 1 < n := of_decide_eq_true h2
        have hj2 : 2 * k + 1 + 1 < l'.length := by rw [H1.out.len]; omega
        rcases Mem.bool_or (lessT (one l' (2 * k + 1 + 1)) (one l' (2 * k + 1))) with hq | hq
        · rcases Mem.bool_or (lessT (one l' (2 * k + 1 + 1)) (one l' k)) with hq2 | hq2
          all_goals
            go_wp2_with (first
              | (go_at_call 233; (with_reducible refine (mom_Less _ cap l' (2 * k + 1 + 1) (2 * k + 1) _ H1.out.reads (by omega) hj2 (by omega) hj1).mono ?_); rintro e w1 ⟨rfl, hb⟩; have H2 := Aside0.mk (H1.out.fresh hb); have c1 := H2.out.cell; clear hb)
              | (go_at_call 233; (with_reducible refine (mom_Less _ cap l' (2 * k + 1 + 1) k _ H2.out.reads (by omega) hj2 hk0 hkl).mono ?_); rintro e w3 ⟨rfl, hb⟩; have H3 := Aside0.mk (H2.out.fresh hb); have c3 := H3.out.cell; clear hb)
              | (go_at_call 234; refine (mom_Swap g cap l' 265 base ok k (2 * k + 1 + 1) _ H3.out.row' hk0 hkl (by omega) hj2 (by omega)).mono ?_; rintro e w4 ⟨rfl, hr, ho⟩; have H4 := Aside0.mk (H3.out.swap k (2 * k + 1 + 1) hk0 (by omega) (by omega) (by have := hL.out; omega) (by omega) (by omega) hr ho); clear hr ho))
          · exact ⟨⟨(2 * k + 1 + 1), rfl, by omega, by have := hL.out; omega, ⟨_, H4.out⟩⟩, by simp [intOf]; omega⟩
          · go_ret
            exact ⟨⟨_, rfl⟩, l', H3.out⟩
        · rcases Mem.bool_or (lessT (one l' (2 * k + 1)) (one l' k)) with hq2 | hq2
          all_goals
            go_wp2_with (first
              | (go_at_call 233; (with_reducible refine (mom_Less _ cap l' (2 * k + 1 + 1) (2 * k + 1) _ H1.out.reads (by omega) hj2 (by omega) hj1).mono ?_); rintro e w1 ⟨rfl, hb⟩; have H2 := Aside0.mk (H1.out.fresh hb); have c1 := H2.out.cell; clear hb)
              | (go_at_call 233; (with_reducible refine (mom_Less _ cap l' (2 * k + 1) k _ H2.out.reads (by omega) hj1 hk0 hkl).mono ?_); rintro e w3 ⟨rfl, hb⟩; have H3 := Aside0.mk (H2.out.fresh hb); have c3 := H3.out.cell; clear hb)
              | (go_at_call 234; refine (mom_Swap g cap l' 265 base ok k (2 * k + 1) _ H3.out.row' hk0 hkl (by omega) hj1 (by omega)).mono ?_; rintro e w4 ⟨rfl, hr, ho⟩; have H4 := Aside0.mk (H3.out.swap k (2 * k + 1) hk0 (by omega) (by omega) (by have := hL.out; omega) (by omega) (by omega) hr ho); clear hr ho))
          · exact ⟨⟨2 * k + 1, rfl, by omega, by have := hL.out; omega, ⟨_, H4.out⟩⟩, by simp [intOf]; omega⟩
          · go_ret
            exact ⟨⟨_, rfl⟩, l', H3.out⟩
      · rcases Mem.bool_or (lessT (one l' (2 * k + 1)) (one l' k)) with hq2 | hq2
        all_goals
          go_wp2_with (first
            | (go_at_call 233; (with_reducible refine (mom_Less _ cap l' (2 * k + 1) k _ H1.out.reads (by omega) hj1 hk0 hkl).mono ?_); rintro e w1 ⟨rfl, hb⟩; have H2 := Aside0.mk (H1.out.fresh hb); have c3 := H2.out.cell; clear hb)
            | (go_at_call 234; refine (mom_Swap g cap l' 265 base ok k (2 * k + 1) _ H2.out.row' hk0 hkl (by omega) hj1 (by omega)).mono ?_; rintro e w4 ⟨rfl, hr, ho⟩; have H4 := Aside0.mk (H2.out.swap k (2 * k + 1) hk0 (by omega) (by omega) (by have := hL.out; omega) (by omega) (by omega) hr ho); clear hr ho))
        · exact ⟨⟨(2 * k + 1), rfl, by omega, by have := hL.out; omega, ⟨_, H4.out⟩⟩, by simp [intOf]; omega⟩
        · go_ret
          exact ⟨⟨_, rfl⟩, l', H2.out⟩
end Go.Proofs.YthbngidbfhcdaaaGreat.C
