/- Rows that are read: out of a block that is known whole; laid flat; out of a row of one's own. -/
import Derived.Test.YtkgchkajpolgeaaWWords
import Derived.Maps.AppendAt
namespace Go.Proofs.Ytkgchkajpolgeaa.Rd
open Go.RowKit Go.Proofs.YtkgchkajpolgeaaW.PrintWords

/-- The world of a call under a name of its own, with what is known of it. -/
theorem gen_call {P : Program} {f : FuncId} {args : Array Value} {W : World} {Q : Ending → World → Prop} (R : World → Prop) (h : R W) (k : ∀ W', R W' → Calls P f args W' Q) : Calls P f args W Q := k W h
theorem gen_wp {P : Program} {c : Code} {a : Act} {W : World} {Q : Exit → Act → World → Prop} (R : World → Prop) (h : R W) (k : ∀ W', R W' → Code.wp P c Q a W') : Code.wp P c Q a W := k W h
theorem gen_list {P : Program} {ops : Array Oper} {rest : List Oper} {a : Act} {W : World} {Q : Exit → Act → World → Prop} (R : World → Prop) (h : R W) (k : ∀ W', R W' → wpList P ops Q rest a W') : wpList P ops Q rest a W := k W h

theorem blk_at {w : World} {g : Nat} {o : Obj} (h : g = w.heap.size) : (w.alloc o).heap[g]? = some o := by
  subst h
  exact blk_new w o

/-- A block that is known whole is a row. -/
theorem C_of_blk {α : Type} {d : Kd α} {w : World} {b : Nat} {t : TypeId} {cs : Array Value} {xs : List α} (hb : w.heap[b]? = some (.cells cs t (0, 0))) (hn : xs.length ≤ 9223372036854775807)
    (h : Reps (d.K w) d.sz xs cs.toList) : Kd.C d w (some ⟨b, 0, none⟩) xs.length xs := by
  refine ⟨rfl, hn, fun _ => ⟨_, rfl, fun j p hp => ⟨(cs.toList.drop (j * d.sz)).take d.sz, d.K_len (h.2 j p hp), h.2 j p hp, fun i u hu => ?_⟩⟩⟩
  have hi : i < d.sz := by
    have := (List.getElem?_eq_some_iff.1 hu).1
    have e := d.K_len (h.2 j p hp)
    omega
  rw [List.getElem?_take_of_lt hi, List.getElem?_drop] at hu
  have e : (⟨b, 0, none⟩ : Addr).add (j * d.sz + i) = ⟨b, j * d.sz + i, none⟩ := by
    unfold Addr.add
    split <;> simp_all
  rw [e, blk_cell hb]
  rw [Array.getElem?_toList] at hu
  exact hu

theorem reps_nil {α : Type} (R : α → List Value → Prop) (sz : Nat) : Reps R sz [] [] := Reps.none R sz
theorem reps_cons {α : Type} {R : α → List Value → Prop} {sz : Nat} {p : α} {c : List Value} {xs : List α} {cs : List Value} (hp : R p c) (hc : c.length = sz) (h : Reps R sz xs cs) : Reps R sz (p :: xs) (c ++ cs) := by
  refine ⟨by rw [List.length_append, hc, h.1, List.length_cons, Nat.add_mul, Nat.one_mul, Nat.add_comm], fun j q hq => ?_⟩
  cases j with
  | zero =>
    simp at hq
    subst hq
    rw [Nat.zero_mul, List.drop_zero, ← hc, List.take_left]
    exact hp
  | succ j =>
    rw [List.getElem?_cons_succ] at hq
    have := h.2 j q hq
    rw [Nat.succ_mul, Nat.add_comm, ← List.drop_drop, ← hc, List.drop_left, hc]
    exact this

/-- What is read, laid flat. -/
theorem flat_of_C {α : Type} {d : Kd α} {w : World} {A : Option Addr} {n : Nat} {xs : List α} (h : Kd.C d w A n xs) :
    ∃ cs : List Value, Reps (d.K w) d.sz xs cs ∧ (0 < n → ∃ ad, A = some ad ∧ ∀ j u, cs[j]? = some u → w.cell? (ad.add j) = some u) := by
  obtain ⟨hl, _, hc⟩ := h
  by_cases hn : 0 < n
  · obtain ⟨ad, rfl, hd⟩ := hc hn
    have key : ∀ (k : Nat) (ys : List α), (∀ j p, ys[j]? = some p → xs[k + j]? = some p) → ∃ cs : List Value, Reps (d.K w) d.sz ys cs ∧ ∀ j u, cs[j]? = some u → w.cell? (ad.add (k * d.sz + j)) = some u := by
      intro k ys
      induction ys generalizing k with
      | nil => exact fun _ => ⟨[], reps_nil _ _, fun j u hu => by simp at hu⟩
      | cons y ys ih =>
        intro hy
        obtain ⟨cs, h1, h2⟩ := ih (k + 1) (fun j p hp => by have := hy (j + 1) p (by simpa using hp); rw [show k + 1 + j = k + (j + 1) from by omega]; exact this)
        obtain ⟨c, hcl, hK, hcell⟩ := hd k y (hy 0 y (by simp))
        refine ⟨c ++ cs, reps_cons hK hcl h1, fun j u hu => ?_⟩
        by_cases hj : j < c.length
        · rw [List.getElem?_append_left hj] at hu
          exact hcell j u hu
        · rw [List.getElem?_append_right (by omega)] at hu
          have := h2 _ u hu
          rw [show k * d.sz + j = (k + 1) * d.sz + (j - c.length) from by rw [Nat.add_mul, Nat.one_mul]; omega]
          exact this
    obtain ⟨cs, h1, h2⟩ := key 0 xs (fun j p hp => by simpa using hp)
    exact ⟨cs, h1, fun _ => ⟨ad, rfl, fun j u hu => by simpa using h2 j u hu⟩⟩
  · have : xs = [] := List.eq_nil_of_length_eq_zero (by omega)
    subst this
    exact ⟨[], reps_nil _ _, fun h => absurd h hn⟩

theorem reps_append {α : Type} {R : α → List Value → Prop} {sz : Nat} {xs ys : List α} {cs es : List Value} (h : Reps R sz xs cs) (h' : Reps R sz ys es) : Reps R sz (xs ++ ys) (cs ++ es) := by
  refine ⟨by rw [List.length_append, List.length_append, h.1, h'.1, Nat.add_mul], fun j q hq => ?_⟩
  by_cases hj : j < xs.length
  · rw [List.getElem?_append_left hj] at hq
    have h1 : j * sz + sz ≤ cs.length := by rw [h.1, ← Nat.succ_mul]; exact Nat.mul_le_mul_right _ hj
    rw [List.drop_append_of_le_length (by omega), List.take_append_of_le_length (by rw [List.length_drop]; omega)]
    exact h.2 j q hq
  · rw [List.getElem?_append_right (by omega)] at hq
    have := h'.2 _ q hq
    have e : (cs ++ es).drop (j * sz) = es.drop ((j - xs.length) * sz) := by
      rw [List.drop_append, List.drop_eq_nil_of_le (by rw [h.1]; exact Nat.mul_le_mul_right _ (by omega)), List.nil_append, h.1, Nat.sub_mul]
    rw [e]
    exact this

/-- A row of one's own whose cells are known is read so. -/
theorem C_of_own {α : Type} {d : Kd α} {w : World} {base : Nat} {e : TypeId} {v : Value} {n : Nat} {cells : List Value} {xs : List α} (ho : w.ownsRow base e d.sz v n cells) (h : Reps (d.K w) d.sz xs cells) (hn : xs.length = n) (hb : n ≤ 9223372036854775807) :
    ∃ A c, v = .slice A n c ∧ n ≤ c ∧ Kd.C d w A n xs := by
  obtain ⟨h1, h2⟩ := ho
  rcases h2 with ⟨rfl, rfl⟩ | ⟨g, cap, cur, rfl, hg, hh, r1, r2, r3, r4⟩
  · have : xs = [] := List.eq_nil_of_length_eq_zero hn
    subst this
    exact ⟨none, 0, rfl, Nat.le_refl _, Kd.C_nil d w⟩
  · refine ⟨some ⟨g, 0, none⟩, cap, rfl, r1, hn, hb, fun _ => ⟨_, rfl, fun j p hp => ⟨(cells.drop (j * d.sz)).take d.sz, d.K_len (h.2 j p hp), h.2 j p hp, fun i u hu => ?_⟩⟩⟩
    have hi : i < d.sz := by
      have := (List.getElem?_eq_some_iff.1 hu).1
      have e := d.K_len (h.2 j p hp)
      omega
    rw [List.getElem?_take_of_lt hi, List.getElem?_drop] at hu
    have e : (⟨g, 0, none⟩ : Addr).add (j * d.sz + i) = ⟨g, j * d.sz + i, none⟩ := by
      unfold Addr.add
      split <;> simp_all
    rw [e, blk_cell hh]
    have hlt := (List.getElem?_eq_some_iff.1 hu).1
    rw [← r4, List.getElem?_take_of_lt (by omega), Array.getElem?_toList] at hu
    exact hu

section
variable {P : Program}
/-- append of whatever row is read (nil too) onto a row of one's own. -/
theorem run_append_flat (w : World) (base : Nat) (t ty e : TypeId) (z : Value) (size bytes : Nat) (ht : P.underlying t = some (.slice e)) (hinfo : (P.info? e).map (fun i => (i.zero, i.size, i.bytes)) = some (some z, size, bytes))
    (hzs : z.cells.size = size) (hsz : 0 < size) (v : Value) (n : Nat) (xs : List Value) (hown : w.ownsRow base e size v n xs)
    (A : Option Addr) (m c : Nat) (news : List Value) (hl : news.length = m * size) (hnews : 0 < m → ∃ ad, A = some ad ∧ ∀ j u, news[j]? = some u → w.cell? (ad.add j) = some u) (h1 : ∀ u ∈ news, u.oneCell' = true)
    (h63 : n + m ≤ maxLen) (hbytes : (n + m) * bytes ≤ 140737488355328) (hbase : base ≤ w.heap.size) :
    ∃ v' w', (Builtin.append_ #[t, t] ty #[v, .slice A m c]).run P w = .ok v' w' ∧ w'.ownsRow base e size v' (n + m) (xs ++ news) ∧ w.grownBy w' v.ownBlock ∧ (v'.ownBlock = v.ownBlock ∨ v'.ownBlock = some w.heap.size) := by
  obtain ⟨i, hi, hz, hs, hb⟩ := info_parts hinfo
  cases A with
  | none =>
    have hm : m = 0 := by
      rcases Nat.eq_zero_or_pos m with h | h
      · exact h
      · obtain ⟨ad, hA, _⟩ := hnews h
        cases hA
    subst hm
    have hnil : news = [] := List.eq_nil_of_length_eq_zero (by simpa using hl)
    subst hnil
    refine ⟨v, w, ?_, by simpa using hown, World.grownBy.refl w _, .inl rfl⟩
    rcases hown.2 with ⟨rfl, _⟩ | ⟨g, cap, cur, rfl, _, _, hnc, _⟩
    · simp [Builtin.append_, run_underlying ht, sizeOf, typeInfo, hi, Builtin.lenOf, Builtin.firstCells]
    · simp [Builtin.append_, run_underlying ht, sizeOf, typeInfo, hi, Builtin.lenOf, Builtin.firstCells, hnc, storeCells]
  | some ad =>
    have hcells : ∀ j u, news[j]? = some u → w.cell? (ad.add j) = some u := by
      intro j u hu
      rcases Nat.eq_zero_or_pos m with h | h
      · subst h
        have hnil : news = [] := List.eq_nil_of_length_eq_zero (by simpa using hl)
        subst hnil
        simp at hu
      · obtain ⟨ad', hA, hc⟩ := hnews h
        injection hA with hA
        subst hA
        exact hc j u hu
    obtain ⟨v', w', h1', h2, h3, _, h5⟩ := run_append_own_at (P := P) w base t ty e i z size bytes ht hi hz hs hb hzs hsz v n xs hown ad m c news hl hcells h1 h63 hbytes hbase
    exact ⟨v', w', h1', h2, h3, h5⟩
theorem wpList_append_flat {w : World} {ops : Array Oper} {rest : List Oper} {o : Oper} {a : Act} {Q : Exit → Act → World → Prop} (hgd : o.guard = none) (s x : Operand) (t : TypeId)
    (ho : o.op = .call { callee := .builtin .append, args := #[s, x], argTypes := #[t, t] })
    (base : Nat) (e : TypeId) (z : Value) (size bytes : Nat) (ht : P.underlying t = some (.slice e)) (hinfo : (P.info? e).map (fun i => (i.zero, i.size, i.bytes)) = some (some z, size, bytes))
    (hzs : z.cells.size = size) (hsz : 0 < size) (v : Value) (n : Nat) (xs : List Value) (hs : a.eval s = v) (hown : w.ownsRow base e size v n xs)
    (A : Option Addr) (m c : Nat) (news : List Value) (hx : a.eval x = .slice A m c) (hl : news.length = m * size) (hnews : 0 < m → ∃ ad, A = some ad ∧ ∀ j u, news[j]? = some u → w.cell? (ad.add j) = some u) (h1 : ∀ u ∈ news, u.oneCell' = true)
    (h63 : n + m ≤ maxLen) (hbytes : (n + m) * bytes ≤ 140737488355328) (hbase : base ≤ w.heap.size)
    (h : ∀ v' w', w'.ownsRow base e size v' (n + m) (xs ++ news) → w.grownBy w' v.ownBlock → (v'.ownBlock = v.ownBlock ∨ v'.ownBlock = some w.heap.size) → wpList P ops Q rest (a.put o.dst v') w') : wpList P ops Q (o :: rest) a w := by
  refine wpList_plain hgd fun K hK => ?_
  obtain ⟨v', w', hrun, h2, h3, h4⟩ := run_append_flat (P := P) w base t o.type e z size bytes ht hinfo hzs hsz v n xs hown A m c news hl hnews h1 h63 hbytes hbase
  unfold Oper.wp execOp
  simp only [ho, resolve, invoke, builtin, Sem.run_bind, Sem.run_pure, Result.andThen_ok, List.map_toArray, List.map_cons, List.map_nil, hs, hx, hrun]
  exact hK _ _ (h v' w' h2 h3 h4)
end

theorem cells_below {w w1 : World} {A : Option Addr} {m : Nat} {cs : List Value} (h : 0 < m → ∃ ad, A = some ad ∧ ∀ j u, cs[j]? = some u → w.cell? (ad.add j) = some u) (hb : Below w.heap.size w w1) :
    0 < m → ∃ ad, A = some ad ∧ ∀ j u, cs[j]? = some u → w1.cell? (ad.add j) = some u := by
  intro hm
  obtain ⟨ad, e, hc⟩ := h hm
  exact ⟨ad, e, fun j u hu => (hb.cell (World.block_lt_of_cell? w _ (hc j u hu))).trans (hc j u hu)⟩
theorem reps_below {α : Type} {d : Kd α} {w w1 : World} {xs : List α} {cs : List Value} (h : Reps (d.K w) d.sz xs cs) (hb : Below w.heap.size w w1) : Reps (d.K w1) d.sz xs cs := h.imp_ fun _ _ hk => d.K_below hb hk
theorem flat_one {α : Type} {d : Kd α} {w : World} : ∀ {xs : List α} {cs : List Value}, Reps (d.K w) d.sz xs cs → ∀ u ∈ cs, u.oneCell' = true
  | xs, cs, h, u, hu => by
    obtain ⟨i, hi⟩ := List.getElem?_of_mem hu
    have hlt := (List.getElem?_eq_some_iff.1 hi).1
    have hpos : 0 < d.sz := by
      rcases Nat.eq_zero_or_pos d.sz with h0 | h0
      · have := h.1; rw [h0, Nat.mul_zero] at this; omega
      · exact h0
    have hj : i / d.sz < xs.length := by
      refine (Nat.div_lt_iff_lt_mul hpos).2 ?_
      rw [← h.1]; exact hlt
    have hK := h.2 (i / d.sz) _ (List.getElem?_eq_getElem hj)
    refine d.K_one hK u ?_
    refine List.mem_of_getElem? (i := i % d.sz) ?_
    rw [List.getElem?_take_of_lt (Nat.mod_lt _ hpos), List.getElem?_drop, Nat.mul_comm, Nat.div_add_mod]
    exact hi
end Go.Proofs.Ytkgchkajpolgeaa.Rd
