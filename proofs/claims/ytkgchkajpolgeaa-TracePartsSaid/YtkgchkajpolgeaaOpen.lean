/- Arguments are opened: what reads as data at a type is in memory as a kind (Kd) tells it, with its numbers in range and its strings and rows no longer than may be. -/
import Derived.Test.YtkgchkajpolgeaaWWords
import Derived.Deep.Slices
import Derived.ChangeArms
import Derived.ChangeSame
import Derived.OpenShut
import Derived.Carry
import Derived.SizedLaws
namespace Go.Proofs.Ytkgchkajpolgeaa.Open
open Go.RowKit Go.Proofs.YtkgchkajpolgeaaW.PrintWords Go.ChangeShapes Go.WideShapes Go.Deep

/-- What reads as data at type t is of kind d, and G holds of it. -/
def Opens {α : Type} (P : Program) (t : TypeId) (d : Kd α) (G : α → Prop) : Prop :=
  ∀ (H : Type) (enc : TypeId × Value → H) (w : World) (base : Nat) (sp : Nat → Bool) (held : Bool) (fuel : Nat) (cs : List Value) (x : DataW H × List MemPlace),
    DataW.trod enc P w base sp held fuel t cs = some x → ∃ a : α, d.K w a cs ∧ G a

theorem Opens.int {P : Program} {t : TypeId} {k : IntKind} (ht : P.underlying t = some (.int k)) : Opens P t (Kd.int k) (fun n => (Lit.int k n).wf = true) := by
  intro H enc w base sp held fuel cs x h
  obtain ⟨n, rfl, rfl, hw⟩ := DataW.trod_int ht h
  exact ⟨n, rfl, hw⟩

theorem Opens.string {P : Program} {t : TypeId} (ht : P.underlying t = some .string) : Opens P t Kd.string (fun s => s.size ≤ maxLen) := by
  intro H enc w base sp held fuel cs x h
  obtain ⟨s, rfl, rfl, hw⟩ := DataW.trod_string ht h
  exact ⟨s, rfl, hw⟩

theorem Opens.bool {P : Program} {t : TypeId} (ht : P.underlying t = some .bool) : Opens P t Kd.bool (fun _ => True) := by
  intro H enc w base sp held fuel cs x h
  obtain ⟨s, rfl, rfl⟩ := DataW.trod_bool ht h
  exact ⟨s, rfl, trivial⟩

theorem Opens.slice {α : Type} {P : Program} {t e : TypeId} {d : Kd α} {G : α → Prop} (ht : P.underlying t = some (.slice e)) (hc : P.cellsOf e = d.sz) (hd : Opens P e d G) :
    Opens P t (Kd.slice e d) (fun xs => xs.length ≤ maxLen ∧ ∀ x ∈ xs, G x) := by
  intro H enc w base sp held fuel cs x h
  rcases open_slice ht h with ⟨rfl, _⟩ | ⟨a, len, cap, m, n, D, Pl, rfl, hb, hl, hm, hmm, _, hx⟩
  · exact ⟨[], ⟨none, 0, rfl, Nat.le_refl _, Kd.C_nil d w⟩, by simp, by simp⟩
  · have each : ∀ i, i < len → ∃ q : α, ∃ cs', w.cells? base (a.add (i * d.sz)) d.sz = some cs' ∧ d.K w q cs' ∧ G q := by
      intro i hi
      obtain ⟨cs', h1, h2⟩ := hx i (by rw [hmm]; split <;> omega)
      obtain ⟨q, hq, g⟩ := hd H enc w base sp held n cs' _ h2
      exact ⟨q, cs', by rw [← hc]; exact h1, hq, g⟩
    have ex : ∃ xs : List α, xs.length = len ∧ ∀ i q, xs[i]? = some q → ∃ cs', w.cells? base (a.add (i * d.sz)) d.sz = some cs' ∧ d.K w q cs' ∧ G q := by
      clear hx hmm
      have hl' : ∀ j, j ≤ len → ∃ xs : List α, xs.length = j ∧ ∀ i q, xs[i]? = some q → ∃ cs', w.cells? base (a.add (i * d.sz)) d.sz = some cs' ∧ d.K w q cs' ∧ G q := by
        intro j
        induction j with
        | zero => exact fun _ => ⟨[], rfl, fun i q hq => by simp at hq⟩
        | succ j ih =>
          intro hj
          obtain ⟨xs, hxl, hxs⟩ := ih (by omega)
          obtain ⟨q, cs', h1, h2, h3⟩ := each j (by omega)
          refine ⟨xs ++ [q], by simp [hxl], fun i r hr => ?_⟩
          by_cases hi : i < xs.length
          · rw [List.getElem?_append_left hi] at hr
            exact hxs i r hr
          · rw [List.getElem?_append_right (by omega)] at hr
            by_cases h0 : i - xs.length = 0
            · rw [h0] at hr
              simp at hr
              subst hr
              have : i = j := by omega
              subst this
              exact ⟨cs', h1, h2, h3⟩
            · rw [List.getElem?_eq_none (by simp; omega)] at hr
              simp at hr
      exact hl' len (Nat.le_refl _)
    obtain ⟨xs, hxl, hxs⟩ := ex
    refine ⟨xs, ⟨some a, cap, by rw [hxl], by omega, rfl, ?_, fun _ => ⟨a, rfl, fun j p hp => ?_⟩⟩, by omega, fun q hq => ?_⟩
    · have : maxLen = 9223372036854775807 := rfl
      omega
    · obtain ⟨cs', h1, h2, _⟩ := hxs j p hp
      obtain ⟨_, hlen, hcell⟩ := World.cells?_some h1
      refine ⟨cs', hlen, h2, fun i u hu => ?_⟩
      have hi : i < d.sz := by rw [← hlen]; exact (List.getElem?_eq_some_iff.1 hu).1
      have := hcell i hi
      rw [hu, Deep.add_add] at this
      exact this
    · obtain ⟨i, hi⟩ := List.getElem?_of_mem hq
      exact (hxs i q hi).elim fun _ h => h.2.2

/-- The fields from offset o on, each behind the one before. -/
def OpensF {α : Type} (P : Program) (fs : List (TypeId × Nat)) (o : Nat) (d : Kd α) (G : α → Prop) : Prop :=
  ∀ (H : Type) (enc : TypeId × Value → H) (w : World) (base : Nat) (sp : Nat → Bool) (held : Bool) (fuel : Nat) (cs : List Value),
    cs.length = o + d.sz →
    (∀ f ∈ fs, ∃ x, DataW.trod enc P w base sp held fuel f.1 ((cs.drop f.2).take (P.cellsOf f.1)) = some x) → ∃ a : α, d.K w a (cs.drop o) ∧ G a

theorem OpensF.one {α : Type} {P : Program} {t : TypeId} {o : Nat} {d : Kd α} {G : α → Prop} (hc : P.cellsOf t = d.sz) (h : Opens P t d G) : OpensF P [(t, o)] o d G := by
  intro H enc w base sp held fuel cs hl hf
  obtain ⟨x, hx⟩ := hf _ (List.mem_singleton.2 rfl)
  have e : ((cs.drop o).take (P.cellsOf t)) = cs.drop o := by rw [List.take_of_length_le]; simp; omega
  simp only [e] at hx
  exact h H enc w base sp held fuel _ x hx

theorem OpensF.cons {α β : Type} {P : Program} {t : TypeId} {o : Nat} {fs : List (TypeId × Nat)} {d : Kd α} {d' : Kd β} {G : α → Prop} {G' : β → Prop} (hc : P.cellsOf t = d.sz) (h : Opens P t d G)
    (hr : OpensF P fs (o + d.sz) d' G') : OpensF P ((t, o) :: fs) o (Kd.pair d d') (fun x => G x.1 ∧ G' x.2) := by
  intro H enc w base sp held fuel cs hl hf
  obtain ⟨x, hx⟩ := hf _ List.mem_cons_self
  obtain ⟨a, ha, ga⟩ := h H enc w base sp held fuel _ x hx
  have hl' : cs.length = o + (d.sz + d'.sz) := hl
  obtain ⟨b, hb, gb⟩ := hr H enc w base sp held fuel cs (by omega) (fun f hf' => hf f (List.mem_cons_of_mem _ hf'))
  refine ⟨(a, b), ⟨_, _, ?_, ha, hb⟩, ga, gb⟩
  simp only [hc]
  rw [← List.drop_drop]
  exact (List.take_append_drop _ _).symm

theorem Opens.struct {α β : Type} {P : Program} {t : TypeId} {fs : Array Field} {d : Kd α} {G : α → Prop} {f : β → α} {g : α → β} (ht : P.underlying t = some (.struct fs)) (hs : P.cellsOf t = d.sz)
    (hfg : ∀ a, f (g a) = a) (h : OpensF P (fs.toList.map fun f => (f.type, f.offset)) 0 d G) : Opens P t (Kd.iso d f) (fun b => G (f b)) := by
  intro H enc w base sp held fuel cs x hx
  obtain ⟨xs, n, rfl, _, hl, hxl, hf⟩ := DataW.trod_struct ht hx
  obtain ⟨a, ha, ga⟩ := h H enc w base sp held n cs (by omega) (fun q hq => by
    obtain ⟨fl, hfl, rfl⟩ := List.mem_map.1 hq
    obtain ⟨i, hi⟩ := List.getElem?_of_mem hfl
    rw [Array.getElem?_toList] at hi
    have hlt : i < xs.length := by rw [hxl]; exact (Array.getElem?_eq_some_iff.1 hi).1
    exact ⟨xs[i], by rw [hf i fl hi]; exact List.getElem?_eq_getElem hlt⟩)
  refine ⟨g a, ?_, ?_⟩
  · show d.K w (f (g a)) cs
    rw [hfg]; simpa using ha
  · show G (f (g a))
    rw [hfg]; exact ga

/-- The same, fields as a tuple. -/
theorem Opens.tuple {α : Type} {P : Program} {t : TypeId} {fs : Array Field} {d : Kd α} {G : α → Prop} (ht : P.underlying t = some (.struct fs)) (hs : P.cellsOf t = d.sz)
    (h : OpensF P (fs.toList.map fun f => (f.type, f.offset)) 0 d G) : Opens P t d G := by
  intro H enc w base sp held fuel cs x hx
  obtain ⟨a, h1, h2⟩ := Opens.struct (f := fun a : α => a) (g := fun a : α => a) ht hs (fun _ => rfl) h H enc w base sp held fuel cs x hx
  exact ⟨a, h1, h2⟩

theorem Opens.imp {α : Type} {P : Program} {t : TypeId} {d : Kd α} {G G' : α → Prop} (h : Opens P t d G) (hG : ∀ a, G a → G' a) : Opens P t d G' := by
  intro H enc w base sp held fuel cs x hx
  obtain ⟨a, h1, h2⟩ := h H enc w base sp held fuel cs x hx
  exact ⟨a, h1, hG a h2⟩

theorem Opens.read {α : Type} {P : Program} {t : TypeId} {d : Kd α} {G : α → Prop} (h : Opens P t d G) {H : Type} {enc : TypeId × Value → H} {w : World} {base : Nat} {sp : Nat → Bool} {held : Bool} {v : Value} {y : DataW H} {ps : List MemPlace}
    (hx : DataW.Trod enc P w base sp held t v y ps) : ∃ a : α, d.K w a v.cells.toList ∧ G a := by
  obtain ⟨fuel, hf⟩ := hx
  exact h H enc w base sp held fuel _ _ hf

end Go.Proofs.Ytkgchkajpolgeaa.Open
