/- What the statement TraceParts' plain functions come to, in numbers and lists alone. -/
import Derived.Test.YtkgchkajpolgeaaPTracePartsx1
import Derived.Test.YtkgchkajpolgeaaPTracePartsx8
import Derived.Test.YtkgchkajpolgeaaPend
namespace Go.Proofs.Ytkgchkajpolgeaa.PTraceParts
open Go.RowKit Go.Proofs.YtkgchkajpolgeaaW.PrintWords Go.Proofs.YtkgchkajpolgeaaW.PrintLast Go.Proofs.YtkgchkajpolgeaaW.PrintMore
set_option linter.unusedVariables false
set_option linter.unusedSimpArgs false
theorem wrap_small {n : Int} (h0 : -9223372036854775808 ≤ n) (h1 : n < 9223372036854775808) : wrap64 n = n := by
  unfold wrap64
  omega
def over (r : S48) : Bool := decide (20 < r.f3.length) || decide (20 < r.f5.length)
def gB (l : List S48) : Bool := decide (100 < l.length) || l.any over
theorem drop48 {l : List S48} {k : Int} (h0 : 0 ≤ k) (h : k < (l.length : Int)) : l.drop k.toNat = rd_T48 l k :: l.drop (k.toNat + 1) := by
  have hk : k.toNat < l.length := by omega
  have e : rd_T48 l k = l[k.toNat] := by
    unfold rd_T48
    rw [List.getD_eq_getElem?_getD, List.getElem?_eq_getElem hk]; rfl
  rw [e]
  exact List.drop_eq_getElem_cons hk
theorem great_l0 (l : List S48) (hl : l.length ≤ 100) (d : Nat) : ∀ (k : Nat) (i : Int), 0 ≤ i → i ≤ l.length → (l.length : Int) - i = d → 2 * d + 2 ≤ k → inkhornlaw26_great.l0 k l i = some ((l.drop i.toNat).any over) := by
  induction d with
  | zero =>
    intro k i h0 h1 hd hk
    obtain ⟨k, rfl⟩ : ∃ m, k = m + 2 := ⟨k - 2, by omega⟩
    simp only [inkhornlaw26_great.l0, inkhornlaw26_great.j1]
    rw [if_neg (by omega), if_neg (by decide)]
    have e : i.toNat = l.length := by omega
    rw [e, List.drop_length]
    simp
    omega
  | succ d ih =>
    intro k i h0 h1 hd hk
    obtain ⟨k, rfl⟩ : ∃ m, k = m + 2 := ⟨k - 2, by omega⟩
    simp only [inkhornlaw26_great.l0, inkhornlaw26_great.j1]
    have hlt : i < (l.length : Int) := by omega
    rw [if_pos hlt, if_pos (by simp; omega), if_pos h0, if_pos hlt, drop48 h0 hlt, List.any_cons]
    by_cases h3 : ((rd_T48 l i).f3.length : Int) > 20
    · rw [if_pos h3]
      have : over (rd_T48 l i) = true := by unfold over; simp; omega
      rw [this]; rfl
    · rw [if_neg h3]
      by_cases h5 : ((rd_T48 l i).f5.length : Int) > 20
      · rw [if_pos h5]
        have : over (rd_T48 l i) = true := by unfold over; simp; omega
        rw [this]; rfl
      · rw [if_neg h5, wrap_small (by omega) (by omega), ih k (i + 1) (by omega) (by omega) (by omega) (by omega)]
        have : over (rd_T48 l i) = false := by unfold over; simp; omega
        rw [this, Bool.false_or]
        have e : (i + 1).toNat = i.toNat + 1 := by omega
        rw [e]
theorem great_f (l : List S48) : ∃ k, inkhornlaw26_great.f k l = some (gB l) := by
  by_cases hl : l.length ≤ 100
  · refine ⟨2 * l.length + 2, ?_⟩
    unfold inkhornlaw26_great.f
    rw [great_l0 l hl l.length _ 0 (by omega) (by omega) (by omega) (by omega)]
    unfold gB
    have : decide (100 < l.length) = false := by simp; omega
    rw [this, Bool.false_or]
    rfl
  · refine ⟨2, ?_⟩
    unfold inkhornlaw26_great.f
    simp only [inkhornlaw26_great.l0, inkhornlaw26_great.j1]
    have : decide ((l.length : Int) ≤ 100) = false := by simp; omega
    have h2 : decide (100 < l.length) = true := by simp; omega
    rw [this, if_pos (by omega), if_neg (by decide)]
    unfold gB
    rw [h2]
    simp
    omega

/-! ### Of -/
def sSent (l : List S48) : Int := (l.map fun r => (r.f3.length : Int)).sum
def sGot (l : List S48) : Int := (l.map fun r => if r.f4 ≥ 0 then (1 : Int) else 0).sum
def sLost (l : List S48) : Int := (l.map fun r => (r.f5.length : Int)).sum
def cnt (v : Int) (l : List S48) : Int := (l.map fun r => if r.f1 = v then (1 : Int) else 0).sum
def small (l : List S48) : Prop := l.length ≤ 100 ∧ ∀ r ∈ l, r.f3.length ≤ 20 ∧ r.f5.length ≤ 20
theorem sum_range {f : S48 → Int} {b : Int} : ∀ l : List S48, (∀ r ∈ l, 0 ≤ f r ∧ f r ≤ b) → 0 ≤ (l.map f).sum ∧ (l.map f).sum ≤ b * l.length
  | [], _ => by simp
  | r :: l, h => by
    have h1 := h r List.mem_cons_self
    have h2 := sum_range l (fun q hq => h q (List.mem_cons_of_mem _ hq))
    simp only [List.map_cons, List.sum_cons, List.length_cons]
    have e : b * ((l.length + 1 : Nat) : Int) = b * l.length + b := by rw [Int.natCast_add, Int.mul_add]; simp
    omega
theorem of_l0 (l : List S48) (hll : l.length ≤ 1000) (hs : ∀ r ∈ l, r.f3.length ≤ 20 ∧ r.f5.length ≤ 20) (d : Nat) : ∀ (k : Nat) (i a b c e f g : Int), 0 ≤ i → i ≤ l.length → (l.length : Int) - i = d → d ≤ 100 → 2 * d + 1 ≤ k →
    0 ≤ a → a ≤ 1000000 - 20 * d → 0 ≤ b → b ≤ 1000000 - d → 0 ≤ c → c ≤ 1000000 - 20 * d → 0 ≤ e → e ≤ 1000000 - d → 0 ≤ f → f ≤ 1000000 - d → 0 ≤ g → g ≤ 1000000 - d →
    trace_Of.l0 k l (l.length : Int) i a b c e f g = some (a + sSent (l.drop i.toNat), b + sGot (l.drop i.toNat), c + sLost (l.drop i.toNat), e + cnt 3 (l.drop i.toNat), f + cnt 2 (l.drop i.toNat), g + cnt 1 (l.drop i.toNat)) := by
  induction d with
  | zero =>
    intro k i a b c e f g h0 h1 hd hd1 hk _ _ _ _ _ _ _ _ _ _ _ _
    obtain ⟨k, rfl⟩ : ∃ m, k = m + 1 := ⟨k - 1, by omega⟩
    simp only [trace_Of.l0]
    rw [if_neg (by omega)]
    have e : i.toNat = l.length := by omega
    rw [e, List.drop_length]
    simp [sSent, sGot, sLost, cnt]
  | succ d ih =>
    intro k i a b c e f g h0 h1 hd hd1 hk ha0 ha1 hb0 hb1 hc0 hc1 he0 he1 hf0 hf1 hg0 hg1
    obtain ⟨k, rfl⟩ : ∃ m, k = m + 2 := ⟨k - 2, by omega⟩
    have hlt : i < (l.length : Int) := by omega
    have hm := hs _ (rd48_mem h0 hlt).1
    have en : (i + 1).toNat = i.toNat + 1 := by omega
    have eS : sSent (l.drop i.toNat) = ((rd_T48 l i).f3.length : Int) + sSent (l.drop (i.toNat + 1)) := by rw [drop48 h0 hlt]; simp [sSent]
    have eG : sGot (l.drop i.toNat) = (if (rd_T48 l i).f4 ≥ 0 then (1 : Int) else 0) + sGot (l.drop (i.toNat + 1)) := by rw [drop48 h0 hlt]; simp [sGot]
    have eL : sLost (l.drop i.toNat) = ((rd_T48 l i).f5.length : Int) + sLost (l.drop (i.toNat + 1)) := by rw [drop48 h0 hlt]; simp [sLost]
    have eC : ∀ v, cnt v (l.drop i.toNat) = (if (rd_T48 l i).f1 = v then (1 : Int) else 0) + cnt v (l.drop (i.toNat + 1)) := by intro v; rw [drop48 h0 hlt]; simp [cnt]
    simp only [trace_Of.l0, trace_Of.j1]
    rw [if_pos hlt, if_pos h0, if_pos hlt, wrap_small (n := i + 1) (by omega) (by omega), wrap_small (n := a + _) (by omega) (by omega), wrap_small (n := c + _) (by omega) (by omega), wrap_small (n := b + 1) (by omega) (by omega), wrap_small (n := e + 1) (by omega) (by omega), wrap_small (n := f + 1) (by omega) (by omega), wrap_small (n := g + 1) (by omega) (by omega)]
    by_cases h4 : (rd_T48 l i).f4 ≥ 0
    all_goals
      first | rw [if_pos h4] | rw [if_neg h4]
      by_cases h3 : (rd_T48 l i).f1 = 3
      · rw [if_pos h3, ih k (i + 1) _ _ _ _ _ _ (by omega) (by omega) (by omega) (by omega) (by omega) (by omega) (by omega) (by omega) (by omega) (by omega) (by omega) (by omega) (by omega) (by omega) (by omega) (by omega) (by omega), en, eS, eG, eL, eC, eC, eC, h3]
        simp [h4, Int.add_assoc]
      · rw [if_neg h3]
        by_cases h2 : (rd_T48 l i).f1 = 2
        · rw [if_pos h2, ih k (i + 1) _ _ _ _ _ _ (by omega) (by omega) (by omega) (by omega) (by omega) (by omega) (by omega) (by omega) (by omega) (by omega) (by omega) (by omega) (by omega) (by omega) (by omega) (by omega) (by omega), en, eS, eG, eL, eC, eC, eC, h2]
          simp [h4, Int.add_assoc]
        · rw [if_neg h2]
          by_cases hv : (rd_T48 l i).f1 = 1
          · rw [if_pos hv, ih k (i + 1) _ _ _ _ _ _ (by omega) (by omega) (by omega) (by omega) (by omega) (by omega) (by omega) (by omega) (by omega) (by omega) (by omega) (by omega) (by omega) (by omega) (by omega) (by omega) (by omega), en, eS, eG, eL, eC, eC, eC, hv]
            simp [h4, Int.add_assoc]
          · rw [if_neg hv, ih k (i + 1) _ _ _ _ _ _ (by omega) (by omega) (by omega) (by omega) (by omega) (by omega) (by omega) (by omega) (by omega) (by omega) (by omega) (by omega) (by omega) (by omega) (by omega) (by omega) (by omega), en, eS, eG, eL, eC, eC, eC]
            simp [h4, h3, h2, hv, Int.add_assoc]
theorem of_f (l : List S48) (h : small l) : trace_Of.f 201 l = some (sSent l, sGot l, sLost l, cnt 3 l, cnt 2 l, cnt 1 l) := by
  unfold trace_Of.f
  rw [of_l0 l (by have := h.1; omega) h.2 l.length 201 0 0 0 0 0 0 0 (by omega) (by omega) (by omega) h.1 (by have := h.1; omega) (by omega) (by have := h.1; omega) (by omega) (by have := h.1; omega) (by omega) (by have := h.1; omega) (by omega) (by have := h.1; omega) (by omega) (by have := h.1; omega) (by omega) (by have := h.1; omega)]
  simp

/-! ### Asked, SameInts -/
def asked (l : List S48) : List Int := l.filterMap fun r => if r.f1 = 3 then some r.f2 else none
theorem asked_l0 (l : List S48) (d : Nat) : ∀ (k : Nat) (acc : List Int) (i : Int), 0 ≤ i → i ≤ l.length → (l.length : Int) - i = d → d < k → acc.length + d ≤ 1000 → l.length ≤ 1000 →
    trace_Asked.l0 k acc l (l.length : Int) i = some (acc ++ asked (l.drop i.toNat)) := by
  induction d with
  | zero =>
    intro k acc i h0 h1 hd hk _ _
    obtain ⟨k, rfl⟩ : ∃ m, k = m + 1 := ⟨k - 1, by omega⟩
    simp only [trace_Asked.l0]
    rw [if_neg (by omega)]
    have e : i.toNat = l.length := by omega
    rw [e, List.drop_length]
    simp [asked]
  | succ d ih =>
    intro k acc i h0 h1 hd hk ha hll
    obtain ⟨k, rfl⟩ : ∃ m, k = m + 1 := ⟨k - 1, by omega⟩
    have hlt : i < (l.length : Int) := by omega
    have en : (i + 1).toNat = i.toNat + 1 := by omega
    simp only [trace_Asked.l0]
    rw [if_pos hlt, if_pos h0, if_pos hlt, wrap_small (n := i + 1) (by omega) (by omega)]
    by_cases h3 : (rd_T48 l i).f1 = 3
    · rw [if_pos h3, if_pos (by omega), ih k _ (i + 1) (by omega) (by omega) (by omega) (by omega) (by simp; omega) hll, en, drop48 h0 hlt]
      simp [asked, h3]
    · rw [if_neg h3, ih k _ (i + 1) (by omega) (by omega) (by omega) (by omega) (by omega) hll, en, drop48 h0 hlt]
      simp [asked, h3]
theorem asked_f (l : List S48) (h : l.length ≤ 100) : trace_Asked.f 101 l = some (asked l) := by
  unfold trace_Asked.f
  rw [asked_l0 l l.length 101 [] 0 (by omega) (by omega) (by omega) (by omega) (by simp; omega) (by omega)]
  simp
theorem same_l0 (l m : List Int) (hl : l.length = m.length) (hb : l.length ≤ 1000) (d : Nat) : ∀ (k : Nat) (i : Int), 0 ≤ i → i ≤ l.length → (l.length : Int) - i = d → d < k → inkhornlaw0_SameInts.l0 k l m i = some (decide (l.drop i.toNat = m.drop i.toNat)) := by
  induction d with
  | zero =>
    intro k i h0 h1 hd hk
    obtain ⟨k, rfl⟩ : ∃ q, k = q + 1 := ⟨k - 1, by omega⟩
    simp only [inkhornlaw0_SameInts.l0]
    rw [if_neg (by omega)]
    have e : i.toNat = l.length := by omega
    rw [e, List.drop_length, hl, List.drop_length]
    simp
  | succ d ih =>
    intro k i h0 h1 hd hk
    obtain ⟨k, rfl⟩ : ∃ q, k = q + 1 := ⟨k - 1, by omega⟩
    have hlt : i < (l.length : Int) := by omega
    have en : (i + 1).toNat = i.toNat + 1 := by omega
    have e1 : l.drop i.toNat = Go.Proofs.YtkgchkajpolgeaaW.PrintWords.rd l i :: l.drop (i.toNat + 1) := by
      have hk' : i.toNat < l.length := by omega
      have e : Go.Proofs.YtkgchkajpolgeaaW.PrintWords.rd l i = l[i.toNat] := by
        unfold Go.Proofs.YtkgchkajpolgeaaW.PrintWords.rd
        rw [List.getD_eq_getElem?_getD, List.getElem?_eq_getElem hk']; rfl
      rw [e]; exact List.drop_eq_getElem_cons hk'
    have e2 : m.drop i.toNat = Go.Proofs.YtkgchkajpolgeaaW.PrintWords.rd m i :: m.drop (i.toNat + 1) := by
      have hk' : i.toNat < m.length := by omega
      have e : Go.Proofs.YtkgchkajpolgeaaW.PrintWords.rd m i = m[i.toNat] := by
        unfold Go.Proofs.YtkgchkajpolgeaaW.PrintWords.rd
        rw [List.getD_eq_getElem?_getD, List.getElem?_eq_getElem hk']; rfl
      rw [e]; exact List.drop_eq_getElem_cons hk'
    simp only [inkhornlaw0_SameInts.l0]
    rw [if_pos hlt, if_pos h0, if_pos (by omega), e1, e2]
    by_cases h : Go.Proofs.YtkgchkajpolgeaaW.PrintWords.rd l i = Go.Proofs.YtkgchkajpolgeaaW.PrintWords.rd m i
    · rw [if_pos h, wrap_small (by omega) (by omega), ih k (i + 1) (by omega) (by omega) (by omega) (by omega), en]
      simp [h]
    · rw [if_neg h]
      simp [h]
theorem same_f (l m : List Int) (hl : l.length ≤ 1000) : inkhornlaw0_SameInts.f 1001 l m = some (decide (l = m)) := by
  unfold inkhornlaw0_SameInts.f
  by_cases h : l.length = m.length
  · rw [if_pos (by omega), same_l0 l m h hl l.length 1001 0 (by omega) (by omega) (by omega) (by omega)]
    simp
  · rw [if_neg (by omega)]
    have : l ≠ m := fun e => h (by rw [e])
    simp [this]
theorem asked_append (a b : List S48) : asked (a ++ b) = asked a ++ asked b := by simp [asked]
theorem asked_len (l : List S48) : (asked l).length ≤ l.length := List.length_filterMap_le _ _
theorem sums_append (a b : List S48) : sSent (a ++ b) = sSent a + sSent b ∧ sGot (a ++ b) = sGot a + sGot b ∧ sLost (a ++ b) = sLost a + sLost b ∧ ∀ v, cnt v (a ++ b) = cnt v a + cnt v b := by
  refine ⟨?_, ?_, ?_, fun v => ?_⟩ <;> simp [sSent, sGot, sLost, cnt, List.sum_append]
theorem gB_small {l : List S48} (h : gB l = false) : small l := by
  unfold gB at h
  rw [Bool.or_eq_false_iff] at h
  refine ⟨by have := h.1; simp at this; exact this, fun r hr => ?_⟩
  have := List.any_eq_false.1 h.2 r hr
  unfold over at this
  simp at this
  exact this
theorem pend_append {a b : List S48} {x : Int} (h : pendIn (a ++ b) x) : pendIn a x ∨ pendIn b x := by
  obtain ⟨⟨r, hr, hs⟩, hg⟩ := h
  rcases List.mem_append.1 hr with hr | hr
  · exact .inl ⟨⟨r, hr, hs⟩, fun ⟨q, hq, h⟩ => hg ⟨q, List.mem_append_left _ hq, h⟩⟩
  · exact .inr ⟨⟨r, hr, hs⟩, fun ⟨q, hq, h⟩ => hg ⟨q, List.mem_append_right _ hq, h⟩⟩
end Go.Proofs.Ytkgchkajpolgeaa.PTraceParts
