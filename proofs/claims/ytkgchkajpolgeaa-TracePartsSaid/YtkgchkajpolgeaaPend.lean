/- What trace.Pending comes to: of at most 100 records, of at most 20 sent and lost each: those that were sent, and neither got nor lost, ascending, each once; in memory of the call's own. -/
import Derived.Test.YtkgchkajpolgeaaPTracePartsx0
import Derived.Test.YtkgchkajpolgeaaLayTr
import Derived.Maps.Own
import Derived.Maps.OwnOps
import Derived.Maps.OwnSet
import Derived.Shelf.AbstractIn
namespace Go.Proofs.Ytkgchkajpolgeaa.PTraceParts
open Go.RowKit Go.Maps Go.Sort Go.Shelf Go.Proofs.YtkgchkajpolgeaaW.PrintWords Go.Proofs.YtkgchkajpolgeaaW.PrintLast Go.Proofs.YtkgchkajpolgeaaW.PrintMore
set_option linter.unusedVariables false
set_option linter.unusedSimpArgs false

theorem law3 : Keyed Try.prog 3 := int_keyed Try.underlying3
/-- The map in block b has just the keys that S holds of. -/
def IntSet (w : World) (b n : Nat) (S : Int → Prop) : Prop := ∃ D : DataW Unit, w.ownsMap Try.prog 3 (plainElem Try.prog 4) b n D ∧ ∀ x, has D (.int .i64 x) = true ↔ S x
def wf64 (x : Int) : Prop := (Lit.int .i64 x).wf = true

theorem IntSet.put {w1 : World} {b n : Nat} {S S' : Int → Prop} {D : DataW Unit} {a : Int} (hD : ∀ x, has D (.int .i64 x) = true ↔ S x) (hm : IsMap D) (h : w1.ownsMap Try.prog 3 (plainElem Try.prog 4) b (n + 1) (D.put (.int .i64 a) (.lit (.bool true))))
    (hS : ∀ x, S' x ↔ S x ∨ x = a) : IntSet w1 b (n + 1) S' := by
  refine ⟨_, h, fun x => ?_⟩
  rw [hS x]
  by_cases e : x = a
  · subst e
    simp [has_put_same hm (k := .int .i64 x) trivial]
  · rw [has_put_other (by simp; exact e), hD x]
    simp [e]
theorem IntSet.del {w1 : World} {b n : Nat} {S S' : Int → Prop} {D : DataW Unit} {a : Int} (hD : ∀ x, has D (.int .i64 x) = true ↔ S x) (h : w1.ownsMap Try.prog 3 (plainElem Try.prog 4) b n (D.del (.int .i64 a)))
    (hS : ∀ x, S' x ↔ S x ∧ x ≠ a) : IntSet w1 b n S' := by
  refine ⟨_, h, fun x => ?_⟩
  rw [hS x]
  by_cases e : x = a
  · subst e
    simp [has_del_same]
  · rw [has_del_other (by simp; exact e), hD x]
    simp [e]
theorem IntSet.imp {w : World} {b n m : Nat} {S S' : Int → Prop} (h : IntSet w b n S) (hn : n ≤ m) (hS : ∀ x, S' x ↔ S x) : IntSet w b m S' := by
  obtain ⟨D, h1, h2⟩ := h
  exact ⟨D, h1.mono hn, fun x => by rw [h2 x, hS x]⟩

def sentIn (l : List S48) (x : Int) : Prop := ∃ r ∈ l, ∃ s ∈ r.f3, s.f0 = x
def goneIn (l : List S48) (x : Int) : Prop := ∃ r ∈ l, (0 ≤ r.f4 ∧ r.f4 = x) ∨ x ∈ r.f5
def pendIn (l : List S48) (x : Int) : Prop := sentIn l x ∧ ¬ goneIn l x

theorem rd48_mem {l : List S48} {k : Int} (h0 : 0 ≤ k) (h : k < (l.length : Int)) : rd_T48 l k ∈ l ∧ l.take (k.toNat + 1) = l.take k.toNat ++ [rd_T48 l k] := by
  have hk : k.toNat < l.length := by omega
  have e : rd_T48 l k = l[k.toNat] := by
    unfold rd_T48
    rw [List.getD_eq_getElem?_getD, List.getElem?_eq_getElem hk]; rfl
  rw [e]
  exact ⟨List.getElem_mem _, by rw [List.take_succ_eq_append_getElem hk]⟩
theorem rd50_mem {l : List S50} {k : Int} (h0 : 0 ≤ k) (h : k < (l.length : Int)) : rd_T50 l k ∈ l ∧ l.take (k.toNat + 1) = l.take k.toNat ++ [rd_T50 l k] := by
  have hk : k.toNat < l.length := by omega
  have e : rd_T50 l k = l[k.toNat] := by
    unfold rd_T50
    rw [List.getD_eq_getElem?_getD, List.getElem?_eq_getElem hk]; rfl
  rw [e]
  exact ⟨List.getElem_mem _, by rw [List.take_succ_eq_append_getElem hk]⟩
theorem rdi_mem {l : List Int} {k : Int} (h0 : 0 ≤ k) (h : k < (l.length : Int)) : Go.Proofs.YtkgchkajpolgeaaW.PrintWords.rd l k ∈ l ∧ l.take (k.toNat + 1) = l.take k.toNat ++ [Go.Proofs.YtkgchkajpolgeaaW.PrintWords.rd l k] := by
  have hk : k.toNat < l.length := by omega
  have e : Go.Proofs.YtkgchkajpolgeaaW.PrintWords.rd l k = l[k.toNat] := by
    unfold Go.Proofs.YtkgchkajpolgeaaW.PrintWords.rd
    rw [List.getD_eq_getElem?_getD, List.getElem?_eq_getElem hk]; rfl
  rw [e]
  exact ⟨List.getElem_mem _, by rw [List.take_succ_eq_append_getElem hk]⟩
theorem sentIn_snoc (l : List S48) (r : S48) (x : Int) : sentIn (l ++ [r]) x ↔ sentIn l x ∨ ∃ s ∈ r.f3, s.f0 = x := by
  unfold sentIn
  simp only [List.mem_append, List.mem_singleton]
  constructor
  · rintro ⟨q, h | rfl, h2⟩
    · exact .inl ⟨q, h, h2⟩
    · exact .inr h2
  · rintro (⟨q, h, h2⟩ | h)
    · exact ⟨q, .inl h, h2⟩
    · exact ⟨r, .inr rfl, h⟩
theorem goneIn_snoc (l : List S48) (r : S48) (x : Int) : goneIn (l ++ [r]) x ↔ goneIn l x ∨ (0 ≤ r.f4 ∧ r.f4 = x) ∨ x ∈ r.f5 := by
  unfold goneIn
  simp only [List.mem_append, List.mem_singleton]
  constructor
  · rintro ⟨q, h | rfl, h2⟩
    · exact .inl ⟨q, h, h2⟩
    · exact .inr h2
  · rintro (⟨q, h, h2⟩ | h)
    · exact ⟨q, .inl h, h2⟩
    · exact ⟨r, .inr rfl, h⟩

/-! ### the library's part -/
theorem sortsA (m : Nat) : AnyZI.SortsIn Try.prog sortedA_ren Fence.wide m :=
  ⟨fun blk off cap ss W hH hblk hsz => callsIn_wide.2 (AnyM.slices_Sort_int sortA blk off cap ss W hH hblk hsz),
   fun p cap W => callsIn_wide.2 (AnyM.slices_Sort_int_none sortA p cap W)⟩
theorem keys_calls (mb : Option Nat) (W : World) : Calls Try.prog 24 #[.map mb] W fun e w' => e = .returned (.func (.func 27) #[] #[.pointer (some ⟨W.heap.size, 0, none⟩)]) ∧ w' = W.alloc (.cells #[.map mb] 51) :=
  callsIn_wide.1 (AnyZI.keys_in keysA Fence.wide 5 trivial rfl mb W)
theorem sorted_calls (b nn g : Nat) (D0 : DataW Unit) (R : Value → Option (DataW Unit × List MemPlace)) (w : World) (hown : w.ownsMap Try.prog 3 R b nn D0) (hg : g < w.heap.size) (hc : w.cell? ⟨g, 0, none⟩ = some (.map (some b))) (hsz : Maps.size D0 ≤ 100000) :
    Calls Try.prog 23 #[.func (.func 27) #[] #[.pointer (some ⟨g, 0, none⟩)]] w fun e w' => ∃ (v : Value) (ss : List Int), e = .returned v ∧ ss.Perm (intKeys D0) ∧
      w'.ownsRow w.heap.size 3 1 v ss.length ((ss.mergeSort (fun x y => decide (x ≤ y))).map encZ) ∧ (v = .slice none 0 0 ↔ ss = []) ∧ Below w.heap.size w w' := by
  have hseq : SeqGives Fence.wide 2 Try.prog 27 #[.pointer (some ⟨g, 0, none⟩)] encZ (fun ss => ss.Perm (intKeys D0)) (Maps.size D0) w :=
    AnyZI.keys_gives (ρ := keysA_ren) { keysA with } Fence.wide _ trivial rfl (by omega) g b nn D0 _ hg hc hown
  exact callsIn_wide.1 (AnyZI.sorted_in sortedA Fence.wide 5 trivial trivial trivial trivial rfl (by omega) (sortsA _) (enters_of Try.func26 (by kernel_rfl) rfl) 27 #[.pointer (some ⟨g, 0, none⟩)] trivial (enters_of Try.func27 (by kernel_rfl) rfl) _ _ (by unfold maxLen; omega) (by omega) _ hseq)

def good48 (r : S48) : Prop := (r.f3.length ≤ 20 ∧ r.f5.length ≤ 20) ∧ (∀ s ∈ r.f3, wf64 s.f0) ∧ wf64 r.f4 ∧ ∀ x ∈ r.f5, wf64 x

theorem sorted_of {D : DataW Unit} {ss : List Int} {w : World} {b n : Nat} {R : Value → Option (DataW Unit × List MemPlace)} (hown : w.ownsMap Try.prog 3 R b n D) (hp : ss.Perm (intKeys D)) :
    (ss.mergeSort (fun x y => decide (x ≤ y))).Pairwise (· < ·) ∧ ∀ x, x ∈ ss.mergeSort (fun x y => decide (x ≤ y)) ↔ has D (.int .i64 x) = true := by
  obtain ⟨es, hD, hpw, _⟩ := hown.entries law3
  obtain ⟨es', hD', hko⟩ := hown.keysOf
  obtain rfl : es = es' := by rw [hD] at hD'; simpa using hD'
  subst hD
  have hk : ∀ p ∈ es, ∃ x, p.1 = .int .i64 x := fun p hp => by obtain ⟨v, hv⟩ := hko p hp; obtain ⟨x, _, hx, _⟩ := Maps.keyOf_i64 Try.underlying3 hv; exact ⟨x, hx⟩
  have hnd : (intKeys (.map es)).Nodup := by
    show (es.map fun p => Go.intOf p.1).Nodup
    refine List.pairwise_map.2 (hpw.imp_of_mem fun {p q} hp' hq' hne e => hne ?_)
    obtain ⟨a, ha⟩ := hk p hp'
    obtain ⟨c, hc⟩ := hk q hq'
    rw [ha, hc] at e ⊢
    exact congrArg _ e
  have hmem : ∀ x, x ∈ intKeys (.map es) ↔ has (.map es) (.int .i64 x) = true := by
    intro x
    rw [has_eq, List.any_eq_true]
    show x ∈ es.map (fun p => Go.intOf p.1) ↔ _
    rw [List.mem_map]
    constructor
    · rintro ⟨p, hp', rfl⟩
      obtain ⟨a, ha⟩ := hk p hp'
      exact ⟨p, hp', by rw [ha]; simp [Lit.sameKey, Go.intOf]⟩
    · rintro ⟨p, hp', hs⟩
      obtain ⟨a, ha⟩ := hk p hp'
      rw [ha] at hs
      exact ⟨p, hp', by rw [ha]; simpa [Lit.sameKey, Go.intOf] using hs⟩
  have hpm := List.mergeSort_perm ss (fun x y => decide (x ≤ y))
  have hnd2 : (ss.mergeSort (fun x y => decide (x ≤ y))).Nodup := (hpm.trans hp).symm.nodup hnd
  have tr : ∀ a b c : Int, (decide (a ≤ b)) = true → (decide (b ≤ c)) = true → (decide (a ≤ c)) = true := fun a b c h1 h2 => by simp only [decide_eq_true_eq] at *; omega
  have tt : ∀ a b : Int, (decide (a ≤ b) || decide (b ≤ a)) = true := fun a b => by simp only [Bool.or_eq_true, decide_eq_true_eq]; omega
  have hs := List.pairwise_mergeSort tr tt ss
  refine ⟨?_, fun x => by rw [(hpm.trans hp).mem_iff, hmem x]⟩
  refine (hs.and hnd2).imp ?_
  rintro a c ⟨h1, h2⟩
  simp only [decide_eq_true_eq] at h1
  omega

set_option maxHeartbeats 2000000 in
set_option maxRecDepth 100000 in
theorem pending_calls (A0 : Option Addr) (c0 : Nat) (l0 : List S48) (w : World) (hr0 : Kd.C k48 w A0 l0.length l0) (hl : l0.length ≤ 100) (hs : ∀ r ∈ l0, good48 r) :
    Calls Try.prog 18 #[.slice A0 l0.length c0] w fun e w' => ∃ (v : Value) (ss : List Int), e = .returned v ∧ Kd.R (Kd.int .i64) 3 w' w.heap.size (fun _ => True) v ss ∧ Below w.heap.size w w' ∧ ss.Pairwise (· < ·) ∧ (∀ x, x ∈ ss ↔ pendIn l0 x) := by
  have HR0 := Aside0.mk hr0
  clear hr0
  have HS := Aside0.mk hs
  clear hs
  have hmm := @run_makeMap Try.prog
  go_enter Try.func18, Try.ntmps18
  go_wp2
  go_loopw [15] (fun v15 wr => ∃ k : Int, v15 = .int .i64 k ∧ 0 ≤ k ∧ k ≤ l0.length ∧ Aside0 (IntSet wr w.heap.size (20 * k.toNat) (sentIn (l0.take k.toNat))) ∧ Aside0 (Below w.heap.size w wr)) (fun v15 _ => l0.length - (intOf v15).toNat)
  case atStart => exact ⟨0, rfl, by omega, by omega, ⟨⟨_, World.ownsMap_made _ _ _ _, fun x => by simp [has_eq, sentIn]⟩⟩, ⟨(Below.refl _ _).alloc (Nat.le_refl _) _⟩⟩
  case round =>
    obtain ⟨k, rfl, hk0, hk, HM, HB⟩ := hrel
    by_cases hlt : k < (l0.length : Int)
    · obtain ⟨ad, A9, c9, A11, c11, e, hx0, hx1, hx2, hx3, hx4, hx5, hx6, hx7, hx8, hx9, hx10, hx11, hl9, hi9, hl11, hi11⟩ := at_T48 HR0.out k hk0 hlt
      cases e
      replace hx0 := (HB.out.cell (World.block_lt_of_cell? w _ hx0)).trans hx0
      replace hx1 := (HB.out.cell (World.block_lt_of_cell? w _ hx1)).trans hx1
      replace hx2 := (HB.out.cell (World.block_lt_of_cell? w _ hx2)).trans hx2
      replace hx3 := (HB.out.cell (World.block_lt_of_cell? w _ hx3)).trans hx3
      replace hx4 := (HB.out.cell (World.block_lt_of_cell? w _ hx4)).trans hx4
      replace hx5 := (HB.out.cell (World.block_lt_of_cell? w _ hx5)).trans hx5
      replace hx6 := (HB.out.cell (World.block_lt_of_cell? w _ hx6)).trans hx6
      replace hx7 := (HB.out.cell (World.block_lt_of_cell? w _ hx7)).trans hx7
      replace hx8 := (HB.out.cell (World.block_lt_of_cell? w _ hx8)).trans hx8
      replace hx9 := (HB.out.cell (World.block_lt_of_cell? w _ hx9)).trans hx9
      replace hx10 := (HB.out.cell (World.block_lt_of_cell? w _ hx10)).trans hx10
      replace hx11 := (HB.out.cell (World.block_lt_of_cell? w _ hx11)).trans hx11
      have HI9 := Aside0.mk hi9
      clear hi9 hl9 hi11 hl11
      have hg : Aside0 (good48 (rd_T48 l0 k)) := ⟨HS.out _ (rd48_mem hk0 hlt).1⟩
      have hlen : (rd_T48 l0 k).f3.length ≤ 20 := hg.out.1.1
      go_wp2
      go_loopw [22] (fun v22 wr2 => ∃ j : Int, v22 = .int .i64 j ∧ 0 ≤ j ∧ j ≤ (rd_T48 l0 k).f3.length ∧ Aside0 (IntSet wr2 w.heap.size (20 * k.toNat + j.toNat) (fun x => sentIn (l0.take k.toNat) x ∨ ∃ s ∈ (rd_T48 l0 k).f3.take j.toNat, s.f0 = x)) ∧ Aside0 (Below w.heap.size w wr2)) (fun v22 _ => (rd_T48 l0 k).f3.length - (intOf v22).toNat)
      case atStart =>
        obtain ⟨D, h1, h2⟩ := HM.out
        exact ⟨0, rfl, by omega, by omega, ⟨⟨D, h1.alloc _, fun x => by simp [h2 x]⟩⟩, ⟨HB.out.alloc HB.out.size _⟩⟩
      case round =>
        clear hx0 hx1 hx2 hx3 hx4 hx5 hx6 hx7 hx8 hx9 hx10 hx11 HM HB
        obtain ⟨j, rfl, hj0, hj, HM, HB⟩ := hrel
        by_cases hjt : j < ((rd_T48 l0 k).f3.length : Int)
        · obtain ⟨ad2, e, hy0, hy1, hy2⟩ := at_T50 HI9.out j hj0 hjt
          cases e
          replace hy0 := (HB.out.cell (World.block_lt_of_cell? w _ hy0)).trans hy0
          replace hy1 := (HB.out.cell (World.block_lt_of_cell? w _ hy1)).trans hy1
          replace hy2 := (HB.out.cell (World.block_lt_of_cell? w _ hy2)).trans hy2
          obtain ⟨D, hown, hD⟩ := HM.out
          have HD := Aside0.mk hD
          clear hD
          have hwf : wf64 (rd_T50 (rd_T48 l0 k).f3 j).f0 := hg.out.2.1 _ (rd50_mem hj0 hjt).1
          have HW := Aside0.mk hwf
          clear hwf
          go_wp2_with (at_mapUpdate; refine wpList_mapUpdate_own _ rfl _ _ _ 51 rfl 3 4 law3 Try.underlying51 _ w.heap.size (20 * k.toNat + j.toNat) D rfl (hown.alloc _) (by unfold maxLen; omega) _ _ _ rfl rfl (keyOf_int_mk Try.underlying3 HW.out) _ [] (plainElem_bool Try.underlying4 true) ?_; intro w1 hown1 hgrow1; have hb1 := Aside0.mk ((HB.out.alloc HB.out.size _).grown hgrow1 (by have := HB.out.size; simp; omega) (fun j hj => by cases hj; exact Nat.le_refl _)); have HO1 := Aside0.mk hown1; clear hown1 hgrow1)
          go_roundw
          case rel =>
            have hjn : (j + 1).toNat = j.toNat + 1 := by omega
            refine ⟨j + 1, rfl, by omega, by omega, ⟨?_⟩, hb1⟩
            rw [hjn]
            refine IntSet.put HD.out hown.isMap HO1.out fun x => ?_
            rw [(rd50_mem hj0 hjt).2]
            simp only [List.mem_append, List.mem_singleton]
            constructor
            · rintro (h | ⟨s, h | rfl, rfl⟩)
              · exact .inl (.inl h)
              · exact .inl (.inr ⟨s, h, rfl⟩)
              · exact .inr rfl
            · rintro ((h | ⟨s, h, rfl⟩) | rfl)
              · exact .inl h
              · exact .inr ⟨s, .inl h, rfl⟩
              · exact .inr ⟨_, .inr rfl, rfl⟩
          case measure => simp [intOf]; omega
        · go_wp2
          go_roundw
          case rel =>
            have ej : j.toNat = (rd_T48 l0 k).f3.length := by omega
            refine ⟨k + 1, rfl, by omega, by omega, ⟨HM.out.imp (by omega) fun x => ?_⟩, HB⟩
            have hkn : (k + 1).toNat = k.toNat + 1 := by omega
            rw [hkn, (rd48_mem hk0 hlt).2, sentIn_snoc, ej, List.take_length]
          case measure => simp [intOf]; omega
    · have ek : k.toNat = l0.length := by omega
      have HM2 : Aside0 (IntSet wr w.heap.size 2000 (sentIn l0)) := ⟨HM.out.imp (by omega) fun x => by rw [ek, List.take_length]⟩
      clear HM
      go_wp2
      clear hlt ek
      go_loopw [33] (fun v33 wq => ∃ k : Int, v33 = .int .i64 k ∧ 0 ≤ k ∧ k ≤ l0.length ∧ Aside0 (IntSet wq w.heap.size 2000 (fun x => sentIn l0 x ∧ ¬ goneIn (l0.take k.toNat) x)) ∧ Aside0 (Below w.heap.size w wq)) (fun v33 _ => l0.length - (intOf v33).toNat)
      case atStart => exact ⟨0, rfl, by omega, by omega, ⟨HM2.out.imp (Nat.le_refl _) fun x => by simp [goneIn]⟩, HB⟩
      case round =>
        clear HM2 HB hk0 hk
        obtain ⟨k, rfl, hk0, hk, HM, HB⟩ := hrel
        by_cases hlt : k < (l0.length : Int)
        · obtain ⟨ad, A9, c9, A11, c11, e, hx0, hx1, hx2, hx3, hx4, hx5, hx6, hx7, hx8, hx9, hx10, hx11, hl9, hi9, hl11, hi11⟩ := at_T48 HR0.out k hk0 hlt
          cases e
          replace hx0 := (HB.out.cell (World.block_lt_of_cell? w _ hx0)).trans hx0
          replace hx1 := (HB.out.cell (World.block_lt_of_cell? w _ hx1)).trans hx1
          replace hx2 := (HB.out.cell (World.block_lt_of_cell? w _ hx2)).trans hx2
          replace hx3 := (HB.out.cell (World.block_lt_of_cell? w _ hx3)).trans hx3
          replace hx4 := (HB.out.cell (World.block_lt_of_cell? w _ hx4)).trans hx4
          replace hx5 := (HB.out.cell (World.block_lt_of_cell? w _ hx5)).trans hx5
          replace hx6 := (HB.out.cell (World.block_lt_of_cell? w _ hx6)).trans hx6
          replace hx7 := (HB.out.cell (World.block_lt_of_cell? w _ hx7)).trans hx7
          replace hx8 := (HB.out.cell (World.block_lt_of_cell? w _ hx8)).trans hx8
          replace hx9 := (HB.out.cell (World.block_lt_of_cell? w _ hx9)).trans hx9
          replace hx10 := (HB.out.cell (World.block_lt_of_cell? w _ hx10)).trans hx10
          replace hx11 := (HB.out.cell (World.block_lt_of_cell? w _ hx11)).trans hx11
          have HI11 := Aside0.mk hi11
          clear hi9 hl9 hi11 hl11
          have hg : Aside0 (good48 (rd_T48 l0 k)) := ⟨HS.out _ (rd48_mem hk0 hlt).1⟩
          have hlen : (rd_T48 l0 k).f5.length ≤ 20 := hg.out.1.2
          obtain ⟨D, hown, hD⟩ := HM.out
          have HD := Aside0.mk hD
          clear hD
          have HB1 := Aside0.mk (fun (o : Obj) => HB.out.alloc HB.out.size o)
          have hlw := hown.lt
          by_cases hgot : 0 ≤ (rd_T48 l0 k).f4
          · have hgb : decide (0 ≤ (rd_T48 l0 k).f4) = true := decide_eq_true hgot
            go_wp2_with (at_delete; refine wpList_delete_own _ rfl _ _ 51 3 rfl 4 law3 Try.underlying51 _ w.heap.size 2000 D rfl (hown.alloc _) _ _ rfl (keyOf_int_mk Try.underlying3 hg.out.2.2.1) ?_; intro w1 hown1 hturn1; have hb1 := Aside0.mk ((HB1.out _).grown hturn1.grown (by have := HB.out.size; simp; omega) (fun j hj => by cases hj; exact Nat.le_refl _)); have HO1 := Aside0.mk hown1; clear hown1; have hcell1 : w1.cell? ⟨wr.heap.size, 11, none⟩ = some (.slice A11 (rd_T48 l0 k).f5.length c11) := (World.cell?_of_block (hturn1.grown.block wr.heap.size (by simp) (by simp; omega))).trans (by go_simp); clear hturn1)
            go_loopw [46] (fun v46 wq => ∃ j : Int, v46 = .int .i64 j ∧ 0 ≤ j ∧ j ≤ (rd_T48 l0 k).f5.length ∧ Aside0 (IntSet wq w.heap.size 2000 (fun x => (sentIn l0 x ∧ ¬ goneIn (l0.take k.toNat) x ∧ ¬ (0 ≤ (rd_T48 l0 k).f4 ∧ (rd_T48 l0 k).f4 = x)) ∧ ¬ x ∈ (rd_T48 l0 k).f5.take j.toNat)) ∧ Aside0 (Below w.heap.size w wq)) (fun v46 _ => (rd_T48 l0 k).f5.length - (intOf v46).toNat)
            case atStart => exact ⟨0, rfl, by omega, by omega, ⟨IntSet.del HD.out HO1.out fun x => by simp [hgot, eq_comm, and_assoc]⟩, hb1⟩
            case round =>
              clear HM HB HB1 HD hgot hgb hx0 hx1 hx2 hx3 hx4 hx5 hx6 hx7 hx8 hx9 hx10 hx11 hb1 HO1 hcell1
              obtain ⟨j, rfl, hj0, hj, HM, HB⟩ := hrel
              by_cases hjt : j < ((rd_T48 l0 k).f5.length : Int)
              · obtain ⟨ad2, e, hy0⟩ := Kd.at_int HI11.out j hj0 hjt
                cases e
                replace hy0 := (HB.out.cell (World.block_lt_of_cell? w _ hy0)).trans hy0
                obtain ⟨D', hown', hD'⟩ := HM.out
                have HD' := Aside0.mk hD'
                clear hD'
                have HW : Aside0 (wf64 (Go.Proofs.YtkgchkajpolgeaaW.PrintWords.rd (rd_T48 l0 k).f5 j)) := ⟨hg.out.2.2.2 _ (rdi_mem hj0 hjt).1⟩
                go_wp2_with (at_delete; refine wpList_delete_own _ rfl _ _ 51 3 rfl 4 law3 Try.underlying51 _ w.heap.size 2000 D' rfl hown' _ _ rfl (keyOf_int_mk Try.underlying3 HW.out) ?_; intro w1 hown1 hturn1; have hb1 := Aside0.mk (HB.out.grown hturn1.grown (by have := HB.out.size; omega) (fun j hj => by cases hj; exact Nat.le_refl _)); have HO1 := Aside0.mk hown1; clear hown1 hturn1)
                go_roundw
                case rel =>
                  have hjn : (j + 1).toNat = j.toNat + 1 := by omega
                  refine ⟨j + 1, rfl, by omega, by omega, ⟨?_⟩, hb1⟩
                  rw [hjn]
                  refine IntSet.del HD'.out HO1.out fun x => ?_
                  rw [(rdi_mem hj0 hjt).2]
                  simp only [List.mem_append, List.mem_singleton, not_or]
                  exact ⟨fun h => ⟨⟨h.1, h.2.1⟩, h.2.2⟩, fun h => ⟨h.1.1, h.1.2, h.2⟩⟩
                case measure => simp [intOf]; omega
              · go_wp2
                go_roundw
                case rel =>
                  have ej : j.toNat = (rd_T48 l0 k).f5.length := by omega
                  refine ⟨k + 1, rfl, by omega, by omega, ⟨HM.out.imp (Nat.le_refl _) fun x => ?_⟩, HB⟩
                  have hkn : (k + 1).toNat = k.toNat + 1 := by omega
                  rw [hkn, (rd48_mem hk0 hlt).2, goneIn_snoc, ej, List.take_length]
                  simp only [not_or]
                  exact ⟨fun h => ⟨⟨h.1, h.2.1, h.2.2.1⟩, h.2.2.2⟩, fun h => ⟨h.1.1, h.1.2.1, h.1.2.2, h.2⟩⟩
                case measure => simp [intOf]; omega
          · have hgb : decide (0 ≤ (rd_T48 l0 k).f4) = false := decide_eq_false hgot
            go_wp2
            go_loopw [46] (fun v46 wq => ∃ j : Int, v46 = .int .i64 j ∧ 0 ≤ j ∧ j ≤ (rd_T48 l0 k).f5.length ∧ Aside0 (IntSet wq w.heap.size 2000 (fun x => (sentIn l0 x ∧ ¬ goneIn (l0.take k.toNat) x ∧ ¬ (0 ≤ (rd_T48 l0 k).f4 ∧ (rd_T48 l0 k).f4 = x)) ∧ ¬ x ∈ (rd_T48 l0 k).f5.take j.toNat)) ∧ Aside0 (Below w.heap.size w wq)) (fun v46 _ => (rd_T48 l0 k).f5.length - (intOf v46).toNat)
            case atStart => exact ⟨0, rfl, by omega, by omega, ⟨⟨D, hown.alloc _, fun x => by rw [HD.out x]; exact ⟨fun h => ⟨⟨h.1, h.2, fun h3 => by have := h3.1; omega⟩, by simp⟩, fun h => ⟨h.1.1, h.1.2.1⟩⟩⟩⟩, ⟨HB1.out _⟩⟩
            case round =>
              clear HM HB HB1 HD hgot hgb hx0 hx1 hx2 hx3 hx4 hx5 hx6 hx7 hx8 hx9 hx10 hx11
              obtain ⟨j, rfl, hj0, hj, HM, HB⟩ := hrel
              by_cases hjt : j < ((rd_T48 l0 k).f5.length : Int)
              · obtain ⟨ad2, e, hy0⟩ := Kd.at_int HI11.out j hj0 hjt
                cases e
                replace hy0 := (HB.out.cell (World.block_lt_of_cell? w _ hy0)).trans hy0
                obtain ⟨D', hown', hD'⟩ := HM.out
                have HD' := Aside0.mk hD'
                clear hD'
                have HW : Aside0 (wf64 (Go.Proofs.YtkgchkajpolgeaaW.PrintWords.rd (rd_T48 l0 k).f5 j)) := ⟨hg.out.2.2.2 _ (rdi_mem hj0 hjt).1⟩
                go_wp2_with (at_delete; refine wpList_delete_own _ rfl _ _ 51 3 rfl 4 law3 Try.underlying51 _ w.heap.size 2000 D' rfl hown' _ _ rfl (keyOf_int_mk Try.underlying3 HW.out) ?_; intro w1 hown1 hturn1; have hb1 := Aside0.mk (HB.out.grown hturn1.grown (by have := HB.out.size; omega) (fun j hj => by cases hj; exact Nat.le_refl _)); have HO1 := Aside0.mk hown1; clear hown1 hturn1)
                go_roundw
                case rel =>
                  have hjn : (j + 1).toNat = j.toNat + 1 := by omega
                  refine ⟨j + 1, rfl, by omega, by omega, ⟨?_⟩, hb1⟩
                  rw [hjn]
                  refine IntSet.del HD'.out HO1.out fun x => ?_
                  rw [(rdi_mem hj0 hjt).2]
                  simp only [List.mem_append, List.mem_singleton, not_or]
                  exact ⟨fun h => ⟨⟨h.1, h.2.1⟩, h.2.2⟩, fun h => ⟨h.1.1, h.1.2, h.2⟩⟩
                case measure => simp [intOf]; omega
              · go_wp2
                go_roundw
                case rel =>
                  have ej : j.toNat = (rd_T48 l0 k).f5.length := by omega
                  refine ⟨k + 1, rfl, by omega, by omega, ⟨HM.out.imp (Nat.le_refl _) fun x => ?_⟩, HB⟩
                  have hkn : (k + 1).toNat = k.toNat + 1 := by omega
                  rw [hkn, (rd48_mem hk0 hlt).2, goneIn_snoc, ej, List.take_length]
                  simp only [not_or]
                  exact ⟨fun h => ⟨⟨h.1, h.2.1, h.2.2.1⟩, h.2.2.2⟩, fun h => ⟨h.1.1, h.1.2.1, h.1.2.2, h.2⟩⟩
                case measure => simp [intOf]; omega
        · obtain ⟨D, hown, hD⟩ := HM.out
          have HD := Aside0.mk hD
          clear hD
          have hlw := hown.lt
          have hsz : Maps.size D ≤ 100000 := by have := hown.size_le; omega
          have hown2 := hown.alloc (.cells #[.map (some w.heap.size)] 51)
          go_wp2_with (first
            | (go_at_call 24; refine (keys_calls _ _).mono ?_; rintro e w' ⟨rfl, rfl⟩)
            | (go_at_call 23; refine (sorted_calls w.heap.size _ wr.heap.size D _ _ hown2 (by simp) (by go_simp) hsz).mono ?_; rintro e w' ⟨v, ss, rfl, hp, hrow, hnil, hb⟩))
          go_ret
          have hso := sorted_of hown hp
          refine ⟨v, _, rfl, Kd.R_of_own (by rw [List.length_mergeSort]; exact (ownsRow_base_a hrow (by have := HB.out.size; simp; omega))) (fun _ _ => trivial), ?_, hso.1, fun x => ?_⟩
          · exact (HB.out.alloc HB.out.size _).trans (hb.mono (by have := HB.out.size; simp; omega))
          · have ek : k.toNat = l0.length := by omega
            rw [hso.2 x, HD.out x, ek, List.take_length]; rfl
end Go.Proofs.Ytkgchkajpolgeaa.PTraceParts
