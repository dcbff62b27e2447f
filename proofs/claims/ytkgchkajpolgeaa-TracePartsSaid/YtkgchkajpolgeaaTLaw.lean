/- What the statement TraceParts comes to when it is called: true, and nothing that was there has turned. -/
import Derived.Test.YtkgchkajpolgeaaTAwake
import Derived.Deep.QuietTactic
import Derived.BigQuiet
import Derived.IntWalk
namespace Go.Proofs.Ytkgchkajpolgeaa.PTraceParts
open Go.RowKit Go.Proofs.YtkgchkajpolgeaaW.PrintWords Go.Proofs.YtkgchkajpolgeaaW.PrintLast Go.Proofs.YtkgchkajpolgeaaW.PrintMore
set_option linter.unusedVariables false
set_option linter.unusedSimpArgs false
def wfr (r : S48) : Prop := (∀ s ∈ r.f3, wf64 s.f0) ∧ wf64 r.f4 ∧ ∀ x ∈ r.f5, wf64 x
def zrec : Value := .agg #[.int .i64 0, .int .i64 0, .int .i64 0, .int .i64 0, .string ⟨#[]⟩, .int .i64 0, .int .i64 0, .int .i64 0, .int .i64 0, .slice none 0 0, .int .i64 0, .slice none 0 0]
theorem info48 : (Try.prog.info? 48).map (fun i => (i.zero, i.size, i.bytes)) = some (some zrec, 12, 136) := by kernel_rfl

theorem sums_small {l : List S48} (h : small l) : (0 ≤ sSent l ∧ sSent l ≤ 2000) ∧ (0 ≤ sGot l ∧ sGot l ≤ 2000) ∧ (0 ≤ sLost l ∧ sLost l ≤ 2000) ∧ ∀ v, 0 ≤ cnt v l ∧ cnt v l ≤ 2000 := by
  have hl := h.1
  have q1 := sum_range (f := fun r : S48 => (r.f3.length : Int)) (b := 20) l (fun r hr => by have := (h.2 r hr).1; omega)
  have q2 := sum_range (f := fun r : S48 => if r.f4 ≥ 0 then (1 : Int) else 0) (b := 1) l (fun r _ => by by_cases h : r.f4 ≥ 0 <;> simp [h])
  have q3 := sum_range (f := fun r : S48 => (r.f5.length : Int)) (b := 20) l (fun r hr => by have := (h.2 r hr).2; omega)
  have q4 := fun v : Int => sum_range (f := fun r : S48 => if r.f1 = v then (1 : Int) else 0) (b := 1) l (fun r _ => by by_cases h : r.f1 = v <;> simp [h])
  unfold sSent sGot sLost cnt
  refine ⟨by omega, by omega, by omega, fun v => ?_⟩
  have := q4 v
  omega
def OfIs (l : List S48) (x1 x2 x3 x4 x5 x6 : Int) : Prop := ∀ (A : Option Addr) (c : Nat) (w : World), Kd.C k48 w A l.length l → l.length ≤ c → Calls Try.prog 17 #[.slice A l.length c] w fun e w' => e = .returned (.agg #[.int .i64 x1, .int .i64 x2, .int .i64 x3, .int .i64 x4, .int .i64 x5, .int .i64 x6]) ∧ Below w.heap.size w w'
theorem of_three {a b : List S48} (ha : small a) (hb : small b) (hl : (a ++ b).length ≤ 100) : ∃ x1 x2 x3 x4 x5 x6 y1 y2 y3 y4 y5 y6 : Int,
    (0 ≤ x1 ∧ x1 ≤ 2000) ∧ (0 ≤ x2 ∧ x2 ≤ 2000) ∧ (0 ≤ x3 ∧ x3 ≤ 2000) ∧ (0 ≤ x4 ∧ x4 ≤ 2000) ∧ (0 ≤ x5 ∧ x5 ≤ 2000) ∧ (0 ≤ x6 ∧ x6 ≤ 2000) ∧
    (0 ≤ y1 ∧ y1 ≤ 2000) ∧ (0 ≤ y2 ∧ y2 ≤ 2000) ∧ (0 ≤ y3 ∧ y3 ≤ 2000) ∧ (0 ≤ y4 ∧ y4 ≤ 2000) ∧ (0 ≤ y5 ∧ y5 ≤ 2000) ∧ (0 ≤ y6 ∧ y6 ≤ 2000) ∧
    OfIs a x1 x2 x3 x4 x5 x6 ∧ OfIs b y1 y2 y3 y4 y5 y6 ∧ OfIs (a ++ b) (x1 + y1) (x2 + y2) (x3 + y3) (x4 + y4) (x5 + y5) (x6 + y6) := by
  obtain ⟨p1, p2, p3, p4⟩ := sums_small ha
  obtain ⟨q1, q2, q3, q4⟩ := sums_small hb
  obtain ⟨e1, e2, e3, e4⟩ := sums_append a b
  refine ⟨sSent a, sGot a, sLost a, cnt 3 a, cnt 2 a, cnt 1 a, sSent b, sGot b, sLost b, cnt 3 b, cnt 2 b, cnt 1 b, p1, p2, p3, p4 3, p4 2, p4 1, q1, q2, q3, q4 3, q4 2, q4 1, ?_, ?_, ?_⟩
  · exact fun A c w hr hc => of_calls A c a w hr hc ha
  · exact fun A c w hr hc => of_calls A c b w hr hc hb
  · intro A c w hr hc
    have := of_calls A c (a ++ b) w hr hc ⟨hl, fun r hr => (List.mem_append.1 hr).elim (ha.2 r) (hb.2 r)⟩
    rw [e1, e2, e3, e4, e4, e4] at this
    exact this
set_option maxHeartbeats 4000000 in
set_option maxRecDepth 100000 in
theorem law_great (A0 : Option Addr) (c0 : Nat) (a : List S48) (A1 : Option Addr) (c1 : Nat) (b : List S48) (w : World) (hrA : Kd.C k48 w A0 a.length a) (hcA : a.length ≤ c0) (hrB : Kd.C k48 w A1 b.length b) (hcB : b.length ≤ c1)
    (hg : gB a = true ∨ gB b = true ∨ 50 < a.length ∨ 50 < b.length) :
    Calls Try.prog 6 #[.slice A0 a.length c0, .slice A1 b.length c1] w fun e w' => e = .returned (.bool true) ∧ Below w.heap.size w w' := by
  have HA := Aside0.mk hrA
  have HB := Aside0.mk hrB
  clear hrA hrB
  by_cases h1 : gB a = true
  · clear hg
    go_enter Try.func6, Try.ntmps6
    go_wp2_with fail
    refine (great_calls A0 c0 a _ HA.out hcA).mono ?_
    rintro e w1 ⟨rfl, hb⟩
    have hb1 := Aside0.mk hb
    clear hb
    go_wp2_with fail
    refine (awake_calls _).mono ?_
    rintro e w2 ⟨rfl, hb⟩
    go_wp2
    go_ret
    exact ⟨rfl, hb1.out.trans (hb.mono hb1.out.size)⟩
  · replace h1 : gB a = false := by simpa using h1
    by_cases h2 : gB b = true
    · clear hg
      go_enter Try.func6, Try.ntmps6
      go_wp2_with fail
      refine (great_calls A0 c0 a _ HA.out hcA).mono ?_
      rintro e w1 ⟨rfl, hb⟩
      have hb1 := Aside0.mk hb
      have HB1 := Aside0.mk (Kd.C_below HB.out hb)
      clear hb
      go_wp2_with fail
      refine (great_calls A1 c1 b _ HB1.out hcB).mono ?_
      rintro e w2 ⟨rfl, hb⟩
      have hb2 := Aside0.mk (hb1.out.trans (hb.mono hb1.out.size))
      clear hb
      go_wp2_with fail
      refine (awake_calls _).mono ?_
      rintro e w3 ⟨rfl, hb⟩
      go_wp2
      go_ret
      exact ⟨rfl, hb2.out.trans (hb.mono hb2.out.size)⟩
    · replace h2 : gB b = false := by simpa using h2
      have hl : 50 < a.length ∨ 50 < b.length := by
        rcases hg with h | h | h
        · rw [h1] at h; cases h
        · rw [h2] at h; cases h
        · exact h
      clear hg
      by_cases h3 : 50 < a.length
      · have h3' : decide ((50 : Int) < (a.length : Int)) = true := decide_eq_true (by omega)
        clear hl h3
        go_enter Try.func6, Try.ntmps6
        go_wp2_with fail
        refine (great_calls A0 c0 a _ HA.out hcA).mono ?_
        rintro e w1 ⟨rfl, hb⟩
        have hb1 := Aside0.mk hb
        have HB1 := Aside0.mk (Kd.C_below HB.out hb)
        clear hb
        go_wp2_with fail
        refine (great_calls A1 c1 b _ HB1.out hcB).mono ?_
        rintro e w2 ⟨rfl, hb⟩
        have hb2 := Aside0.mk (hb1.out.trans (hb.mono hb1.out.size))
        clear hb
        go_wp2_with fail
        refine (awake_calls _).mono ?_
        rintro e w3 ⟨rfl, hb⟩
        go_wp2
        go_ret
        exact ⟨rfl, hb2.out.trans (hb.mono hb2.out.size)⟩
      · have h3' : decide (50 < a.length) = false := decide_eq_false h3
        have h4' : decide ((50 : Int) < (b.length : Int)) = true := decide_eq_true (by have := hl.resolve_left h3; omega)
        have h5' : decide ((50 : Int) < (a.length : Int)) = false := decide_eq_false (by omega)
        clear hl h3 h3'
        go_enter Try.func6, Try.ntmps6
        go_wp2_with fail
        refine (great_calls A0 c0 a _ HA.out hcA).mono ?_
        rintro e w1 ⟨rfl, hb⟩
        have hb1 := Aside0.mk hb
        have HB1 := Aside0.mk (Kd.C_below HB.out hb)
        clear hb
        go_wp2_with fail
        refine (great_calls A1 c1 b _ HB1.out hcB).mono ?_
        rintro e w2 ⟨rfl, hb⟩
        have hb2 := Aside0.mk (hb1.out.trans (hb.mono hb1.out.size))
        clear hb
        go_wp2_with fail
        refine (awake_calls _).mono ?_
        rintro e w3 ⟨rfl, hb⟩
        go_wp2
        go_ret
        exact ⟨rfl, hb2.out.trans (hb.mono hb2.out.size)⟩

theorem in_step {q : Bool} {x y : Int} {l : List Int} (h : q = decide (x ∈ l)) : (q || (y == x)) = decide (x ∈ l ++ [y]) := by
  subst h
  by_cases h1 : x ∈ l <;> by_cases h2 : y = x <;> (first | (subst h2; simp [h1]; done) | (have h3 : ¬ x = y := fun h => h2 h.symm; simp [h1, h2, h3]))
theorem in_step2 {q q' : Bool} {x y : Int} {l : List Int} (h : q' = (q || decide (x ∈ l))) : (q' || (y == x)) = (q || decide (x ∈ l ++ [y])) := by
  subst h
  by_cases h1 : x ∈ l <;> by_cases h2 : y = x <;> (first | (subst h2; simp [h1]; done) | (have h3 : ¬ x = y := fun h => h2 h.symm; simp [h1, h2, h3]))
theorem rising {l : List Int} (h : l.Pairwise (· < ·)) {i : Int} (h0 : 0 < i) (h1 : i < (l.length : Int)) : Go.Proofs.YtkgchkajpolgeaaW.PrintWords.rd l (i - 1) < Go.Proofs.YtkgchkajpolgeaaW.PrintWords.rd l i := by
  have e : ∀ k : Int, 0 ≤ k → (hk : k.toNat < l.length) → Go.Proofs.YtkgchkajpolgeaaW.PrintWords.rd l k = l[k.toNat] := by
    intro k _ hk
    unfold Go.Proofs.YtkgchkajpolgeaaW.PrintWords.rd
    rw [List.getD_eq_getElem?_getD, List.getElem?_eq_getElem hk]; rfl
  rw [e (i - 1) (by omega) (by omega), e i (by omega) (by omega)]
  exact List.pairwise_iff_getElem.1 h _ _ _ _ (by omega)
set_option maxHeartbeats 600000 in
set_option maxRecDepth 100000 in
theorem law_small (A0 : Option Addr) (c0 : Nat) (a : List S48) (A1 : Option Addr) (c1 : Nat) (b : List S48) (w : World) (hrA : Kd.C k48 w A0 a.length a) (hcA : a.length ≤ c0) (hrB : Kd.C k48 w A1 b.length b) (hcB : b.length ≤ c1)
    (h1 : gB a = false) (h2 : gB b = false) (h3 : a.length ≤ 50) (h4 : b.length ≤ 50) (hwa : ∀ r ∈ a, wfr r) (hwb : ∀ r ∈ b, wfr r) :
    Calls Try.prog 6 #[.slice A0 a.length c0, .slice A1 b.length c1] w fun e w' => e = .returned (.bool true) ∧ Below w.heap.size w w' := by
  have HA := Aside0.mk hrA
  have HB := Aside0.mk hrB
  have HWA := Aside0.mk hwa
  have HWB := Aside0.mk hwb
  clear hrA hrB hwa hwb
  have h3' : decide (50 < a.length) = false := decide_eq_false (by omega)
  have h4' : decide (50 < b.length) = false := decide_eq_false (by omega)
  go_enter Try.func6, Try.ntmps6
  go_wp2_with fail
  refine (great_calls A0 c0 a _ HA.out hcA).mono ?_
  rintro e w1 ⟨rfl, hb⟩
  have hb1 := Aside0.mk hb
  have HB1 := Aside0.mk (Kd.C_below HB.out hb)
  have HA1 := Aside0.mk (Kd.C_below HA.out hb)
  clear hb HA HB
  go_wp2_with fail
  refine (great_calls A1 c1 b _ HB1.out hcB).mono ?_
  rintro e w2 ⟨rfl, hb⟩
  have hb2 := Aside0.mk (hb1.out.trans (hb.mono hb1.out.size))
  have HB2 := Aside0.mk (Kd.C_below HB1.out hb)
  have HA2 := Aside0.mk (Kd.C_below HA1.out hb)
  clear hb HA1 HB1 hb1
  have SA := Aside0.mk (gB_small h1)
  have SB := Aside0.mk (gB_small h2)
  obtain ⟨csa, fa, ca⟩ := Rd.flat_of_C HA2.out
  have FA := Aside0.mk fa
  have CA := Aside0.mk ca
  clear fa ca
  obtain ⟨csb, fb, cb⟩ := Rd.flat_of_C HB2.out
  have FB := Aside0.mk fb
  have CB := Aside0.mk cb
  clear fb cb
  go_wp2_with (first
    | (at_builtin; refine Rd.wpList_append_flat rfl (.const (.slice none 0 0)) (.tmp 33) 32 rfl w2.heap.size 48 zrec 12 136 Try.underlying32 info48 rfl (by decide) (.slice none 0 0) 0 [] rfl ⟨by simp, .inl ⟨rfl, rfl⟩⟩ A0 a.length c0 csa rfl FA.out.1 CA.out (Rd.flat_one FA.out) (by unfold maxLen; omega) (by omega) (Nat.le_refl _) ?_; intro v3 w3 hown3 hgr3 hat3; have HO3 := Aside0.mk hown3; have hb3 := Aside0.mk ((Below.refl _ _).grown hgr3 (Nat.le_refl _) (by simp [Value.ownBlock])); clear hown3 hgr3)
    | (at_builtin; refine Rd.wpList_append_flat rfl (.tmp 34) (.tmp 35) 32 rfl w2.heap.size 48 zrec 12 136 Try.underlying32 info48 rfl (by decide) v3 (0 + a.length) ([] ++ csa) rfl HO3.out A1 b.length c1 csb rfl FB.out.1 (Rd.cells_below CB.out hb3.out) (Rd.flat_one FB.out) (by unfold maxLen; omega) (by omega) hb3.out.size ?_; intro v4 w4 hown4 hgr4 hat4; have HO4 := Aside0.mk hown4; have hgr4 := Aside0.mk hgr4; clear hown4))
  have hb4 : Aside0 (Below w2.heap.size w2 w4) := ⟨hb3.out.grown hgr4.out hb3.out.size (fun k hk => own_base HO3.out k hk)⟩
  obtain ⟨Ar, cr, rfl, hcR, hCR⟩ := Rd.C_of_own (d := k48) (xs := a ++ b) HO4.out (Rd.reps_append (Rd.reps_below FA.out hb4.out) (Rd.reps_below FB.out hb4.out)) (by simp) (by omega)
  have er : 0 + a.length + b.length = (a ++ b).length := by simp
  rw [er] at hcR hCR ⊢
  have HR := Aside0.mk hCR
  have HA4 := Aside0.mk (Kd.C_below HA2.out hb4.out)
  have HB4 := Aside0.mk (Kd.C_below HB2.out hb4.out)
  have hbw := Aside0.mk (hb2.out.trans (hb4.out.mono hb2.out.size))
  clear hCR hat3 hat4 hgr4 HO3 HO4 hb3 hb4 FA FB CA CB HA2 HB2 hb2 er
  obtain ⟨ab, hab⟩ : ∃ ab, ab = a ++ b := ⟨_, rfl⟩
  rw [← hab] at hcR HR ⊢
  have HAB := Aside0.mk hab
  have hlab : ab.length ≤ 100 := by rw [hab]; simp; omega
  clear hab
  obtain ⟨x1, x2, x3, x4, x5, x6, y1, y2, y3, y4, y5, y6, ⟨bx1, cx1⟩, ⟨bx2, cx2⟩, ⟨bx3, cx3⟩, ⟨bx4, cx4⟩, ⟨bx5, cx5⟩, ⟨bx6, cx6⟩, ⟨by1, cy1⟩, ⟨by2, cy2⟩, ⟨by3, cy3⟩, ⟨by4, cy4⟩, ⟨by5, cy5⟩, ⟨by6, cy6⟩, oa, ob, oc⟩ := of_three SA.out SB.out (by rw [← HAB.out]; exact hlab)
  rw [← HAB.out] at oc
  have OA := Aside0.mk oa
  have OB := Aside0.mk ob
  have OC := Aside0.mk oc
  clear oa ob oc
  refine (OA.out A0 c0 _ HA4.out hcA).mono ?_
  rintro e w5 ⟨rfl, hb⟩
  have hb5 := Aside0.mk (hbw.out.trans (hb.mono hbw.out.size))
  have HA5 := Aside0.mk (Kd.C_below HA4.out hb)
  have HB5 := Aside0.mk (Kd.C_below HB4.out hb)
  have HR5 := Aside0.mk (Kd.C_below HR.out hb)
  clear hb hbw HA4 HB4 HR
  go_wp2_with fail
  refine (OB.out A1 c1 _ HB5.out hcB).mono ?_
  rintro e w6 ⟨rfl, hb⟩
  have hb6 := Aside0.mk (hb5.out.trans (hb.mono hb5.out.size))
  have HA6 := Aside0.mk (Kd.C_below HA5.out hb)
  have HB6 := Aside0.mk (Kd.C_below HB5.out hb)
  have HR6 := Aside0.mk (Kd.C_below HR5.out hb)
  clear hb hb5 HA5 HB5 HR5
  go_wp2_with fail
  refine (OC.out Ar cr _ HR6.out hcR).mono ?_
  rintro e w7 ⟨rfl, hb⟩
  have hb7 := Aside0.mk (hb6.out.trans (hb.mono hb6.out.size))
  have HA7 := Aside0.mk (Kd.C_below HA6.out hb)
  have HB7 := Aside0.mk (Kd.C_below HB6.out hb)
  have HR7 := Aside0.mk (Kd.C_below HR6.out hb)
  clear hb hb6 HA6 HB6 HR6 OA OB OC
  go_wp2_with fail
  refine Rd.gen_call (R := fun W => Below w.heap.size w W ∧ Kd.C k48 W A0 a.length a ∧ Kd.C k48 W A1 b.length b ∧ Kd.C k48 W Ar ab.length ab) ⟨?_, ?_, ?_, ?_⟩ ?_
  · exact ((hb7.out.alloc hb7.out.size _).alloc (by have := hb7.out.size; simp; omega) _).alloc (by have := hb7.out.size; simp; omega) _
  · exact Kd.C_below HA7.out ((((Below.refl _ _).alloc (Nat.le_refl _) _).alloc (by simp) _).alloc (by simp; omega) _)
  · exact Kd.C_below HB7.out ((((Below.refl _ _).alloc (Nat.le_refl _) _).alloc (by simp) _).alloc (by simp; omega) _)
  · exact Kd.C_below HR7.out ((((Below.refl _ _).alloc (Nat.le_refl _) _).alloc (by simp) _).alloc (by simp; omega) _)
  clear bx1 cx1 bx2 cx2 bx3 cx3 bx4 cx4 bx5 cx5 bx6 cx6 by1 cy1 by2 cy2 by3 cy3 by4 cy4 by5 cy5 by6 cy6 hb7 HA7 HB7 HR7
  rintro w8 ⟨hb, ha8, hb8, hr8⟩
  have hw8 := Aside0.mk hb
  have HA8 := Aside0.mk ha8
  have HB8 := Aside0.mk hb8
  have HR8 := Aside0.mk hr8
  clear hb ha8 hb8 hr8
  refine (pending_calls A0 c0 a _ HA8.out (by omega) (fun r hr => ⟨SA.out.2 r hr, HWA.out r hr⟩)).mono ?_
  rintro e w9 ⟨v9, ssa, rfl, hR, hb, hp, hm⟩
  have hw9 := Aside0.mk (hw8.out.trans (hb.mono hw8.out.size))
  have HB9 := Aside0.mk (Kd.C_below HB8.out hb)
  have HR9 := Aside0.mk (Kd.C_below HR8.out hb)
  have HA9 := Aside0.mk (Kd.C_below HA8.out hb)
  obtain ⟨A9, c9, rfl, hc9, hC9⟩ := Kd.R_reads hR
  have HS9 := Aside0.mk hC9
  have HMa := Aside0.mk hm
  clear hR hb hp hC9 hm hw8 HA8 HB8 HR8
  go_wp2_with fail
  refine (pending_calls A1 c1 b _ HB9.out (by omega) (fun r hr => ⟨SB.out.2 r hr, HWB.out r hr⟩)).mono ?_
  rintro e w10 ⟨v10, ssb, rfl, hR, hb, hp, hm⟩
  have hw10 := Aside0.mk (hw9.out.trans (hb.mono hw9.out.size))
  have HR10 := Aside0.mk (Kd.C_below HR9.out hb)
  have HA10 := Aside0.mk (Kd.C_below HA9.out hb)
  have HB10 := Aside0.mk (Kd.C_below HB9.out hb)
  have HSa10 := Aside0.mk (Kd.C_below HS9.out hb)
  obtain ⟨A10, c10, rfl, hc10, hC10⟩ := Kd.R_reads hR
  have HS10 := Aside0.mk hC10
  have HMb := Aside0.mk hm
  clear hR hb hp hC10 hm hw9 HB9 HR9 HS9
  go_wp2_with fail
  refine (pending_calls Ar cr ab _ HR10.out (by omega) (fun r hr => by rw [HAB.out] at hr; exact (List.mem_append.1 hr).elim (fun h => ⟨SA.out.2 r h, HWA.out r h⟩) (fun h => ⟨SB.out.2 r h, HWB.out r h⟩))).mono ?_
  rintro e w11 ⟨v11, ssr, rfl, hR, hb, hp, hm⟩
  have hw11 := Aside0.mk (hw10.out.trans (hb.mono hw10.out.size))
  have HR11 := Aside0.mk (Kd.C_below HR10.out hb)
  have HA11 := Aside0.mk (Kd.C_below HA10.out hb)
  have HB11 := Aside0.mk (Kd.C_below HB10.out hb)
  have HLEN : Aside0 (a.length ≤ c0 ∧ b.length ≤ c1 ∧ ab.length ≤ cr ∧ a.length ≤ 50 ∧ b.length ≤ 50 ∧ ab.length ≤ 100) := ⟨hcA, hcB, hcR, h3, h4, hlab⟩
  have HSa11 := Aside0.mk (Kd.C_below HSa10.out hb)
  have HSb11 := Aside0.mk (Kd.C_below HS10.out hb)
  obtain ⟨A11, c11, rfl, hc11, hC11⟩ := Kd.R_reads hR
  have HS11 := Aside0.mk hC11
  have HMr := Aside0.mk hm
  have HP := Aside0.mk hp
  clear hR hb hp hC11 hm hw10 HR10 HSa10 HS10
  go_wp2
  clear hcA hcB hcR hlab hc9 hc10 hc11 h3 h4 h3' h4' h1 h2 SA SB HWA HWB HA10 HB10 HA9
  go_loopw [12] (fun v12 wr => ∃ i : Int, v12 = .int .i64 i ∧ 0 ≤ i ∧ i ≤ ssr.length ∧ Aside0 (Below w11.heap.size w11 wr)) (fun v12 _ => ssr.length - (intOf v12).toNat)
  case atStart => exact ⟨0, rfl, by omega, by omega, ⟨Below.refl _ _⟩⟩
  case round =>
    obtain ⟨i, rfl, hi0, hi, HBi⟩ := hrel
    have hlr := HS11.out.2.1
    by_cases hlt : i < (ssr.length : Int)
    · go_wp2
      go_loopw [13, 14] (fun v13 v14 wq => ∃ (q : Bool) (k : Int), v13 = .bool q ∧ v14 = .int .i64 k ∧ 0 ≤ k ∧ k ≤ ssa.length ∧ Aside0 (q = decide (Go.Proofs.YtkgchkajpolgeaaW.PrintWords.rd ssr i ∈ ssa.take k.toNat)) ∧ Aside0 (Below w11.heap.size w11 wq)) (fun _ v14 _ => ssa.length - (intOf v14).toNat)
      case atStart => exact ⟨false, 0, rfl, rfl, by omega, by omega, ⟨by simp⟩, HBi⟩
      case round =>
        clear HBi
        obtain ⟨q, k, rfl, rfl, hk0, hk, HQ, HBk⟩ := hrel
        have hla := HSa11.out.2.1
        by_cases hkt : k < (ssa.length : Int)
        · obtain ⟨ad, e, hx⟩ := Kd.at_int HSa11.out k hk0 hkt
          cases e
          replace hx := (HBk.out.cell (World.block_lt_of_cell? w11 _ hx)).trans hx
          obtain ⟨ad2, e, hy⟩ := Kd.at_int HS11.out i hi0 hlt
          cases e
          replace hy := (HBk.out.cell (World.block_lt_of_cell? w11 _ hy)).trans hy
          cases q
          all_goals
            go_wp2
            go_quiet (fail)
            go_wp2
            go_roundw
            case rel =>
              have ek : (k + 1).toNat = k.toNat + 1 := by omega
              refine ⟨_, k + 1, rfl, rfl, by omega, by omega, ⟨?_⟩, ⟨pw_below_drewN HBk.out _⟩⟩
              rw [ek, (rdi_mem hk0 hkt).2]
              exact in_step HQ.out
            case measure => simp [intOf]; omega
        · have ek : k.toNat = ssa.length := by omega
          have HQ2 : Aside0 (q = decide (Go.Proofs.YtkgchkajpolgeaaW.PrintWords.rd ssr i ∈ ssa)) := ⟨by rw [HQ.out, ek, List.take_length]⟩
          clear HQ
          go_wp2
          clear hkt ek hk0 hk hla
          go_loopw [13, 15] (fun v13 v15 wq => ∃ (q' : Bool) (k : Int), v13 = .bool q' ∧ v15 = .int .i64 k ∧ 0 ≤ k ∧ k ≤ ssb.length ∧ Aside0 (q' = (q || decide (Go.Proofs.YtkgchkajpolgeaaW.PrintWords.rd ssr i ∈ ssb.take k.toNat))) ∧ Aside0 (Below w11.heap.size w11 wq)) (fun _ v15 _ => ssb.length - (intOf v15).toNat)
          case atStart => exact ⟨q, 0, rfl, rfl, by omega, by omega, ⟨by simp⟩, HBk⟩
          case round =>
            clear HBk
            obtain ⟨q', k, rfl, rfl, hk0, hk, HQ', HBk⟩ := hrel
            have hlb := HSb11.out.2.1
            by_cases hkt : k < (ssb.length : Int)
            · obtain ⟨ad, e, hx⟩ := Kd.at_int HSb11.out k hk0 hkt
              cases e
              replace hx := (HBk.out.cell (World.block_lt_of_cell? w11 _ hx)).trans hx
              obtain ⟨ad2, e, hy⟩ := Kd.at_int HS11.out i hi0 hlt
              cases e
              replace hy := (HBk.out.cell (World.block_lt_of_cell? w11 _ hy)).trans hy
              cases q'
              all_goals
                go_wp2
                go_quiet (fail)
                go_wp2
                go_roundw
                case rel =>
                  have ek : (k + 1).toNat = k.toNat + 1 := by omega
                  refine ⟨_, k + 1, rfl, rfl, by omega, by omega, ⟨?_⟩, ⟨pw_below_drewN HBk.out _⟩⟩
                  rw [ek, (rdi_mem hk0 hkt).2]
                  exact in_step2 HQ'.out
                case measure => simp [intOf]; omega
            · have ek : k.toNat = ssb.length := by omega
              have hq : q' = true := by
                rw [HQ'.out, ek, List.take_length, HQ2.out]
                have hin := (HMr.out _).1 (rdi_mem hi0 hlt).1
                rw [HAB.out] at hin
                rcases pend_append hin with h | h
                · have := (HMa.out _).2 h
                  simp [this]
                · have := (HMb.out _).2 h
                  simp [this]
              subst hq
              clear HQ' ek
              obtain ⟨ad2, e, hy⟩ := Kd.at_int HS11.out i hi0 hlt
              cases e
              replace hy := (HBk.out.cell (World.block_lt_of_cell? w11 _ hy)).trans hy
              by_cases hz : i = 0
              · subst hz
                have hz1 : decide ((0 : Int) < 0) = false := rfl
                go_wp2
                go_quiet (fail)
                go_wp2
                go_roundw
                case rel => exact ⟨1, by first | rfl | simp, by omega, by omega, ⟨pw_below_drewN HBk.out _⟩⟩
                case measure => simp [intOf]; omega
              · have hz1 : decide (0 < i) = true := decide_eq_true (by omega)
                obtain ⟨j, hj⟩ : ∃ j, i - 1 = j := ⟨_, rfl⟩
                have hj0 : 0 ≤ j := by omega
                have hj1 : j < (ssr.length : Int) := by omega
                obtain ⟨ad3, e, hz⟩ := Kd.at_int HS11.out j hj0 hj1
                cases e
                replace hz := (HBk.out.cell (World.block_lt_of_cell? w11 _ hz)).trans hz
                have hlt2 : decide (Go.Proofs.YtkgchkajpolgeaaW.PrintWords.rd ssr i ≤ Go.Proofs.YtkgchkajpolgeaaW.PrintWords.rd ssr j) = false := decide_eq_false (by have := rising HP.out (by omega) hlt; rw [hj] at this; omega)
                have hwr : IntKind.i64.wrap (i - 1) = j := (IntWalk.i64_in _ (by omega)).trans hj
                go_wp2
                go_quiet (fail)
                go_wp2
                go_roundw
                case rel => exact ⟨i + 1, by first | rfl | simp, by omega, by omega, ⟨pw_below_drewN HBk.out _⟩⟩
                case measure => simp [intOf]; omega
    · go_wp2_with fail
      have hbr := HBi.out
      obtain ⟨l1, l2, l3, l4, l5, l6⟩ := HLEN.out
      refine (asked_calls Ar cr ab _ (Kd.C_below HR11.out hbr) l3 l6).mono ?_
      rintro e w12 ⟨v12, rfl, hR, hb⟩
      have hw12 := Aside0.mk (hbr.trans (hb.mono hbr.size))
      obtain ⟨A12, c12, rfl, hc12, hC12⟩ := Kd.R_reads hR
      have HC12 := Aside0.mk hC12
      clear hR hb hC12 hbr HBi
      go_wp2_with fail
      have hb12 := hw12.out
      refine (asked_calls A0 c0 a _ (Kd.C_below HA11.out hb12) l1 (by omega)).mono ?_
      rintro e w13 ⟨v13, rfl, hR, hb⟩
      have hw13 := Aside0.mk (hb12.trans (hb.mono hb12.size))
      have HC13 := Aside0.mk (Kd.C_below HC12.out hb)
      have HR13 := Aside0.mk hR
      have hs13 := Aside0.mk hb
      clear hR hb hb12
      go_wp2_with fail
      have hb13 := hw13.out
      refine (asked_calls A1 c1 b _ (Kd.C_below HB11.out hb13) l2 (by omega)).mono ?_
      rintro e w14 ⟨v14, rfl, hR, hb⟩
      have hw14 := Aside0.mk (hb13.trans (hb.mono hb13.size))
      have HC14 := Aside0.mk (Kd.C_below HC13.out hb)
      have HR14 := Aside0.mk (Kd.R_below HR13.out hb)
      obtain ⟨A14, c14, rfl, hc14, hC14⟩ := Kd.R_reads hR
      have HD14 := Aside0.mk hC14
      have hs14 := Aside0.mk (hs13.out.trans (hb.mono hs13.out.size))
      clear hR hb hC14 hb13
      have la := asked_len a
      have lb := asked_len b
      go_wp2_with (at_builtin; refine Kd.R_append_row (Value.int .i64) (0 : Int) (w0 := w12) w12.heap.size rfl (.tmp 170) (.tmp 172) 37 3 (.int .i64 0) 8 rfl Try.underlying37 info3 rfl (by decide) v13 (asked a) (asked b) A14 (asked b).length c14 (fun _ => True) rfl rfl (fun _ _ => trivial) HR14.out HD14.out hs14.out hs14.out.size (by omega) ?_; intro v15 w15 hR15 hb15 hg15 hat15; have HR15 := Aside0.mk hR15; have HB15 := Aside0.mk hb15; have HG15 := Aside0.mk hg15; clear hR15 hb15 hg15 hat15)
      obtain ⟨ls, hls⟩ : ∃ ls, asked a ++ asked b = ls := ⟨_, rfl⟩
      have hR15 := HR15.out
      rw [hls] at hR15
      obtain ⟨A15, c15, rfl, hc15, hC15⟩ := Kd.R_reads hR15
      have hq : decide (asked ab = ls) = true := decide_eq_true (by rw [HAB.out, asked_append, hls])
      have lab : (asked ab).length ≤ 1000 := by have := asked_len ab; omega
      clear hls hR15
      refine (same_calls A12 c12 (asked ab) A15 c15 ls _ (Kd.C_below HC12.out HB15.out) hc12 hC15 hc15 lab).mono ?_
      rintro e w16 ⟨rfl, hb⟩
      rw [hq]
      have hbf : Aside0 (Below w.heap.size w w16) := ⟨hw11.out.trans ((hw12.out.trans ((HB15.out.trans (hb.mono HB15.out.size)).mono hw12.out.size)).mono hw11.out.size)⟩
      clear hb hC15 hq lab
      go_wp2_with fail
      refine (awake_calls _).mono ?_
      rintro e w17 ⟨rfl, hb⟩
      go_wp2
      go_ret
      exact ⟨rfl, hbf.out.trans (hb.mono hbf.out.size)⟩
end Go.Proofs.Ytkgchkajpolgeaa.PTraceParts
