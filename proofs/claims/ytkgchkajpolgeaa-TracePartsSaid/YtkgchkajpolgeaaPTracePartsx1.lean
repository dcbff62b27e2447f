-- PRINTED BY print.sh 35421559b90ae4d0a3588c463048766b98c2df88dd9212a6774a882060cdf62d: not written by this session
import Derived.Test.YtkgchkajpolgeaaPTracePartsx0
namespace Go.Proofs.Ytkgchkajpolgeaa.PTraceParts
open Go.RowKit Go.Proofs.YtkgchkajpolgeaaW.PrintWords Go.Proofs.YtkgchkajpolgeaaW.PrintLast Go.Proofs.YtkgchkajpolgeaaW.PrintMore
attribute [local go_sem] max2_int min2_int max_two min_two max_three min_three max_four min_four   -- for this text's walks alone
set_option linter.unusedVariables false
set_option linter.unusedSimpArgs false

/-! ### inkhornlaw26_great: function 15 -/
mutual
def inkhornlaw26_great.l0 : Nat → List (S48) → Int → Option (Bool)
  | 0, _, _ => none
  | k + 1, x0, x3 => if x3 < (x0.length : Int) then (inkhornlaw26_great.j1 k x0 x3 (decide ((x0.length : Int) ≤ 100))) else (inkhornlaw26_great.j1 k x0 x3 false)
def inkhornlaw26_great.j1 : Nat → List (S48) → Int → Bool → Option (Bool)
  | 0, _, _, _ => none
  | k + 1, x0, x3, x12 => if x12 = true then (if 0 ≤ x3 then (if x3 < (x0.length : Int) then (if (((rd_T48 x0 x3).f3).length : Int) > 20 then (some true) else (if (((rd_T48 x0 x3).f5).length : Int) > 20 then (some true) else (inkhornlaw26_great.l0 k x0 (wrap64 (x3 + 1))))) else (none)) else (none)) else (some (decide ((x0.length : Int) > 100)))
end
def inkhornlaw26_great.f (k : Nat) (l0 : List (S48)) : Option (Bool) := inkhornlaw26_great.l0 k l0 0
theorem inkhornlaw26_great.mono_l : ∀ k, (∀ y0 y1, LeO (inkhornlaw26_great.l0 k y0 y1) (inkhornlaw26_great.l0 (k + 1) y0 y1)) ∧ (∀ y0 y1 y2, LeO (inkhornlaw26_great.j1 k y0 y1 y2) (inkhornlaw26_great.j1 (k + 1) y0 y1 y2))
  | 0 => ⟨fun _ _ r h => by simp [inkhornlaw26_great.l0] at h, fun _ _ _ r h => by simp [inkhornlaw26_great.j1] at h⟩
  | k + 1 => by
    obtain ⟨ih0, ih1⟩ := inkhornlaw26_great.mono_l k
    refine ⟨?_, ?_⟩
    · intro y0 y1
      unfold inkhornlaw26_great.l0
      repeat' first
      | (with_reducible exact ih0 _ _)
      | (with_reducible exact ih1 _ _ _)
      | (with_reducible exact LeO.refl _)
      | (with_reducible exact LeO.none _)
      | (with_reducible refine LeO.ite ?_ ?_)
      | (with_reducible refine LeO.bind ?_ (fun _ => ?_))
      | exact ih0 _ _
      | exact ih1 _ _ _
      | exact LeO.none _
      | refine LeO.ite ?_ ?_
      | refine LeO.bind ?_ (fun _ => ?_)
    · intro y0 y1 y2
      unfold inkhornlaw26_great.j1
      repeat' first
      | (with_reducible exact ih0 _ _)
      | (with_reducible exact ih1 _ _ _)
      | (with_reducible exact LeO.refl _)
      | (with_reducible exact LeO.none _)
      | (with_reducible refine LeO.ite ?_ ?_)
      | (with_reducible refine LeO.bind ?_ (fun _ => ?_))
      | exact ih0 _ _
      | exact ih1 _ _ _
      | exact LeO.none _
      | refine LeO.ite ?_ ?_
      | refine LeO.bind ?_ (fun _ => ?_)
theorem inkhornlaw26_great.mono : ∀ a0 k, LeO (inkhornlaw26_great.f k a0) (inkhornlaw26_great.f (k + 1) a0) := by
  intro a0 k
  obtain ⟨ih0, ih1⟩ := inkhornlaw26_great.mono_l k
  unfold inkhornlaw26_great.f
  repeat' first
      | (with_reducible exact ih0 _ _)
      | (with_reducible exact ih1 _ _ _)
      | (with_reducible exact LeO.refl _)
      | (with_reducible exact LeO.none _)
      | (with_reducible refine LeO.ite ?_ ?_)
      | (with_reducible refine LeO.bind ?_ (fun _ => ?_))
      | exact ih0 _ _
      | exact ih1 _ _ _
      | exact LeO.none _
      | refine LeO.ite ?_ ?_
      | refine LeO.bind ?_ (fun _ => ?_)
set_option maxHeartbeats 8000000 in
set_option maxRecDepth 100000 in
theorem inkhornlaw26_great.calls (k : Nat) (A0 : Option Addr) (c0 : Nat) (l0 : List (S48)) (r : Bool) (w : World) (hr0 : Kd.C k48 w A0 l0.length l0) (hc0 : l0.length ≤ c0) (h : inkhornlaw26_great.f k l0 = some r) :
    Calls Try.prog 15 #[.slice A0 l0.length c0] w fun e w' => e = .returned (.bool r) ∧ Drawn0 w w' := by
  have HR0 := Aside0.mk hr0
  have HC0 := Aside0.mk hc0
  clear hr0 hc0
  have H : (inkhornlaw26_great.l0 k l0 0) = some r := h
  clear h
  have H' := Aside0.mk H
  clear H
  go_enter Try.func15, Try.ntmps15
  go_wp2
  go_loopg [3] k (fun kq v3 w' => ∃ (x3_1 : Int), v3 = .int .i64 x3_1 ∧ Aside0 (inkhornlaw26_great.l0 kq l0 x3_1 = some r) ∧ Aside0 (kq ≤ k) ∧ Drawn0 w w')
  case atStart => exact ⟨(0), (by first | rfl | (simp; done) | (simp [*]; done)), H', ⟨Nat.le_refl _⟩, by repeat (first | exact Drawn0.refl _ | apply Drawn0.step)⟩
  case round =>
    clear H'
    try clear c1
    obtain ⟨x3_1, rfl, HA, HK1, ⟨m1, rfl⟩⟩ := hrel
    cases gk with
    | zero => exact absurd HA.out (by simp [inkhornlaw26_great.l0])
    | succ k1 =>
      have H := HA.out
      clear HA
      simp only [inkhornlaw26_great.l0] at H
      have HC2 := Aside0.mk H
      clear H
      go_upto_region 2 with (fail)
      go_cut [12] (fun v12 wc => ∃ (kq : Nat) (x12_1 : Bool), v12 = .bool x12_1 ∧ Aside0 (inkhornlaw26_great.j1 kq l0 x3_1 x12_1 = some r) ∧ Aside0 (kq ≤ k1) ∧ Drawn0 w wc)
      case first =>
        have H := HC2.out
        clear HC2
        by_cases c3 : x3_1 < (l0.length : Int)
        · rw [if_pos c3] at H
          have c3b0 : decide (x3_1 < (l0.length : Int)) = true := decide_eq_true c3
          clear c3
          (first | rw [c3b0] | (simp only [i64_w, i32_w]; rw [c3b0]) | skip)
          have H' := Aside0.mk H
          clear H
          go_wp2
          go_meet
          case rel => exact ⟨_, (decide ((l0.length : Int) ≤ 100)), (by first | rfl | (simp; done) | (simp [*]; done)), H', ⟨by have := HK1.out; first | omega | exact Nat.le_refl _⟩, by repeat (first | exact Drawn0.refl _ | apply Drawn0.step)⟩
        · rw [if_neg c3] at H
          have c3b0 : decide (x3_1 < (l0.length : Int)) = false := decide_eq_false c3
          clear c3
          (first | rw [c3b0] | (simp only [i64_w, i32_w]; rw [c3b0]) | skip)
          have H' := Aside0.mk H
          clear H
          go_wp2
          go_meet
          case rel => exact ⟨_, (false), (by first | rfl | (simp; done) | (simp [*]; done)), H', ⟨by have := HK1.out; first | omega | exact Nat.le_refl _⟩, by repeat (first | exact Drawn0.refl _ | apply Drawn0.step)⟩
      case rest =>
        clear HC2
        try clear c1
        try clear p2
        try clear c3
        try clear c3b0
        obtain ⟨kq, x12_1, rfl, HA, HJ1, ⟨mc1, rfl⟩⟩ := hcut
        cases kq with
        | zero => exact absurd HA.out (by simp [inkhornlaw26_great.j1])
        | succ kj1 =>
          have H := HA.out
          clear HA
          simp only [inkhornlaw26_great.j1] at H
          by_cases c4 : x12_1 = true
          · subst c4
            have H1 : (if 0 ≤ x3_1 then (if x3_1 < (l0.length : Int) then (if (((rd_T48 l0 x3_1).f3).length : Int) > 20 then (some true) else (if (((rd_T48 l0 x3_1).f5).length : Int) > 20 then (some true) else (inkhornlaw26_great.l0 kj1 l0 (wrap64 (x3_1 + 1))))) else (none)) else (none)) = some r := by rw [if_pos rfl] at H; exact H
            clear H
            have H := H1
            clear H1
            by_cases c5 : 0 ≤ x3_1
            · rw [if_pos c5] at H
              have c5b0 : decide (0 ≤ x3_1) = true := decide_eq_true c5
              clear c5
              by_cases c6 : x3_1 < (l0.length : Int)
              · rw [if_pos c6] at H
                have c6b0 : decide (x3_1 < (l0.length : Int)) = true := decide_eq_true c6
                clear c6
                by_cases c7 : (((rd_T48 l0 x3_1).f3).length : Int) > 20
                · rw [if_pos c7] at H
                  have c7b0 : decide (20 < (((rd_T48 l0 x3_1).f3).length : Int)) = true := decide_eq_true c7
                  have c7b1 : decide (20 < ((rd_T48 l0 x3_1).f3).length) = true := decide_eq_true (by omega)
                  clear c7
                  obtain rfl := Option.some.inj H
                  have p101 : 0 ≤ (x3_1 : Int) := of_decide_eq_true (by first | (with_reducible assumption) | assumption)
                  have q101 : x3_1 < (l0.length : Int) := of_decide_eq_true (by first | (with_reducible assumption) | assumption)
                  obtain ⟨ad101, A101_9, c101_9, A101_11, c101_11, e101, hx101_0, hx101_1, hx101_2, hx101_3, hx101_4, hx101_5, hx101_6, hx101_7, hx101_8, hx101_9, hx101_10, hx101_11, hl101_9, hi101_9, hl101_11, hi101_11⟩ := at_T48 HR0.out x3_1 p101 q101
                  cases e101
                  have HR101_9 := Aside0.mk hi101_9
                  have HC101_9 := Aside0.mk hl101_9
                  clear hi101_9 hl101_9
                  have HR101_11 := Aside0.mk hi101_11
                  have HC101_11 := Aside0.mk hl101_11
                  clear hi101_11 hl101_11
                  replace p101 := eq_true p101
                  replace q101 := eq_true q101
                  go_wp2
                  go_ret
                  exact ⟨by first | rfl | (simp; done) | (simp [*]; done), by repeat (first | exact Drawn0.refl _ | apply Drawn0.step)⟩
                · rw [if_neg c7] at H
                  have c7b0 : decide (20 < (((rd_T48 l0 x3_1).f3).length : Int)) = false := decide_eq_false c7
                  have c7b1 : decide (20 < ((rd_T48 l0 x3_1).f3).length) = false := decide_eq_false (by omega)
                  clear c7
                  by_cases c8 : (((rd_T48 l0 x3_1).f5).length : Int) > 20
                  · rw [if_pos c8] at H
                    have c8b0 : decide (20 < (((rd_T48 l0 x3_1).f5).length : Int)) = true := decide_eq_true c8
                    have c8b1 : decide (20 < ((rd_T48 l0 x3_1).f5).length) = true := decide_eq_true (by omega)
                    clear c8
                    obtain rfl := Option.some.inj H
                    have p101 : 0 ≤ (x3_1 : Int) := of_decide_eq_true (by first | (with_reducible assumption) | assumption)
                    have q101 : x3_1 < (l0.length : Int) := of_decide_eq_true (by first | (with_reducible assumption) | assumption)
                    obtain ⟨ad101, A101_9, c101_9, A101_11, c101_11, e101, hx101_0, hx101_1, hx101_2, hx101_3, hx101_4, hx101_5, hx101_6, hx101_7, hx101_8, hx101_9, hx101_10, hx101_11, hl101_9, hi101_9, hl101_11, hi101_11⟩ := at_T48 HR0.out x3_1 p101 q101
                    cases e101
                    have HR101_9 := Aside0.mk hi101_9
                    have HC101_9 := Aside0.mk hl101_9
                    clear hi101_9 hl101_9
                    have HR101_11 := Aside0.mk hi101_11
                    have HC101_11 := Aside0.mk hl101_11
                    clear hi101_11 hl101_11
                    replace p101 := eq_true p101
                    replace q101 := eq_true q101
                    have p102 : 0 ≤ (x3_1 : Int) := of_decide_eq_true (by first | (with_reducible assumption) | assumption)
                    have q102 : x3_1 < (l0.length : Int) := of_decide_eq_true (by first | (with_reducible assumption) | assumption)
                    obtain ⟨ad102, A102_9, c102_9, A102_11, c102_11, e102, hx102_0, hx102_1, hx102_2, hx102_3, hx102_4, hx102_5, hx102_6, hx102_7, hx102_8, hx102_9, hx102_10, hx102_11, hl102_9, hi102_9, hl102_11, hi102_11⟩ := at_T48 HR0.out x3_1 p102 q102
                    obtain rfl : ad101 = ad102 := (by injection e102)
                    have HR102_9 := Aside0.mk hi102_9
                    have HC102_9 := Aside0.mk hl102_9
                    clear hi102_9 hl102_9
                    have HR102_11 := Aside0.mk hi102_11
                    have HC102_11 := Aside0.mk hl102_11
                    clear hi102_11 hl102_11
                    replace p102 := eq_true p102
                    replace q102 := eq_true q102
                    have ea_ := Option.some.inj (hx101_9.symm.trans hx102_9)
                    injection ea_ with ea_ en_ ec_
                    subst ea_
                    subst ec_
                    clear en_
                    have ea_ := Option.some.inj (hx101_11.symm.trans hx102_11)
                    injection ea_ with ea_ en_ ec_
                    subst ea_
                    subst ec_
                    clear en_
                    go_wp2
                    go_ret
                    exact ⟨by first | rfl | (simp; done) | (simp [*]; done), by repeat (first | exact Drawn0.refl _ | apply Drawn0.step)⟩
                  · rw [if_neg c8] at H
                    have c8b0 : decide (20 < (((rd_T48 l0 x3_1).f5).length : Int)) = false := decide_eq_false c8
                    have c8b1 : decide (20 < ((rd_T48 l0 x3_1).f5).length) = false := decide_eq_false (by omega)
                    clear c8
                    have H' := Aside0.mk H
                    clear H
                    have p101 : 0 ≤ (x3_1 : Int) := of_decide_eq_true (by first | (with_reducible assumption) | assumption)
                    have q101 : x3_1 < (l0.length : Int) := of_decide_eq_true (by first | (with_reducible assumption) | assumption)
                    obtain ⟨ad101, A101_9, c101_9, A101_11, c101_11, e101, hx101_0, hx101_1, hx101_2, hx101_3, hx101_4, hx101_5, hx101_6, hx101_7, hx101_8, hx101_9, hx101_10, hx101_11, hl101_9, hi101_9, hl101_11, hi101_11⟩ := at_T48 HR0.out x3_1 p101 q101
                    cases e101
                    have HR101_9 := Aside0.mk hi101_9
                    have HC101_9 := Aside0.mk hl101_9
                    clear hi101_9 hl101_9
                    have HR101_11 := Aside0.mk hi101_11
                    have HC101_11 := Aside0.mk hl101_11
                    clear hi101_11 hl101_11
                    replace p101 := eq_true p101
                    replace q101 := eq_true q101
                    have p102 : 0 ≤ (x3_1 : Int) := of_decide_eq_true (by first | (with_reducible assumption) | assumption)
                    have q102 : x3_1 < (l0.length : Int) := of_decide_eq_true (by first | (with_reducible assumption) | assumption)
                    obtain ⟨ad102, A102_9, c102_9, A102_11, c102_11, e102, hx102_0, hx102_1, hx102_2, hx102_3, hx102_4, hx102_5, hx102_6, hx102_7, hx102_8, hx102_9, hx102_10, hx102_11, hl102_9, hi102_9, hl102_11, hi102_11⟩ := at_T48 HR0.out x3_1 p102 q102
                    obtain rfl : ad101 = ad102 := (by injection e102)
                    have HR102_9 := Aside0.mk hi102_9
                    have HC102_9 := Aside0.mk hl102_9
                    clear hi102_9 hl102_9
                    have HR102_11 := Aside0.mk hi102_11
                    have HC102_11 := Aside0.mk hl102_11
                    clear hi102_11 hl102_11
                    replace p102 := eq_true p102
                    replace q102 := eq_true q102
                    have ea_ := Option.some.inj (hx101_9.symm.trans hx102_9)
                    injection ea_ with ea_ en_ ec_
                    subst ea_
                    subst ec_
                    clear en_
                    have ea_ := Option.some.inj (hx101_11.symm.trans hx102_11)
                    injection ea_ with ea_ en_ ec_
                    subst ea_
                    subst ec_
                    clear en_
                    go_wp2
                    go_roundg kj1
                    case measure => have := HK1.out; have := HJ1.out; omega
                    case rel => exact ⟨(wrap64 (x3_1 + 1)), (by first | rfl | (simp; done) | (simp [*]; done)), H', ⟨by have := HK1.out; have := HJ1.out; omega⟩, by repeat (first | exact Drawn0.refl _ | apply Drawn0.step)⟩
              · rw [if_neg c6] at H
                exact absurd H (by simp)
            · rw [if_neg c5] at H
              exact absurd H (by simp)
          · replace c4 := Bool.eq_false_iff.mpr c4
            subst c4
            have H1 : (some (decide ((l0.length : Int) > 100))) = some r := by rw [if_neg (show ¬ (false = true) by decide)] at H; exact H
            clear H
            have H := H1
            clear H1
            obtain rfl := Option.some.inj H
            go_wp2
            go_ret
            exact ⟨by first | rfl | (simp; done) | (simp [*]; done), by repeat (first | exact Drawn0.refl _ | apply Drawn0.step)⟩

/-! ### trace_Of: function 17 -/
mutual
def trace_Of.l0 : Nat → List (S48) → Int → Int → Int → Int → Int → Int → Int → Int → Option (Int × Int × Int × Int × Int × Int)
  | 0, _, _, _, _, _, _, _, _, _ => none
  | k + 1, x6, x7, x8, x105000, x105001, x105002, x105003, x105004, x105005 => if x8 < x7 then (if 0 ≤ x8 then (if x8 < (x6.length : Int) then (if ((rd_T48 x6 x8).f4) ≥ 0 then (trace_Of.j1 k x6 x7 x8 (wrap64 (x105000 + (((rd_T48 x6 x8).f3).length : Int))) (wrap64 (x105001 + 1)) (wrap64 (x105002 + (((rd_T48 x6 x8).f5).length : Int))) x105003 x105004 x105005 ((rd_T48 x6 x8).f0.f0) ((rd_T48 x6 x8).f0.f1) ((rd_T48 x6 x8).f0.f2) ((rd_T48 x6 x8).f0.f3) ((rd_T48 x6 x8).f0.f4.f0) ((rd_T48 x6 x8).f0.f4.f1) ((rd_T48 x6 x8).f0.f4.f2) ((rd_T48 x6 x8).f1) ((rd_T48 x6 x8).f2) ((rd_T48 x6 x8).f3) ((rd_T48 x6 x8).f4) ((rd_T48 x6 x8).f5)) else (trace_Of.j1 k x6 x7 x8 (wrap64 (x105000 + (((rd_T48 x6 x8).f3).length : Int))) x105001 (wrap64 (x105002 + (((rd_T48 x6 x8).f5).length : Int))) x105003 x105004 x105005 ((rd_T48 x6 x8).f0.f0) ((rd_T48 x6 x8).f0.f1) ((rd_T48 x6 x8).f0.f2) ((rd_T48 x6 x8).f0.f3) ((rd_T48 x6 x8).f0.f4.f0) ((rd_T48 x6 x8).f0.f4.f1) ((rd_T48 x6 x8).f0.f4.f2) ((rd_T48 x6 x8).f1) ((rd_T48 x6 x8).f2) ((rd_T48 x6 x8).f3) ((rd_T48 x6 x8).f4) ((rd_T48 x6 x8).f5))) else (none)) else (none)) else (some (x105000, x105001, x105002, x105003, x105004, x105005))
def trace_Of.j1 : Nat → List (S48) → Int → Int → Int → Int → Int → Int → Int → Int → Int → Int → Int → Int → ByteArray → Int → Int → Int → Int → List (S50) → Int → List Int → Option (Int × Int × Int × Int × Int × Int)
  | 0, _, _, _, _, _, _, _, _, _, _, _, _, _, _, _, _, _, _, _, _, _ => none
  | k + 1, x6, x7, x8, x105000, x105001, x105002, x105003, x105004, x105005, x107000, x107001, x107002, x107003, x107004, x107005, x107006, x107007, x107008, x107009, x107010, x107011 => if x107007 = 3 then (trace_Of.l0 k x6 x7 (wrap64 (x8 + 1)) x105000 x105001 x105002 (wrap64 (x105003 + 1)) x105004 x105005) else (if x107007 = 2 then (trace_Of.l0 k x6 x7 (wrap64 (x8 + 1)) x105000 x105001 x105002 x105003 (wrap64 (x105004 + 1)) x105005) else (if x107007 = 1 then (trace_Of.l0 k x6 x7 (wrap64 (x8 + 1)) x105000 x105001 x105002 x105003 x105004 (wrap64 (x105005 + 1))) else (trace_Of.l0 k x6 x7 (wrap64 (x8 + 1)) x105000 x105001 x105002 x105003 x105004 x105005)))
end
def trace_Of.f (k : Nat) (l0 : List (S48)) : Option (Int × Int × Int × Int × Int × Int) := trace_Of.l0 k l0 (l0.length : Int) 0 0 0 0 0 0 0
theorem trace_Of.mono_l : ∀ k, (∀ y0 y1 y2 y3 y4 y5 y6 y7 y8, LeO (trace_Of.l0 k y0 y1 y2 y3 y4 y5 y6 y7 y8) (trace_Of.l0 (k + 1) y0 y1 y2 y3 y4 y5 y6 y7 y8)) ∧ (∀ y0 y1 y2 y3 y4 y5 y6 y7 y8 y9 y10 y11 y12 y13 y14 y15 y16 y17 y18 y19 y20, LeO (trace_Of.j1 k y0 y1 y2 y3 y4 y5 y6 y7 y8 y9 y10 y11 y12 y13 y14 y15 y16 y17 y18 y19 y20) (trace_Of.j1 (k + 1) y0 y1 y2 y3 y4 y5 y6 y7 y8 y9 y10 y11 y12 y13 y14 y15 y16 y17 y18 y19 y20))
  | 0 => ⟨fun _ _ _ _ _ _ _ _ _ r h => by simp [trace_Of.l0] at h, fun _ _ _ _ _ _ _ _ _ _ _ _ _ _ _ _ _ _ _ _ _ r h => by simp [trace_Of.j1] at h⟩
  | k + 1 => by
    obtain ⟨ih0, ih1⟩ := trace_Of.mono_l k
    refine ⟨?_, ?_⟩
    · intro y0 y1 y2 y3 y4 y5 y6 y7 y8
      unfold trace_Of.l0
      repeat' first
      | (with_reducible exact ih0 _ _ _ _ _ _ _ _ _)
      | (with_reducible exact ih1 _ _ _ _ _ _ _ _ _ _ _ _ _ _ _ _ _ _ _ _ _)
      | (with_reducible exact LeO.refl _)
      | (with_reducible exact LeO.none _)
      | (with_reducible refine LeO.ite ?_ ?_)
      | (with_reducible refine LeO.bind ?_ (fun _ => ?_))
      | exact ih0 _ _ _ _ _ _ _ _ _
      | exact ih1 _ _ _ _ _ _ _ _ _ _ _ _ _ _ _ _ _ _ _ _ _
      | exact LeO.none _
      | refine LeO.ite ?_ ?_
      | refine LeO.bind ?_ (fun _ => ?_)
    · intro y0 y1 y2 y3 y4 y5 y6 y7 y8 y9 y10 y11 y12 y13 y14 y15 y16 y17 y18 y19 y20
      unfold trace_Of.j1
      repeat' first
      | (with_reducible exact ih0 _ _ _ _ _ _ _ _ _)
      | (with_reducible exact ih1 _ _ _ _ _ _ _ _ _ _ _ _ _ _ _ _ _ _ _ _ _)
      | (with_reducible exact LeO.refl _)
      | (with_reducible exact LeO.none _)
      | (with_reducible refine LeO.ite ?_ ?_)
      | (with_reducible refine LeO.bind ?_ (fun _ => ?_))
      | exact ih0 _ _ _ _ _ _ _ _ _
      | exact ih1 _ _ _ _ _ _ _ _ _ _ _ _ _ _ _ _ _ _ _ _ _
      | exact LeO.none _
      | refine LeO.ite ?_ ?_
      | refine LeO.bind ?_ (fun _ => ?_)
theorem trace_Of.mono : ∀ a0 k, LeO (trace_Of.f k a0) (trace_Of.f (k + 1) a0) := by
  intro a0 k
  obtain ⟨ih0, ih1⟩ := trace_Of.mono_l k
  unfold trace_Of.f
  repeat' first
      | (with_reducible exact ih0 _ _ _ _ _ _ _ _ _)
      | (with_reducible exact ih1 _ _ _ _ _ _ _ _ _ _ _ _ _ _ _ _ _ _ _ _ _)
      | (with_reducible exact LeO.refl _)
      | (with_reducible exact LeO.none _)
      | (with_reducible refine LeO.ite ?_ ?_)
      | (with_reducible refine LeO.bind ?_ (fun _ => ?_))
      | exact ih0 _ _ _ _ _ _ _ _ _
      | exact ih1 _ _ _ _ _ _ _ _ _ _ _ _ _ _ _ _ _ _ _ _ _
      | exact LeO.none _
      | refine LeO.ite ?_ ?_
      | refine LeO.bind ?_ (fun _ => ?_)
set_option maxHeartbeats 8000000 in
set_option maxRecDepth 100000 in
theorem trace_Of.calls (k : Nat) (A0 : Option Addr) (c0 : Nat) (l0 : List (S48)) (r1 : Int) (r2 : Int) (r3 : Int) (r4 : Int) (r5 : Int) (r6 : Int) (w : World) (hr0 : Kd.C k48 w A0 l0.length l0) (hc0 : l0.length ≤ c0) (h : trace_Of.f k l0 = some (r1, r2, r3, r4, r5, r6)) :
    Calls Try.prog 17 #[.slice A0 l0.length c0] w fun e w' => e = .returned (.agg #[.int .i64 r1, .int .i64 r2, .int .i64 r3, .int .i64 r4, .int .i64 r5, .int .i64 r6]) ∧ Below w.heap.size w w' := by
  have hu35 := Try.underlying35
  have hu48 := Try.underlying48
  have HR0 := Aside0.mk hr0
  have HC0 := Aside0.mk hc0
  clear hr0 hc0
  have HB := Aside0.mk (Below.refl w.heap.size w)
  have H : (trace_Of.l0 k l0 (l0.length : Int) 0 0 0 0 0 0 0) = some (r1, r2, r3, r4, r5, r6) := h
  clear h
  have H' := Aside0.mk H
  clear H
  go_enter Try.func17, Try.ntmps17
  go_wp2_with (first | ((with_reducible refine gate_dst (N := 2) rfl ?_); refine box_event ?hg (N := 2) ?hd (cs := #[.int .i64 0, .int .i64 0, .int .i64 0, .int .i64 0, .int .i64 0, .int .i64 0]) (t := 35) ?hr ?_; (case hd => rfl); (case hg => rfl); (case hr => first | (go_simp; done) | (go_simp; rfl)); intro gb103 hg w2 hbox hb; have n0_ := Aside0.mk (below_step (by repeat (first | (with_reducible first | exact HB.out | apply below_alloc | apply pw_below_drewN | apply below_drew1) | exact HB.out)) hb); have n1_ := Aside0.mk (hbox); have n2_ := Aside0.mk ((by rw [hg]; exact (below_size (by repeat (first | (with_reducible first | exact HB.out | apply below_alloc | apply pw_below_drewN | apply below_drew1) | exact HB.out))) : w.heap.size ≤ gb103)); have n3_ := Aside0.mk ((by rw [hg]; exact (below_size (by repeat (first | (with_reducible first | exact HB.out | apply below_alloc | apply pw_below_drewN | apply below_drew1) | exact HB.out))) : w.heap.size ≤ gb103)); clear HB; have HB := n0_; have BK103 := n1_; have GW103 := n2_; have GE103 := n3_; clear n0_ n1_ n2_ n3_; clear hb hbox hg) | ((with_reducible refine gate_dst (N := 3) rfl ?_); refine box_event ?hg (N := 3) ?hd (cs := #[.int .i64 0, .int .i64 0, .int .i64 0, .int .i64 0, .int .i64 0, .int .i64 0]) (t := 35) ?hr ?_; (case hd => rfl); (case hg => rfl); (case hr => first | (go_simp; done) | (go_simp; rfl)); intro gb104 hg w3 hbox hb; have n0_ := Aside0.mk (blk_below (g := gb103) (o := .cells #[.int .i64 0, .int .i64 0, .int .i64 0, .int .i64 0, .int .i64 0, .int .i64 0] 35 (0, 0)) (by (with_reducible repeat (first | refine blk_drewN ?_ _ | refine blk_drew ?_ | refine blk_alloc ?_ _)); exact BK103.out) hb); have n1_ := Aside0.mk (below_step (by repeat (first | (with_reducible first | exact HB.out | apply below_alloc | apply pw_below_drewN | apply below_drew1 | refine below_set ?_ GE103.out) | exact HB.out)) hb); have n2_ := Aside0.mk (hbox); have n3_ := Aside0.mk ((by rw [hg]; exact (below_size (by repeat (first | (with_reducible first | exact HB.out | apply below_alloc | apply pw_below_drewN | apply below_drew1 | refine below_set ?_ GE103.out) | exact HB.out))) : w.heap.size ≤ gb104)); have n4_ := Aside0.mk ((by rw [hg]; exact (below_size (by repeat (first | (with_reducible first | exact HB.out | apply below_alloc | apply pw_below_drewN | apply below_drew1 | refine below_set ?_ GE103.out) | exact HB.out))) : w.heap.size ≤ gb104)); have n5_ := Aside0.mk ((by rw [hg]; exact Nat.ne_of_lt (blk_lt (g := gb103) (o := .cells #[.int .i64 0, .int .i64 0, .int .i64 0, .int .i64 0, .int .i64 0, .int .i64 0] 35 (0, 0)) (by (with_reducible repeat (first | refine blk_drewN ?_ _ | refine blk_drew ?_ | refine blk_alloc ?_ _)); exact BK103.out)) : gb103 ≠ gb104)); have n6_ := Aside0.mk ((by rw [hg]; exact Nat.ne_of_gt (blk_lt (g := gb103) (o := .cells #[.int .i64 0, .int .i64 0, .int .i64 0, .int .i64 0, .int .i64 0, .int .i64 0] 35 (0, 0)) (by (with_reducible repeat (first | refine blk_drewN ?_ _ | refine blk_drew ?_ | refine blk_alloc ?_ _)); exact BK103.out)) : gb104 ≠ gb103)); clear BK103; clear HB; have BK103 := n0_; have HB := n1_; have BK104 := n2_; have GW104 := n3_; have GE104 := n4_; have NB103_104 := n5_; have NB104_103 := n6_; clear n0_ n1_ n2_ n3_ n4_ n5_ n6_; clear hb hbox hg))
  go_loopg [8] k (fun kq v8 w' => ∃ (x8_1 : Int) (x105000_1 : Int) (x105001_1 : Int) (x105002_1 : Int) (x105003_1 : Int) (x105004_1 : Int) (x105005_1 : Int), v8 = .int .i64 x8_1 ∧ Aside0 (trace_Of.l0 kq l0 (l0.length : Int) x8_1 x105000_1 x105001_1 x105002_1 x105003_1 x105004_1 x105005_1 = some (r1, r2, r3, r4, r5, r6)) ∧ Aside0 (kq ≤ k) ∧ Aside0 (w'.heap[gb103]? = some (.cells #[.int .i64 0, .int .i64 0, .int .i64 0, .int .i64 0, .int .i64 0, .int .i64 0] 35 (0, 0))) ∧ Aside0 (w'.heap[gb104]? = some (.cells #[.int .i64 x105000_1, .int .i64 x105001_1, .int .i64 x105002_1, .int .i64 x105003_1, .int .i64 x105004_1, .int .i64 x105005_1] 35 (0, 0))) ∧ Aside0 (Below w.heap.size w w'))
  case atStart => exact ⟨(0), (0), (0), (0), (0), (0), (0), (by first | rfl | (simp; done) | (simp [*]; done)), H', ⟨Nat.le_refl _⟩, ⟨by (with_reducible repeat (first | refine blk_drewN ?_ _ | refine blk_drew ?_ | refine blk_alloc ?_ _)); exact BK103.out⟩, ⟨by (with_reducible repeat (first | refine blk_drewN ?_ _ | refine blk_drew ?_ | refine blk_alloc ?_ _)); exact BK104.out⟩, ⟨by repeat (first | (with_reducible first | exact HB.out | apply below_alloc | apply pw_below_drewN | apply below_drew1 | refine below_set ?_ GE103.out | refine below_set ?_ GE104.out) | exact HB.out)⟩⟩
  case round =>
    clear H'
    try clear c1
    try clear p2
    obtain ⟨x8_1, x105000_1, x105001_1, x105002_1, x105003_1, x105004_1, x105005_1, rfl, HA, HK1, BK103, BK104, HB⟩ := hrel
    cases gk with
    | zero => exact absurd HA.out (by simp [trace_Of.l0])
    | succ k1 =>
      have H := HA.out
      clear HA
      simp only [trace_Of.l0] at H
      by_cases c4 : x8_1 < (l0.length : Int)
      · rw [if_pos c4] at H
        have c4b0 : decide (x8_1 < (l0.length : Int)) = true := decide_eq_true c4
        clear c4
        by_cases c5 : 0 ≤ x8_1
        · rw [if_pos c5] at H
          have c5b0 : decide (0 ≤ x8_1) = true := decide_eq_true c5
          clear c5
          by_cases c6 : x8_1 < (l0.length : Int)
          · rw [if_pos c6] at H
            have c6b0 : decide (x8_1 < (l0.length : Int)) = true := decide_eq_true c6
            clear c6
            have HC7 := Aside0.mk H
            clear H
            have p105 : 0 ≤ (x8_1 : Int) := of_decide_eq_true (by first | (with_reducible assumption) | assumption)
            have q105 : x8_1 < (l0.length : Int) := of_decide_eq_true (by first | (with_reducible assumption) | assumption)
            obtain ⟨ad105, A105_9, c105_9, A105_11, c105_11, e105, hx105_0, hx105_1, hx105_2, hx105_3, hx105_4, hx105_5, hx105_6, hx105_7, hx105_8, hx105_9, hx105_10, hx105_11, hl105_9, hi105_9, hl105_11, hi105_11⟩ := at_T48 HR0.out x8_1 p105 q105
            cases e105
            replace hx105_0 := (HB.out.cell (World.block_lt_of_cell? w _ hx105_0)).trans hx105_0
            replace hx105_1 := (HB.out.cell (World.block_lt_of_cell? w _ hx105_1)).trans hx105_1
            replace hx105_2 := (HB.out.cell (World.block_lt_of_cell? w _ hx105_2)).trans hx105_2
            replace hx105_3 := (HB.out.cell (World.block_lt_of_cell? w _ hx105_3)).trans hx105_3
            replace hx105_4 := (HB.out.cell (World.block_lt_of_cell? w _ hx105_4)).trans hx105_4
            replace hx105_5 := (HB.out.cell (World.block_lt_of_cell? w _ hx105_5)).trans hx105_5
            replace hx105_6 := (HB.out.cell (World.block_lt_of_cell? w _ hx105_6)).trans hx105_6
            replace hx105_7 := (HB.out.cell (World.block_lt_of_cell? w _ hx105_7)).trans hx105_7
            replace hx105_8 := (HB.out.cell (World.block_lt_of_cell? w _ hx105_8)).trans hx105_8
            replace hx105_9 := (HB.out.cell (World.block_lt_of_cell? w _ hx105_9)).trans hx105_9
            replace hx105_10 := (HB.out.cell (World.block_lt_of_cell? w _ hx105_10)).trans hx105_10
            replace hx105_11 := (HB.out.cell (World.block_lt_of_cell? w _ hx105_11)).trans hx105_11
            have HR105_9 := Aside0.mk hi105_9
            have HC105_9 := Aside0.mk hl105_9
            clear hi105_9 hl105_9
            have HR105_11 := Aside0.mk hi105_11
            have HC105_11 := Aside0.mk hl105_11
            clear hi105_11 hl105_11
            replace p105 := eq_true p105
            replace q105 := eq_true q105
            go_upto_if 28 with (first | ((with_reducible refine gate_dst (N := 5) rfl ?_); refine box_event ?hg (N := 5) ?hd (cs := #[.int .i64 0, .int .i64 0, .int .i64 0, .int .i64 0, .string (⟨#[]⟩ : ByteArray), .int .i64 0, .int .i64 0, .int .i64 0, .int .i64 0, .slice none 0 0, .int .i64 0, .slice none 0 0]) (t := 48) ?hr ?_; (case hd => rfl); (case hg => rfl); (case hr => first | (go_simp; done) | (go_simp; rfl)); intro gb106 hg w8 hbox hb; have n0_ := Aside0.mk (blk_below (g := gb103) (o := .cells #[.int .i64 0, .int .i64 0, .int .i64 0, .int .i64 0, .int .i64 0, .int .i64 0] 35 (0, 0)) (by (with_reducible repeat (first | refine blk_drewN ?_ _ | refine blk_drew ?_ | refine blk_alloc ?_ _)); exact BK103.out) hb); have n1_ := Aside0.mk (blk_below (g := gb104) (o := .cells #[.int .i64 x105000_1, .int .i64 x105001_1, .int .i64 x105002_1, .int .i64 x105003_1, .int .i64 x105004_1, .int .i64 x105005_1] 35 (0, 0)) (by (with_reducible repeat (first | refine blk_drewN ?_ _ | refine blk_drew ?_ | refine blk_alloc ?_ _)); exact BK104.out) hb); have n2_ := Aside0.mk (below_step (by repeat (first | (with_reducible first | exact HB.out | apply below_alloc | apply pw_below_drewN | apply below_drew1 | refine below_set ?_ GE103.out | refine below_set ?_ GE104.out) | exact HB.out)) hb); have n3_ := Aside0.mk (hbox); have n4_ := Aside0.mk ((by rw [hg]; exact (below_size (by repeat (first | (with_reducible first | exact HB.out | apply below_alloc | apply pw_below_drewN | apply below_drew1 | refine below_set ?_ GE103.out | refine below_set ?_ GE104.out) | exact HB.out))) : w.heap.size ≤ gb106)); have n5_ := Aside0.mk ((by rw [hg]; exact (below_size (by repeat (first | (with_reducible first | exact HB.out | apply below_alloc | apply pw_below_drewN | apply below_drew1 | refine below_set ?_ GE103.out | refine below_set ?_ GE104.out) | exact HB.out))) : w.heap.size ≤ gb106)); have n6_ := Aside0.mk ((by rw [hg]; exact Nat.ne_of_lt (blk_lt (g := gb103) (o := .cells #[.int .i64 0, .int .i64 0, .int .i64 0, .int .i64 0, .int .i64 0, .int .i64 0] 35 (0, 0)) (by (with_reducible repeat (first | refine blk_drewN ?_ _ | refine blk_drew ?_ | refine blk_alloc ?_ _)); exact BK103.out)) : gb103 ≠ gb106)); have n7_ := Aside0.mk ((by rw [hg]; exact Nat.ne_of_gt (blk_lt (g := gb103) (o := .cells #[.int .i64 0, .int .i64 0, .int .i64 0, .int .i64 0, .int .i64 0, .int .i64 0] 35 (0, 0)) (by (with_reducible repeat (first | refine blk_drewN ?_ _ | refine blk_drew ?_ | refine blk_alloc ?_ _)); exact BK103.out)) : gb106 ≠ gb103)); have n8_ := Aside0.mk ((by rw [hg]; exact Nat.ne_of_lt (blk_lt (g := gb104) (o := .cells #[.int .i64 x105000_1, .int .i64 x105001_1, .int .i64 x105002_1, .int .i64 x105003_1, .int .i64 x105004_1, .int .i64 x105005_1] 35 (0, 0)) (by (with_reducible repeat (first | refine blk_drewN ?_ _ | refine blk_drew ?_ | refine blk_alloc ?_ _)); exact BK104.out)) : gb104 ≠ gb106)); have n9_ := Aside0.mk ((by rw [hg]; exact Nat.ne_of_gt (blk_lt (g := gb104) (o := .cells #[.int .i64 x105000_1, .int .i64 x105001_1, .int .i64 x105002_1, .int .i64 x105003_1, .int .i64 x105004_1, .int .i64 x105005_1] 35 (0, 0)) (by (with_reducible repeat (first | refine blk_drewN ?_ _ | refine blk_drew ?_ | refine blk_alloc ?_ _)); exact BK104.out)) : gb106 ≠ gb104)); clear BK103; clear BK104; clear HB; have BK103 := n0_; have BK104 := n1_; have HB := n2_; have BK106 := n3_; have GW106 := n4_; have GE106 := n5_; have NB103_106 := n6_; have NB106_103 := n7_; have NB104_106 := n8_; have NB106_104 := n9_; clear n0_ n1_ n2_ n3_ n4_ n5_ n6_ n7_ n8_ n9_; clear hb hbox hg; have hnb9 := NB106_103.out; have hnc9 := NB103_106.out; have hnb10 := NB106_104.out; have hnc10 := NB104_106.out; have hcz11_0 : w8.cell? ⟨gb106, 0, none⟩ = some (.int .i64 0) := (blk_cell BK106.out 0).trans rfl; have hcz11_1 : w8.cell? ⟨gb106, 1, none⟩ = some (.int .i64 0) := (blk_cell BK106.out 1).trans rfl; have hcz11_2 : w8.cell? ⟨gb106, 2, none⟩ = some (.int .i64 0) := (blk_cell BK106.out 2).trans rfl; have hcz11_3 : w8.cell? ⟨gb106, 3, none⟩ = some (.int .i64 0) := (blk_cell BK106.out 3).trans rfl; have hcz11_4 : w8.cell? ⟨gb106, 4, none⟩ = some (.string (⟨#[]⟩ : ByteArray)) := (blk_cell BK106.out 4).trans rfl; have hcz11_5 : w8.cell? ⟨gb106, 5, none⟩ = some (.int .i64 0) := (blk_cell BK106.out 5).trans rfl; have hcz11_6 : w8.cell? ⟨gb106, 6, none⟩ = some (.int .i64 0) := (blk_cell BK106.out 6).trans rfl; have hcz11_7 : w8.cell? ⟨gb106, 7, none⟩ = some (.int .i64 0) := (blk_cell BK106.out 7).trans rfl; have hcz11_8 : w8.cell? ⟨gb106, 8, none⟩ = some (.int .i64 0) := (blk_cell BK106.out 8).trans rfl; have hcz11_9 : w8.cell? ⟨gb106, 9, none⟩ = some (.slice none 0 0) := (blk_cell BK106.out 9).trans rfl; have hcz11_10 : w8.cell? ⟨gb106, 10, none⟩ = some (.int .i64 0) := (blk_cell BK106.out 10).trans rfl; have hcz11_11 : w8.cell? ⟨gb106, 11, none⟩ = some (.slice none 0 0) := (blk_cell BK106.out 11).trans rfl; have hfz11_0 := blk_frozen BK106.out 0; have hfz11_1 := blk_frozen BK106.out 1; have hfz11_2 := blk_frozen BK106.out 2; have hfz11_3 := blk_frozen BK106.out 3; have hfz11_4 := blk_frozen BK106.out 4; have hfz11_5 := blk_frozen BK106.out 5; have hfz11_6 := blk_frozen BK106.out 6; have hfz11_7 := blk_frozen BK106.out 7; have hfz11_8 := blk_frozen BK106.out 8; have hfz11_9 := blk_frozen BK106.out 9; have hfz11_10 := blk_frozen BK106.out 10; have hfz11_11 := blk_frozen BK106.out 11; have hnb12 := NB104_103.out; have hnc12 := NB103_104.out; have hcz13_0 : w8.cell? ⟨gb104, 0, none⟩ = some (.int .i64 x105000_1) := (blk_cell BK104.out 0).trans rfl; have hcz13_1 : w8.cell? ⟨gb104, 1, none⟩ = some (.int .i64 x105001_1) := (blk_cell BK104.out 1).trans rfl; have hcz13_2 : w8.cell? ⟨gb104, 2, none⟩ = some (.int .i64 x105002_1) := (blk_cell BK104.out 2).trans rfl; have hcz13_3 : w8.cell? ⟨gb104, 3, none⟩ = some (.int .i64 x105003_1) := (blk_cell BK104.out 3).trans rfl; have hcz13_4 : w8.cell? ⟨gb104, 4, none⟩ = some (.int .i64 x105004_1) := (blk_cell BK104.out 4).trans rfl; have hcz13_5 : w8.cell? ⟨gb104, 5, none⟩ = some (.int .i64 x105005_1) := (blk_cell BK104.out 5).trans rfl; have hfz13_0 := blk_frozen BK104.out 0; have hfz13_1 := blk_frozen BK104.out 1; have hfz13_2 := blk_frozen BK104.out 2; have hfz13_3 := blk_frozen BK104.out 3; have hfz13_4 := blk_frozen BK104.out 4; have hfz13_5 := blk_frozen BK104.out 5))
            (try simp only [Act.put, List.setIfInBounds_toArray, List.set_cons_zero, List.set_cons_succ])
            go_cut [] (fun wc => ∃ (kq : Nat) (x105001_6 : Int), Aside0 (trace_Of.j1 kq l0 (l0.length : Int) x8_1 (wrap64 (x105000_1 + (((rd_T48 l0 x8_1).f3).length : Int))) x105001_6 (wrap64 (x105002_1 + (((rd_T48 l0 x8_1).f5).length : Int))) x105003_1 x105004_1 x105005_1 ((rd_T48 l0 x8_1).f0.f0) ((rd_T48 l0 x8_1).f0.f1) ((rd_T48 l0 x8_1).f0.f2) ((rd_T48 l0 x8_1).f0.f3) ((rd_T48 l0 x8_1).f0.f4.f0) ((rd_T48 l0 x8_1).f0.f4.f1) ((rd_T48 l0 x8_1).f0.f4.f2) ((rd_T48 l0 x8_1).f1) ((rd_T48 l0 x8_1).f2) ((rd_T48 l0 x8_1).f3) ((rd_T48 l0 x8_1).f4) ((rd_T48 l0 x8_1).f5) = some (r1, r2, r3, r4, r5, r6)) ∧ Aside0 (kq ≤ k1) ∧ Aside0 (wc.heap[gb103]? = some (.cells #[.int .i64 0, .int .i64 0, .int .i64 0, .int .i64 0, .int .i64 0, .int .i64 0] 35 (0, 0))) ∧ Aside0 (wc.heap[gb104]? = some (.cells #[.int .i64 (wrap64 (x105000_1 + (((rd_T48 l0 x8_1).f3).length : Int))), .int .i64 x105001_6, .int .i64 (wrap64 (x105002_1 + (((rd_T48 l0 x8_1).f5).length : Int))), .int .i64 x105003_1, .int .i64 x105004_1, .int .i64 x105005_1] 35 (0, 0))) ∧ Aside0 (wc.heap[gb106]? = some (.cells #[.int .i64 ((rd_T48 l0 x8_1).f0.f0), .int .i64 ((rd_T48 l0 x8_1).f0.f1), .int .i64 ((rd_T48 l0 x8_1).f0.f2), .int .i64 ((rd_T48 l0 x8_1).f0.f3), .string ((rd_T48 l0 x8_1).f0.f4.f0), .int .i64 ((rd_T48 l0 x8_1).f0.f4.f1), .int .i64 ((rd_T48 l0 x8_1).f0.f4.f2), .int .i64 ((rd_T48 l0 x8_1).f1), .int .i64 ((rd_T48 l0 x8_1).f2), (.slice A105_9 ((rd_T48 l0 x8_1).f3).length c105_9), .int .i64 ((rd_T48 l0 x8_1).f4), (.slice A105_11 ((rd_T48 l0 x8_1).f5).length c105_11)] 48 (0, 0))) ∧ Aside0 (Below w.heap.size w wc))
            case first =>
              have H := HC7.out
              clear HC7
              by_cases c14 : ((rd_T48 l0 x8_1).f4) ≥ 0
              · rw [if_pos c14] at H
                have c14b0 : decide (0 ≤ ((rd_T48 l0 x8_1).f4)) = true := decide_eq_true c14
                clear c14
                (first | rw [c14b0] | (simp only [i64_w, i32_w]; rw [c14b0]) | skip)
                have H' := Aside0.mk H
                clear H
                have hnb15 := NB104_103.out
                have hnc15 := NB103_104.out
                have hnb16 := NB104_106.out
                have hnc16 := NB106_104.out
                have hcz17_0 : w8.cell? ⟨gb104, 0, none⟩ = some (.int .i64 x105000_1) := (blk_cell BK104.out 0).trans rfl
                have hcz17_1 : w8.cell? ⟨gb104, 1, none⟩ = some (.int .i64 x105001_1) := (blk_cell BK104.out 1).trans rfl
                have hcz17_2 : w8.cell? ⟨gb104, 2, none⟩ = some (.int .i64 x105002_1) := (blk_cell BK104.out 2).trans rfl
                have hcz17_3 : w8.cell? ⟨gb104, 3, none⟩ = some (.int .i64 x105003_1) := (blk_cell BK104.out 3).trans rfl
                have hcz17_4 : w8.cell? ⟨gb104, 4, none⟩ = some (.int .i64 x105004_1) := (blk_cell BK104.out 4).trans rfl
                have hcz17_5 : w8.cell? ⟨gb104, 5, none⟩ = some (.int .i64 x105005_1) := (blk_cell BK104.out 5).trans rfl
                have hfz17_0 := blk_frozen BK104.out 0
                have hfz17_1 := blk_frozen BK104.out 1
                have hfz17_2 := blk_frozen BK104.out 2
                have hfz17_3 := blk_frozen BK104.out 3
                have hfz17_4 := blk_frozen BK104.out 4
                have hfz17_5 := blk_frozen BK104.out 5
                go_wp2
                go_meet
                case rel => exact ⟨_, (wrap64 (x105001_1 + 1)), H', ⟨by have := HK1.out; first | omega | exact Nat.le_refl _⟩, ⟨by (with_reducible repeat (first | refine blk_drewN ?_ _ | refine blk_drew ?_ | refine blk_alloc ?_ _)); refine blk_far ?_ NB103_104.out _; (with_reducible repeat (first | refine blk_drewN ?_ _ | refine blk_drew ?_ | refine blk_alloc ?_ _)); refine blk_far ?_ NB103_104.out _; (with_reducible repeat (first | refine blk_drewN ?_ _ | refine blk_drew ?_ | refine blk_alloc ?_ _)); refine blk_far ?_ NB103_104.out _; (with_reducible repeat (first | refine blk_drewN ?_ _ | refine blk_drew ?_ | refine blk_alloc ?_ _)); refine blk_far ?_ NB103_106.out _; (with_reducible repeat (first | refine blk_drewN ?_ _ | refine blk_drew ?_ | refine blk_alloc ?_ _)); refine blk_far ?_ NB103_106.out _; (with_reducible repeat (first | refine blk_drewN ?_ _ | refine blk_drew ?_ | refine blk_alloc ?_ _)); refine blk_far ?_ NB103_106.out _; (with_reducible repeat (first | refine blk_drewN ?_ _ | refine blk_drew ?_ | refine blk_alloc ?_ _)); refine blk_far ?_ NB103_106.out _; (with_reducible repeat (first | refine blk_drewN ?_ _ | refine blk_drew ?_ | refine blk_alloc ?_ _)); refine blk_far ?_ NB103_106.out _; (with_reducible repeat (first | refine blk_drewN ?_ _ | refine blk_drew ?_ | refine blk_alloc ?_ _)); refine blk_far ?_ NB103_106.out _; (with_reducible repeat (first | refine blk_drewN ?_ _ | refine blk_drew ?_ | refine blk_alloc ?_ _)); refine blk_far ?_ NB103_106.out _; (with_reducible repeat (first | refine blk_drewN ?_ _ | refine blk_drew ?_ | refine blk_alloc ?_ _)); refine blk_far ?_ NB103_106.out _; (with_reducible repeat (first | refine blk_drewN ?_ _ | refine blk_drew ?_ | refine blk_alloc ?_ _)); refine blk_far ?_ NB103_106.out _; (with_reducible repeat (first | refine blk_drewN ?_ _ | refine blk_drew ?_ | refine blk_alloc ?_ _)); refine blk_far ?_ NB103_106.out _; (with_reducible repeat (first | refine blk_drewN ?_ _ | refine blk_drew ?_ | refine blk_alloc ?_ _)); refine blk_far ?_ NB103_106.out _; (with_reducible repeat (first | refine blk_drewN ?_ _ | refine blk_drew ?_ | refine blk_alloc ?_ _)); refine blk_far ?_ NB103_106.out _; (with_reducible repeat (first | refine blk_drewN ?_ _ | refine blk_drew ?_ | refine blk_alloc ?_ _)); exact BK103.out⟩, ⟨by (with_reducible repeat (first | refine blk_drewN ?_ _ | refine blk_drew ?_ | refine blk_alloc ?_ _)); refine blk_put (cs := #[.int .i64 (wrap64 (x105000_1 + (((rd_T48 l0 x8_1).f3).length : Int))), .int .i64 x105001_1, .int .i64 (wrap64 (x105002_1 + (((rd_T48 l0 x8_1).f5).length : Int))), .int .i64 x105003_1, .int .i64 x105004_1, .int .i64 x105005_1]) ?_ 1 _ rfl; (with_reducible repeat (first | refine blk_drewN ?_ _ | refine blk_drew ?_ | refine blk_alloc ?_ _)); refine blk_put (cs := #[.int .i64 (wrap64 (x105000_1 + (((rd_T48 l0 x8_1).f3).length : Int))), .int .i64 x105001_1, .int .i64 x105002_1, .int .i64 x105003_1, .int .i64 x105004_1, .int .i64 x105005_1]) ?_ 2 _ rfl; (with_reducible repeat (first | refine blk_drewN ?_ _ | refine blk_drew ?_ | refine blk_alloc ?_ _)); refine blk_put (cs := #[.int .i64 x105000_1, .int .i64 x105001_1, .int .i64 x105002_1, .int .i64 x105003_1, .int .i64 x105004_1, .int .i64 x105005_1]) ?_ 0 _ rfl; (with_reducible repeat (first | refine blk_drewN ?_ _ | refine blk_drew ?_ | refine blk_alloc ?_ _)); refine blk_far ?_ NB104_106.out _; (with_reducible repeat (first | refine blk_drewN ?_ _ | refine blk_drew ?_ | refine blk_alloc ?_ _)); refine blk_far ?_ NB104_106.out _; (with_reducible repeat (first | refine blk_drewN ?_ _ | refine blk_drew ?_ | refine blk_alloc ?_ _)); refine blk_far ?_ NB104_106.out _; (with_reducible repeat (first | refine blk_drewN ?_ _ | refine blk_drew ?_ | refine blk_alloc ?_ _)); refine blk_far ?_ NB104_106.out _; (with_reducible repeat (first | refine blk_drewN ?_ _ | refine blk_drew ?_ | refine blk_alloc ?_ _)); refine blk_far ?_ NB104_106.out _; (with_reducible repeat (first | refine blk_drewN ?_ _ | refine blk_drew ?_ | refine blk_alloc ?_ _)); refine blk_far ?_ NB104_106.out _; (with_reducible repeat (first | refine blk_drewN ?_ _ | refine blk_drew ?_ | refine blk_alloc ?_ _)); refine blk_far ?_ NB104_106.out _; (with_reducible repeat (first | refine blk_drewN ?_ _ | refine blk_drew ?_ | refine blk_alloc ?_ _)); refine blk_far ?_ NB104_106.out _; (with_reducible repeat (first | refine blk_drewN ?_ _ | refine blk_drew ?_ | refine blk_alloc ?_ _)); refine blk_far ?_ NB104_106.out _; (with_reducible repeat (first | refine blk_drewN ?_ _ | refine blk_drew ?_ | refine blk_alloc ?_ _)); refine blk_far ?_ NB104_106.out _; (with_reducible repeat (first | refine blk_drewN ?_ _ | refine blk_drew ?_ | refine blk_alloc ?_ _)); refine blk_far ?_ NB104_106.out _; (with_reducible repeat (first | refine blk_drewN ?_ _ | refine blk_drew ?_ | refine blk_alloc ?_ _)); refine blk_far ?_ NB104_106.out _; (with_reducible repeat (first | refine blk_drewN ?_ _ | refine blk_drew ?_ | refine blk_alloc ?_ _)); exact BK104.out⟩, ⟨by (with_reducible repeat (first | refine blk_drewN ?_ _ | refine blk_drew ?_ | refine blk_alloc ?_ _)); refine blk_far ?_ NB106_104.out _; (with_reducible repeat (first | refine blk_drewN ?_ _ | refine blk_drew ?_ | refine blk_alloc ?_ _)); refine blk_far ?_ NB106_104.out _; (with_reducible repeat (first | refine blk_drewN ?_ _ | refine blk_drew ?_ | refine blk_alloc ?_ _)); refine blk_far ?_ NB106_104.out _; (with_reducible repeat (first | refine blk_drewN ?_ _ | refine blk_drew ?_ | refine blk_alloc ?_ _)); refine blk_put (cs := #[.int .i64 ((rd_T48 l0 x8_1).f0.f0), .int .i64 ((rd_T48 l0 x8_1).f0.f1), .int .i64 ((rd_T48 l0 x8_1).f0.f2), .int .i64 ((rd_T48 l0 x8_1).f0.f3), .string ((rd_T48 l0 x8_1).f0.f4.f0), .int .i64 ((rd_T48 l0 x8_1).f0.f4.f1), .int .i64 ((rd_T48 l0 x8_1).f0.f4.f2), .int .i64 ((rd_T48 l0 x8_1).f1), .int .i64 ((rd_T48 l0 x8_1).f2), .slice A105_9 ((rd_T48 l0 x8_1).f3).length c105_9, .int .i64 ((rd_T48 l0 x8_1).f4), .slice none 0 0]) ?_ 11 _ rfl; (with_reducible repeat (first | refine blk_drewN ?_ _ | refine blk_drew ?_ | refine blk_alloc ?_ _)); refine blk_put (cs := #[.int .i64 ((rd_T48 l0 x8_1).f0.f0), .int .i64 ((rd_T48 l0 x8_1).f0.f1), .int .i64 ((rd_T48 l0 x8_1).f0.f2), .int .i64 ((rd_T48 l0 x8_1).f0.f3), .string ((rd_T48 l0 x8_1).f0.f4.f0), .int .i64 ((rd_T48 l0 x8_1).f0.f4.f1), .int .i64 ((rd_T48 l0 x8_1).f0.f4.f2), .int .i64 ((rd_T48 l0 x8_1).f1), .int .i64 ((rd_T48 l0 x8_1).f2), .slice A105_9 ((rd_T48 l0 x8_1).f3).length c105_9, .int .i64 0, .slice none 0 0]) ?_ 10 _ rfl; (with_reducible repeat (first | refine blk_drewN ?_ _ | refine blk_drew ?_ | refine blk_alloc ?_ _)); refine blk_put (cs := #[.int .i64 ((rd_T48 l0 x8_1).f0.f0), .int .i64 ((rd_T48 l0 x8_1).f0.f1), .int .i64 ((rd_T48 l0 x8_1).f0.f2), .int .i64 ((rd_T48 l0 x8_1).f0.f3), .string ((rd_T48 l0 x8_1).f0.f4.f0), .int .i64 ((rd_T48 l0 x8_1).f0.f4.f1), .int .i64 ((rd_T48 l0 x8_1).f0.f4.f2), .int .i64 ((rd_T48 l0 x8_1).f1), .int .i64 ((rd_T48 l0 x8_1).f2), .slice none 0 0, .int .i64 0, .slice none 0 0]) ?_ 9 _ rfl; (with_reducible repeat (first | refine blk_drewN ?_ _ | refine blk_drew ?_ | refine blk_alloc ?_ _)); refine blk_put (cs := #[.int .i64 ((rd_T48 l0 x8_1).f0.f0), .int .i64 ((rd_T48 l0 x8_1).f0.f1), .int .i64 ((rd_T48 l0 x8_1).f0.f2), .int .i64 ((rd_T48 l0 x8_1).f0.f3), .string ((rd_T48 l0 x8_1).f0.f4.f0), .int .i64 ((rd_T48 l0 x8_1).f0.f4.f1), .int .i64 ((rd_T48 l0 x8_1).f0.f4.f2), .int .i64 ((rd_T48 l0 x8_1).f1), .int .i64 0, .slice none 0 0, .int .i64 0, .slice none 0 0]) ?_ 8 _ rfl; (with_reducible repeat (first | refine blk_drewN ?_ _ | refine blk_drew ?_ | refine blk_alloc ?_ _)); refine blk_put (cs := #[.int .i64 ((rd_T48 l0 x8_1).f0.f0), .int .i64 ((rd_T48 l0 x8_1).f0.f1), .int .i64 ((rd_T48 l0 x8_1).f0.f2), .int .i64 ((rd_T48 l0 x8_1).f0.f3), .string ((rd_T48 l0 x8_1).f0.f4.f0), .int .i64 ((rd_T48 l0 x8_1).f0.f4.f1), .int .i64 ((rd_T48 l0 x8_1).f0.f4.f2), .int .i64 0, .int .i64 0, .slice none 0 0, .int .i64 0, .slice none 0 0]) ?_ 7 _ rfl; (with_reducible repeat (first | refine blk_drewN ?_ _ | refine blk_drew ?_ | refine blk_alloc ?_ _)); refine blk_put (cs := #[.int .i64 ((rd_T48 l0 x8_1).f0.f0), .int .i64 ((rd_T48 l0 x8_1).f0.f1), .int .i64 ((rd_T48 l0 x8_1).f0.f2), .int .i64 ((rd_T48 l0 x8_1).f0.f3), .string ((rd_T48 l0 x8_1).f0.f4.f0), .int .i64 ((rd_T48 l0 x8_1).f0.f4.f1), .int .i64 0, .int .i64 0, .int .i64 0, .slice none 0 0, .int .i64 0, .slice none 0 0]) ?_ 6 _ rfl; (with_reducible repeat (first | refine blk_drewN ?_ _ | refine blk_drew ?_ | refine blk_alloc ?_ _)); refine blk_put (cs := #[.int .i64 ((rd_T48 l0 x8_1).f0.f0), .int .i64 ((rd_T48 l0 x8_1).f0.f1), .int .i64 ((rd_T48 l0 x8_1).f0.f2), .int .i64 ((rd_T48 l0 x8_1).f0.f3), .string ((rd_T48 l0 x8_1).f0.f4.f0), .int .i64 0, .int .i64 0, .int .i64 0, .int .i64 0, .slice none 0 0, .int .i64 0, .slice none 0 0]) ?_ 5 _ rfl; (with_reducible repeat (first | refine blk_drewN ?_ _ | refine blk_drew ?_ | refine blk_alloc ?_ _)); refine blk_put (cs := #[.int .i64 ((rd_T48 l0 x8_1).f0.f0), .int .i64 ((rd_T48 l0 x8_1).f0.f1), .int .i64 ((rd_T48 l0 x8_1).f0.f2), .int .i64 ((rd_T48 l0 x8_1).f0.f3), .string (⟨#[]⟩ : ByteArray), .int .i64 0, .int .i64 0, .int .i64 0, .int .i64 0, .slice none 0 0, .int .i64 0, .slice none 0 0]) ?_ 4 _ rfl; (with_reducible repeat (first | refine blk_drewN ?_ _ | refine blk_drew ?_ | refine blk_alloc ?_ _)); refine blk_put (cs := #[.int .i64 ((rd_T48 l0 x8_1).f0.f0), .int .i64 ((rd_T48 l0 x8_1).f0.f1), .int .i64 ((rd_T48 l0 x8_1).f0.f2), .int .i64 0, .string (⟨#[]⟩ : ByteArray), .int .i64 0, .int .i64 0, .int .i64 0, .int .i64 0, .slice none 0 0, .int .i64 0, .slice none 0 0]) ?_ 3 _ rfl; (with_reducible repeat (first | refine blk_drewN ?_ _ | refine blk_drew ?_ | refine blk_alloc ?_ _)); refine blk_put (cs := #[.int .i64 ((rd_T48 l0 x8_1).f0.f0), .int .i64 ((rd_T48 l0 x8_1).f0.f1), .int .i64 0, .int .i64 0, .string (⟨#[]⟩ : ByteArray), .int .i64 0, .int .i64 0, .int .i64 0, .int .i64 0, .slice none 0 0, .int .i64 0, .slice none 0 0]) ?_ 2 _ rfl; (with_reducible repeat (first | refine blk_drewN ?_ _ | refine blk_drew ?_ | refine blk_alloc ?_ _)); refine blk_put (cs := #[.int .i64 ((rd_T48 l0 x8_1).f0.f0), .int .i64 0, .int .i64 0, .int .i64 0, .string (⟨#[]⟩ : ByteArray), .int .i64 0, .int .i64 0, .int .i64 0, .int .i64 0, .slice none 0 0, .int .i64 0, .slice none 0 0]) ?_ 1 _ rfl; (with_reducible repeat (first | refine blk_drewN ?_ _ | refine blk_drew ?_ | refine blk_alloc ?_ _)); refine blk_put (cs := #[.int .i64 0, .int .i64 0, .int .i64 0, .int .i64 0, .string (⟨#[]⟩ : ByteArray), .int .i64 0, .int .i64 0, .int .i64 0, .int .i64 0, .slice none 0 0, .int .i64 0, .slice none 0 0]) ?_ 0 _ rfl; (with_reducible repeat (first | refine blk_drewN ?_ _ | refine blk_drew ?_ | refine blk_alloc ?_ _)); exact BK106.out⟩, ⟨by repeat (first | (with_reducible first | exact HB.out | apply below_alloc | apply pw_below_drewN | apply below_drew1 | refine below_set ?_ GE103.out | refine below_set ?_ GE104.out | refine below_set ?_ GE106.out) | exact HB.out)⟩⟩
              · rw [if_neg c14] at H
                have c14b0 : decide (0 ≤ ((rd_T48 l0 x8_1).f4)) = false := decide_eq_false c14
                clear c14
                (first | rw [c14b0] | (simp only [i64_w, i32_w]; rw [c14b0]) | skip)
                have H' := Aside0.mk H
                clear H
                go_wp2
                go_meet
                case rel => exact ⟨_, (x105001_1), H', ⟨by have := HK1.out; first | omega | exact Nat.le_refl _⟩, ⟨by (with_reducible repeat (first | refine blk_drewN ?_ _ | refine blk_drew ?_ | refine blk_alloc ?_ _)); refine blk_far ?_ NB103_104.out _; (with_reducible repeat (first | refine blk_drewN ?_ _ | refine blk_drew ?_ | refine blk_alloc ?_ _)); refine blk_far ?_ NB103_104.out _; (with_reducible repeat (first | refine blk_drewN ?_ _ | refine blk_drew ?_ | refine blk_alloc ?_ _)); refine blk_far ?_ NB103_106.out _; (with_reducible repeat (first | refine blk_drewN ?_ _ | refine blk_drew ?_ | refine blk_alloc ?_ _)); refine blk_far ?_ NB103_106.out _; (with_reducible repeat (first | refine blk_drewN ?_ _ | refine blk_drew ?_ | refine blk_alloc ?_ _)); refine blk_far ?_ NB103_106.out _; (with_reducible repeat (first | refine blk_drewN ?_ _ | refine blk_drew ?_ | refine blk_alloc ?_ _)); refine blk_far ?_ NB103_106.out _; (with_reducible repeat (first | refine blk_drewN ?_ _ | refine blk_drew ?_ | refine blk_alloc ?_ _)); refine blk_far ?_ NB103_106.out _; (with_reducible repeat (first | refine blk_drewN ?_ _ | refine blk_drew ?_ | refine blk_alloc ?_ _)); refine blk_far ?_ NB103_106.out _; (with_reducible repeat (first | refine blk_drewN ?_ _ | refine blk_drew ?_ | refine blk_alloc ?_ _)); refine blk_far ?_ NB103_106.out _; (with_reducible repeat (first | refine blk_drewN ?_ _ | refine blk_drew ?_ | refine blk_alloc ?_ _)); refine blk_far ?_ NB103_106.out _; (with_reducible repeat (first | refine blk_drewN ?_ _ | refine blk_drew ?_ | refine blk_alloc ?_ _)); refine blk_far ?_ NB103_106.out _; (with_reducible repeat (first | refine blk_drewN ?_ _ | refine blk_drew ?_ | refine blk_alloc ?_ _)); refine blk_far ?_ NB103_106.out _; (with_reducible repeat (first | refine blk_drewN ?_ _ | refine blk_drew ?_ | refine blk_alloc ?_ _)); refine blk_far ?_ NB103_106.out _; (with_reducible repeat (first | refine blk_drewN ?_ _ | refine blk_drew ?_ | refine blk_alloc ?_ _)); refine blk_far ?_ NB103_106.out _; (with_reducible repeat (first | refine blk_drewN ?_ _ | refine blk_drew ?_ | refine blk_alloc ?_ _)); exact BK103.out⟩, ⟨by (with_reducible repeat (first | refine blk_drewN ?_ _ | refine blk_drew ?_ | refine blk_alloc ?_ _)); refine blk_put (cs := #[.int .i64 (wrap64 (x105000_1 + (((rd_T48 l0 x8_1).f3).length : Int))), .int .i64 x105001_1, .int .i64 x105002_1, .int .i64 x105003_1, .int .i64 x105004_1, .int .i64 x105005_1]) ?_ 2 _ rfl; (with_reducible repeat (first | refine blk_drewN ?_ _ | refine blk_drew ?_ | refine blk_alloc ?_ _)); refine blk_put (cs := #[.int .i64 x105000_1, .int .i64 x105001_1, .int .i64 x105002_1, .int .i64 x105003_1, .int .i64 x105004_1, .int .i64 x105005_1]) ?_ 0 _ rfl; (with_reducible repeat (first | refine blk_drewN ?_ _ | refine blk_drew ?_ | refine blk_alloc ?_ _)); refine blk_far ?_ NB104_106.out _; (with_reducible repeat (first | refine blk_drewN ?_ _ | refine blk_drew ?_ | refine blk_alloc ?_ _)); refine blk_far ?_ NB104_106.out _; (with_reducible repeat (first | refine blk_drewN ?_ _ | refine blk_drew ?_ | refine blk_alloc ?_ _)); refine blk_far ?_ NB104_106.out _; (with_reducible repeat (first | refine blk_drewN ?_ _ | refine blk_drew ?_ | refine blk_alloc ?_ _)); refine blk_far ?_ NB104_106.out _; (with_reducible repeat (first | refine blk_drewN ?_ _ | refine blk_drew ?_ | refine blk_alloc ?_ _)); refine blk_far ?_ NB104_106.out _; (with_reducible repeat (first | refine blk_drewN ?_ _ | refine blk_drew ?_ | refine blk_alloc ?_ _)); refine blk_far ?_ NB104_106.out _; (with_reducible repeat (first | refine blk_drewN ?_ _ | refine blk_drew ?_ | refine blk_alloc ?_ _)); refine blk_far ?_ NB104_106.out _; (with_reducible repeat (first | refine blk_drewN ?_ _ | refine blk_drew ?_ | refine blk_alloc ?_ _)); refine blk_far ?_ NB104_106.out _; (with_reducible repeat (first | refine blk_drewN ?_ _ | refine blk_drew ?_ | refine blk_alloc ?_ _)); refine blk_far ?_ NB104_106.out _; (with_reducible repeat (first | refine blk_drewN ?_ _ | refine blk_drew ?_ | refine blk_alloc ?_ _)); refine blk_far ?_ NB104_106.out _; (with_reducible repeat (first | refine blk_drewN ?_ _ | refine blk_drew ?_ | refine blk_alloc ?_ _)); refine blk_far ?_ NB104_106.out _; (with_reducible repeat (first | refine blk_drewN ?_ _ | refine blk_drew ?_ | refine blk_alloc ?_ _)); refine blk_far ?_ NB104_106.out _; (with_reducible repeat (first | refine blk_drewN ?_ _ | refine blk_drew ?_ | refine blk_alloc ?_ _)); exact BK104.out⟩, ⟨by (with_reducible repeat (first | refine blk_drewN ?_ _ | refine blk_drew ?_ | refine blk_alloc ?_ _)); refine blk_far ?_ NB106_104.out _; (with_reducible repeat (first | refine blk_drewN ?_ _ | refine blk_drew ?_ | refine blk_alloc ?_ _)); refine blk_far ?_ NB106_104.out _; (with_reducible repeat (first | refine blk_drewN ?_ _ | refine blk_drew ?_ | refine blk_alloc ?_ _)); refine blk_put (cs := #[.int .i64 ((rd_T48 l0 x8_1).f0.f0), .int .i64 ((rd_T48 l0 x8_1).f0.f1), .int .i64 ((rd_T48 l0 x8_1).f0.f2), .int .i64 ((rd_T48 l0 x8_1).f0.f3), .string ((rd_T48 l0 x8_1).f0.f4.f0), .int .i64 ((rd_T48 l0 x8_1).f0.f4.f1), .int .i64 ((rd_T48 l0 x8_1).f0.f4.f2), .int .i64 ((rd_T48 l0 x8_1).f1), .int .i64 ((rd_T48 l0 x8_1).f2), .slice A105_9 ((rd_T48 l0 x8_1).f3).length c105_9, .int .i64 ((rd_T48 l0 x8_1).f4), .slice none 0 0]) ?_ 11 _ rfl; (with_reducible repeat (first | refine blk_drewN ?_ _ | refine blk_drew ?_ | refine blk_alloc ?_ _)); refine blk_put (cs := #[.int .i64 ((rd_T48 l0 x8_1).f0.f0), .int .i64 ((rd_T48 l0 x8_1).f0.f1), .int .i64 ((rd_T48 l0 x8_1).f0.f2), .int .i64 ((rd_T48 l0 x8_1).f0.f3), .string ((rd_T48 l0 x8_1).f0.f4.f0), .int .i64 ((rd_T48 l0 x8_1).f0.f4.f1), .int .i64 ((rd_T48 l0 x8_1).f0.f4.f2), .int .i64 ((rd_T48 l0 x8_1).f1), .int .i64 ((rd_T48 l0 x8_1).f2), .slice A105_9 ((rd_T48 l0 x8_1).f3).length c105_9, .int .i64 0, .slice none 0 0]) ?_ 10 _ rfl; (with_reducible repeat (first | refine blk_drewN ?_ _ | refine blk_drew ?_ | refine blk_alloc ?_ _)); refine blk_put (cs := #[.int .i64 ((rd_T48 l0 x8_1).f0.f0), .int .i64 ((rd_T48 l0 x8_1).f0.f1), .int .i64 ((rd_T48 l0 x8_1).f0.f2), .int .i64 ((rd_T48 l0 x8_1).f0.f3), .string ((rd_T48 l0 x8_1).f0.f4.f0), .int .i64 ((rd_T48 l0 x8_1).f0.f4.f1), .int .i64 ((rd_T48 l0 x8_1).f0.f4.f2), .int .i64 ((rd_T48 l0 x8_1).f1), .int .i64 ((rd_T48 l0 x8_1).f2), .slice none 0 0, .int .i64 0, .slice none 0 0]) ?_ 9 _ rfl; (with_reducible repeat (first | refine blk_drewN ?_ _ | refine blk_drew ?_ | refine blk_alloc ?_ _)); refine blk_put (cs := #[.int .i64 ((rd_T48 l0 x8_1).f0.f0), .int .i64 ((rd_T48 l0 x8_1).f0.f1), .int .i64 ((rd_T48 l0 x8_1).f0.f2), .int .i64 ((rd_T48 l0 x8_1).f0.f3), .string ((rd_T48 l0 x8_1).f0.f4.f0), .int .i64 ((rd_T48 l0 x8_1).f0.f4.f1), .int .i64 ((rd_T48 l0 x8_1).f0.f4.f2), .int .i64 ((rd_T48 l0 x8_1).f1), .int .i64 0, .slice none 0 0, .int .i64 0, .slice none 0 0]) ?_ 8 _ rfl; (with_reducible repeat (first | refine blk_drewN ?_ _ | refine blk_drew ?_ | refine blk_alloc ?_ _)); refine blk_put (cs := #[.int .i64 ((rd_T48 l0 x8_1).f0.f0), .int .i64 ((rd_T48 l0 x8_1).f0.f1), .int .i64 ((rd_T48 l0 x8_1).f0.f2), .int .i64 ((rd_T48 l0 x8_1).f0.f3), .string ((rd_T48 l0 x8_1).f0.f4.f0), .int .i64 ((rd_T48 l0 x8_1).f0.f4.f1), .int .i64 ((rd_T48 l0 x8_1).f0.f4.f2), .int .i64 0, .int .i64 0, .slice none 0 0, .int .i64 0, .slice none 0 0]) ?_ 7 _ rfl; (with_reducible repeat (first | refine blk_drewN ?_ _ | refine blk_drew ?_ | refine blk_alloc ?_ _)); refine blk_put (cs := #[.int .i64 ((rd_T48 l0 x8_1).f0.f0), .int .i64 ((rd_T48 l0 x8_1).f0.f1), .int .i64 ((rd_T48 l0 x8_1).f0.f2), .int .i64 ((rd_T48 l0 x8_1).f0.f3), .string ((rd_T48 l0 x8_1).f0.f4.f0), .int .i64 ((rd_T48 l0 x8_1).f0.f4.f1), .int .i64 0, .int .i64 0, .int .i64 0, .slice none 0 0, .int .i64 0, .slice none 0 0]) ?_ 6 _ rfl; (with_reducible repeat (first | refine blk_drewN ?_ _ | refine blk_drew ?_ | refine blk_alloc ?_ _)); refine blk_put (cs := #[.int .i64 ((rd_T48 l0 x8_1).f0.f0), .int .i64 ((rd_T48 l0 x8_1).f0.f1), .int .i64 ((rd_T48 l0 x8_1).f0.f2), .int .i64 ((rd_T48 l0 x8_1).f0.f3), .string ((rd_T48 l0 x8_1).f0.f4.f0), .int .i64 0, .int .i64 0, .int .i64 0, .int .i64 0, .slice none 0 0, .int .i64 0, .slice none 0 0]) ?_ 5 _ rfl; (with_reducible repeat (first | refine blk_drewN ?_ _ | refine blk_drew ?_ | refine blk_alloc ?_ _)); refine blk_put (cs := #[.int .i64 ((rd_T48 l0 x8_1).f0.f0), .int .i64 ((rd_T48 l0 x8_1).f0.f1), .int .i64 ((rd_T48 l0 x8_1).f0.f2), .int .i64 ((rd_T48 l0 x8_1).f0.f3), .string (⟨#[]⟩ : ByteArray), .int .i64 0, .int .i64 0, .int .i64 0, .int .i64 0, .slice none 0 0, .int .i64 0, .slice none 0 0]) ?_ 4 _ rfl; (with_reducible repeat (first | refine blk_drewN ?_ _ | refine blk_drew ?_ | refine blk_alloc ?_ _)); refine blk_put (cs := #[.int .i64 ((rd_T48 l0 x8_1).f0.f0), .int .i64 ((rd_T48 l0 x8_1).f0.f1), .int .i64 ((rd_T48 l0 x8_1).f0.f2), .int .i64 0, .string (⟨#[]⟩ : ByteArray), .int .i64 0, .int .i64 0, .int .i64 0, .int .i64 0, .slice none 0 0, .int .i64 0, .slice none 0 0]) ?_ 3 _ rfl; (with_reducible repeat (first | refine blk_drewN ?_ _ | refine blk_drew ?_ | refine blk_alloc ?_ _)); refine blk_put (cs := #[.int .i64 ((rd_T48 l0 x8_1).f0.f0), .int .i64 ((rd_T48 l0 x8_1).f0.f1), .int .i64 0, .int .i64 0, .string (⟨#[]⟩ : ByteArray), .int .i64 0, .int .i64 0, .int .i64 0, .int .i64 0, .slice none 0 0, .int .i64 0, .slice none 0 0]) ?_ 2 _ rfl; (with_reducible repeat (first | refine blk_drewN ?_ _ | refine blk_drew ?_ | refine blk_alloc ?_ _)); refine blk_put (cs := #[.int .i64 ((rd_T48 l0 x8_1).f0.f0), .int .i64 0, .int .i64 0, .int .i64 0, .string (⟨#[]⟩ : ByteArray), .int .i64 0, .int .i64 0, .int .i64 0, .int .i64 0, .slice none 0 0, .int .i64 0, .slice none 0 0]) ?_ 1 _ rfl; (with_reducible repeat (first | refine blk_drewN ?_ _ | refine blk_drew ?_ | refine blk_alloc ?_ _)); refine blk_put (cs := #[.int .i64 0, .int .i64 0, .int .i64 0, .int .i64 0, .string (⟨#[]⟩ : ByteArray), .int .i64 0, .int .i64 0, .int .i64 0, .int .i64 0, .slice none 0 0, .int .i64 0, .slice none 0 0]) ?_ 0 _ rfl; (with_reducible repeat (first | refine blk_drewN ?_ _ | refine blk_drew ?_ | refine blk_alloc ?_ _)); exact BK106.out⟩, ⟨by repeat (first | (with_reducible first | exact HB.out | apply below_alloc | apply pw_below_drewN | apply below_drew1 | refine below_set ?_ GE103.out | refine below_set ?_ GE104.out | refine below_set ?_ GE106.out) | exact HB.out)⟩⟩
            case rest =>
              clear HC7
              try clear c1
              try clear p1
              try clear q1
              try clear hx1
              try clear p2
              try clear c4
              try clear c4b0
              try clear c5
              try clear c5b0
              try clear c6
              try clear c6b0
              try clear p6
              try clear c9
              try clear c10
              try clear p10
              try clear q10
              try clear hx10
              try clear c12
              try clear c14
              try clear c14b0
              try clear c15
              try clear c16
              try clear c17
              try clear hcz11_0
              try clear hcz11_1
              try clear hcz11_10
              try clear hcz11_11
              try clear hcz11_2
              try clear hcz11_3
              try clear hcz11_4
              try clear hcz11_5
              try clear hcz11_6
              try clear hcz11_7
              try clear hcz11_8
              try clear hcz11_9
              try clear hcz13_0
              try clear hcz13_1
              try clear hcz13_2
              try clear hcz13_3
              try clear hcz13_4
              try clear hcz13_5
              try clear hcz17_0
              try clear hcz17_1
              try clear hcz17_2
              try clear hcz17_3
              try clear hcz17_4
              try clear hcz17_5
              try clear hfz11_0
              try clear hfz11_1
              try clear hfz11_10
              try clear hfz11_11
              try clear hfz11_2
              try clear hfz11_3
              try clear hfz11_4
              try clear hfz11_5
              try clear hfz11_6
              try clear hfz11_7
              try clear hfz11_8
              try clear hfz11_9
              try clear hfz13_0
              try clear hfz13_1
              try clear hfz13_2
              try clear hfz13_3
              try clear hfz13_4
              try clear hfz13_5
              try clear hfz17_0
              try clear hfz17_1
              try clear hfz17_2
              try clear hfz17_3
              try clear hfz17_4
              try clear hfz17_5
              try clear hx105_0
              try clear hx105_1
              try clear hx105_10
              try clear hx105_11
              try clear hx105_2
              try clear hx105_3
              try clear hx105_4
              try clear hx105_5
              try clear hx105_6
              try clear hx105_7
              try clear hx105_8
              try clear hx105_9
              try clear p105
              try clear p2
              try clear q105
              obtain ⟨kq, x105001_6, HA, HJ6, BK103, BK104, BK106, HB⟩ := hcut
              cases kq with
              | zero => exact absurd HA.out (by simp [trace_Of.j1])
              | succ kj6 =>
                have H := HA.out
                clear HA
                simp only [trace_Of.j1] at H
                by_cases c18 : ((rd_T48 l0 x8_1).f1) = 3
                · rw [if_pos c18] at H
                  have c18b0 : (((rd_T48 l0 x8_1).f1) == 3) = true := beq_iff_eq.mpr c18
                  have c18b1 : (((rd_T48 l0 x8_1).f1) != 3) = false := bne_eq_false_iff_eq.mpr c18
                  clear c18
                  have H' := Aside0.mk H
                  clear H
                  have hnb19 := NB106_103.out
                  have hnc19 := NB103_106.out
                  have hnb20 := NB106_104.out
                  have hnc20 := NB104_106.out
                  have hcz21_0 : wc.cell? ⟨gb106, 0, none⟩ = some (.int .i64 ((rd_T48 l0 x8_1).f0.f0)) := (blk_cell BK106.out 0).trans rfl
                  have hcz21_1 : wc.cell? ⟨gb106, 1, none⟩ = some (.int .i64 ((rd_T48 l0 x8_1).f0.f1)) := (blk_cell BK106.out 1).trans rfl
                  have hcz21_2 : wc.cell? ⟨gb106, 2, none⟩ = some (.int .i64 ((rd_T48 l0 x8_1).f0.f2)) := (blk_cell BK106.out 2).trans rfl
                  have hcz21_3 : wc.cell? ⟨gb106, 3, none⟩ = some (.int .i64 ((rd_T48 l0 x8_1).f0.f3)) := (blk_cell BK106.out 3).trans rfl
                  have hcz21_4 : wc.cell? ⟨gb106, 4, none⟩ = some (.string ((rd_T48 l0 x8_1).f0.f4.f0)) := (blk_cell BK106.out 4).trans rfl
                  have hcz21_5 : wc.cell? ⟨gb106, 5, none⟩ = some (.int .i64 ((rd_T48 l0 x8_1).f0.f4.f1)) := (blk_cell BK106.out 5).trans rfl
                  have hcz21_6 : wc.cell? ⟨gb106, 6, none⟩ = some (.int .i64 ((rd_T48 l0 x8_1).f0.f4.f2)) := (blk_cell BK106.out 6).trans rfl
                  have hcz21_7 : wc.cell? ⟨gb106, 7, none⟩ = some (.int .i64 ((rd_T48 l0 x8_1).f1)) := (blk_cell BK106.out 7).trans rfl
                  have hcz21_8 : wc.cell? ⟨gb106, 8, none⟩ = some (.int .i64 ((rd_T48 l0 x8_1).f2)) := (blk_cell BK106.out 8).trans rfl
                  have hcz21_9 : wc.cell? ⟨gb106, 9, none⟩ = some (.slice A105_9 ((rd_T48 l0 x8_1).f3).length c105_9) := (blk_cell BK106.out 9).trans rfl
                  have hcz21_10 : wc.cell? ⟨gb106, 10, none⟩ = some (.int .i64 ((rd_T48 l0 x8_1).f4)) := (blk_cell BK106.out 10).trans rfl
                  have hcz21_11 : wc.cell? ⟨gb106, 11, none⟩ = some (.slice A105_11 ((rd_T48 l0 x8_1).f5).length c105_11) := (blk_cell BK106.out 11).trans rfl
                  have hfz21_0 := blk_frozen BK106.out 0
                  have hfz21_1 := blk_frozen BK106.out 1
                  have hfz21_2 := blk_frozen BK106.out 2
                  have hfz21_3 := blk_frozen BK106.out 3
                  have hfz21_4 := blk_frozen BK106.out 4
                  have hfz21_5 := blk_frozen BK106.out 5
                  have hfz21_6 := blk_frozen BK106.out 6
                  have hfz21_7 := blk_frozen BK106.out 7
                  have hfz21_8 := blk_frozen BK106.out 8
                  have hfz21_9 := blk_frozen BK106.out 9
                  have hfz21_10 := blk_frozen BK106.out 10
                  have hfz21_11 := blk_frozen BK106.out 11
                  have hnb22 := NB104_103.out
                  have hnc22 := NB103_104.out
                  have hcz23_0 : wc.cell? ⟨gb104, 0, none⟩ = some (.int .i64 (wrap64 (x105000_1 + (((rd_T48 l0 x8_1).f3).length : Int)))) := (blk_cell BK104.out 0).trans rfl
                  have hcz23_1 : wc.cell? ⟨gb104, 1, none⟩ = some (.int .i64 x105001_6) := (blk_cell BK104.out 1).trans rfl
                  have hcz23_2 : wc.cell? ⟨gb104, 2, none⟩ = some (.int .i64 (wrap64 (x105002_1 + (((rd_T48 l0 x8_1).f5).length : Int)))) := (blk_cell BK104.out 2).trans rfl
                  have hcz23_3 : wc.cell? ⟨gb104, 3, none⟩ = some (.int .i64 x105003_1) := (blk_cell BK104.out 3).trans rfl
                  have hcz23_4 : wc.cell? ⟨gb104, 4, none⟩ = some (.int .i64 x105004_1) := (blk_cell BK104.out 4).trans rfl
                  have hcz23_5 : wc.cell? ⟨gb104, 5, none⟩ = some (.int .i64 x105005_1) := (blk_cell BK104.out 5).trans rfl
                  have hfz23_0 := blk_frozen BK104.out 0
                  have hfz23_1 := blk_frozen BK104.out 1
                  have hfz23_2 := blk_frozen BK104.out 2
                  have hfz23_3 := blk_frozen BK104.out 3
                  have hfz23_4 := blk_frozen BK104.out 4
                  have hfz23_5 := blk_frozen BK104.out 5
                  go_wp2
                  go_roundg kj6
                  case measure => have := HK1.out; have := HJ6.out; omega
                  case rel => exact ⟨(wrap64 (x8_1 + 1)), ((wrap64 (x105000_1 + (((rd_T48 l0 x8_1).f3).length : Int)))), (x105001_6), ((wrap64 (x105002_1 + (((rd_T48 l0 x8_1).f5).length : Int)))), (wrap64 (x105003_1 + 1)), (x105004_1), (x105005_1), (by first | rfl | (simp; done) | (simp [*]; done)), H', ⟨by have := HK1.out; have := HJ6.out; omega⟩, ⟨by (with_reducible repeat (first | refine blk_drewN ?_ _ | refine blk_drew ?_ | refine blk_alloc ?_ _)); refine blk_far ?_ NB103_104.out _; (with_reducible repeat (first | refine blk_drewN ?_ _ | refine blk_drew ?_ | refine blk_alloc ?_ _)); exact BK103.out⟩, ⟨by (with_reducible repeat (first | refine blk_drewN ?_ _ | refine blk_drew ?_ | refine blk_alloc ?_ _)); refine blk_put (cs := #[.int .i64 (wrap64 (x105000_1 + (((rd_T48 l0 x8_1).f3).length : Int))), .int .i64 x105001_6, .int .i64 (wrap64 (x105002_1 + (((rd_T48 l0 x8_1).f5).length : Int))), .int .i64 x105003_1, .int .i64 x105004_1, .int .i64 x105005_1]) ?_ 3 _ rfl; (with_reducible repeat (first | refine blk_drewN ?_ _ | refine blk_drew ?_ | refine blk_alloc ?_ _)); exact BK104.out⟩, ⟨by repeat (first | (with_reducible first | exact HB.out | apply below_alloc | apply pw_below_drewN | apply below_drew1 | refine below_set ?_ GE103.out | refine below_set ?_ GE104.out | refine below_set ?_ GE106.out) | exact HB.out)⟩⟩
                · rw [if_neg c18] at H
                  have c18b0 : (((rd_T48 l0 x8_1).f1) == 3) = false := beq_eq_false_iff_ne.mpr c18
                  have c18b1 : (((rd_T48 l0 x8_1).f1) != 3) = true := bne_iff_ne.mpr c18
                  by_cases c24 : ((rd_T48 l0 x8_1).f1) = 2
                  · rw [if_pos c24] at H
                    have c24b0 : (((rd_T48 l0 x8_1).f1) == 2) = true := beq_iff_eq.mpr c24
                    have c24b1 : (((rd_T48 l0 x8_1).f1) != 2) = false := bne_eq_false_iff_eq.mpr c24
                    clear c24
                    have H' := Aside0.mk H
                    clear H
                    have hnb25 := NB106_103.out
                    have hnc25 := NB103_106.out
                    have hnb26 := NB106_104.out
                    have hnc26 := NB104_106.out
                    have hcz27_0 : wc.cell? ⟨gb106, 0, none⟩ = some (.int .i64 ((rd_T48 l0 x8_1).f0.f0)) := (blk_cell BK106.out 0).trans rfl
                    have hcz27_1 : wc.cell? ⟨gb106, 1, none⟩ = some (.int .i64 ((rd_T48 l0 x8_1).f0.f1)) := (blk_cell BK106.out 1).trans rfl
                    have hcz27_2 : wc.cell? ⟨gb106, 2, none⟩ = some (.int .i64 ((rd_T48 l0 x8_1).f0.f2)) := (blk_cell BK106.out 2).trans rfl
                    have hcz27_3 : wc.cell? ⟨gb106, 3, none⟩ = some (.int .i64 ((rd_T48 l0 x8_1).f0.f3)) := (blk_cell BK106.out 3).trans rfl
                    have hcz27_4 : wc.cell? ⟨gb106, 4, none⟩ = some (.string ((rd_T48 l0 x8_1).f0.f4.f0)) := (blk_cell BK106.out 4).trans rfl
                    have hcz27_5 : wc.cell? ⟨gb106, 5, none⟩ = some (.int .i64 ((rd_T48 l0 x8_1).f0.f4.f1)) := (blk_cell BK106.out 5).trans rfl
                    have hcz27_6 : wc.cell? ⟨gb106, 6, none⟩ = some (.int .i64 ((rd_T48 l0 x8_1).f0.f4.f2)) := (blk_cell BK106.out 6).trans rfl
                    have hcz27_7 : wc.cell? ⟨gb106, 7, none⟩ = some (.int .i64 ((rd_T48 l0 x8_1).f1)) := (blk_cell BK106.out 7).trans rfl
                    have hcz27_8 : wc.cell? ⟨gb106, 8, none⟩ = some (.int .i64 ((rd_T48 l0 x8_1).f2)) := (blk_cell BK106.out 8).trans rfl
                    have hcz27_9 : wc.cell? ⟨gb106, 9, none⟩ = some (.slice A105_9 ((rd_T48 l0 x8_1).f3).length c105_9) := (blk_cell BK106.out 9).trans rfl
                    have hcz27_10 : wc.cell? ⟨gb106, 10, none⟩ = some (.int .i64 ((rd_T48 l0 x8_1).f4)) := (blk_cell BK106.out 10).trans rfl
                    have hcz27_11 : wc.cell? ⟨gb106, 11, none⟩ = some (.slice A105_11 ((rd_T48 l0 x8_1).f5).length c105_11) := (blk_cell BK106.out 11).trans rfl
                    have hfz27_0 := blk_frozen BK106.out 0
                    have hfz27_1 := blk_frozen BK106.out 1
                    have hfz27_2 := blk_frozen BK106.out 2
                    have hfz27_3 := blk_frozen BK106.out 3
                    have hfz27_4 := blk_frozen BK106.out 4
                    have hfz27_5 := blk_frozen BK106.out 5
                    have hfz27_6 := blk_frozen BK106.out 6
                    have hfz27_7 := blk_frozen BK106.out 7
                    have hfz27_8 := blk_frozen BK106.out 8
                    have hfz27_9 := blk_frozen BK106.out 9
                    have hfz27_10 := blk_frozen BK106.out 10
                    have hfz27_11 := blk_frozen BK106.out 11
                    have hnb28 := NB104_103.out
                    have hnc28 := NB103_104.out
                    have hcz29_0 : wc.cell? ⟨gb104, 0, none⟩ = some (.int .i64 (wrap64 (x105000_1 + (((rd_T48 l0 x8_1).f3).length : Int)))) := (blk_cell BK104.out 0).trans rfl
                    have hcz29_1 : wc.cell? ⟨gb104, 1, none⟩ = some (.int .i64 x105001_6) := (blk_cell BK104.out 1).trans rfl
                    have hcz29_2 : wc.cell? ⟨gb104, 2, none⟩ = some (.int .i64 (wrap64 (x105002_1 + (((rd_T48 l0 x8_1).f5).length : Int)))) := (blk_cell BK104.out 2).trans rfl
                    have hcz29_3 : wc.cell? ⟨gb104, 3, none⟩ = some (.int .i64 x105003_1) := (blk_cell BK104.out 3).trans rfl
                    have hcz29_4 : wc.cell? ⟨gb104, 4, none⟩ = some (.int .i64 x105004_1) := (blk_cell BK104.out 4).trans rfl
                    have hcz29_5 : wc.cell? ⟨gb104, 5, none⟩ = some (.int .i64 x105005_1) := (blk_cell BK104.out 5).trans rfl
                    have hfz29_0 := blk_frozen BK104.out 0
                    have hfz29_1 := blk_frozen BK104.out 1
                    have hfz29_2 := blk_frozen BK104.out 2
                    have hfz29_3 := blk_frozen BK104.out 3
                    have hfz29_4 := blk_frozen BK104.out 4
                    have hfz29_5 := blk_frozen BK104.out 5
                    go_wp2
                    go_roundg kj6
                    case measure => have := HK1.out; have := HJ6.out; omega
                    case rel => exact ⟨(wrap64 (x8_1 + 1)), ((wrap64 (x105000_1 + (((rd_T48 l0 x8_1).f3).length : Int)))), (x105001_6), ((wrap64 (x105002_1 + (((rd_T48 l0 x8_1).f5).length : Int)))), (x105003_1), (wrap64 (x105004_1 + 1)), (x105005_1), (by first | rfl | (simp; done) | (simp [*]; done)), H', ⟨by have := HK1.out; have := HJ6.out; omega⟩, ⟨by (with_reducible repeat (first | refine blk_drewN ?_ _ | refine blk_drew ?_ | refine blk_alloc ?_ _)); refine blk_far ?_ NB103_104.out _; (with_reducible repeat (first | refine blk_drewN ?_ _ | refine blk_drew ?_ | refine blk_alloc ?_ _)); exact BK103.out⟩, ⟨by (with_reducible repeat (first | refine blk_drewN ?_ _ | refine blk_drew ?_ | refine blk_alloc ?_ _)); refine blk_put (cs := #[.int .i64 (wrap64 (x105000_1 + (((rd_T48 l0 x8_1).f3).length : Int))), .int .i64 x105001_6, .int .i64 (wrap64 (x105002_1 + (((rd_T48 l0 x8_1).f5).length : Int))), .int .i64 x105003_1, .int .i64 x105004_1, .int .i64 x105005_1]) ?_ 4 _ rfl; (with_reducible repeat (first | refine blk_drewN ?_ _ | refine blk_drew ?_ | refine blk_alloc ?_ _)); exact BK104.out⟩, ⟨by repeat (first | (with_reducible first | exact HB.out | apply below_alloc | apply pw_below_drewN | apply below_drew1 | refine below_set ?_ GE103.out | refine below_set ?_ GE104.out | refine below_set ?_ GE106.out) | exact HB.out)⟩⟩
                  · rw [if_neg c24] at H
                    have c24b0 : (((rd_T48 l0 x8_1).f1) == 2) = false := beq_eq_false_iff_ne.mpr c24
                    have c24b1 : (((rd_T48 l0 x8_1).f1) != 2) = true := bne_iff_ne.mpr c24
                    by_cases c30 : ((rd_T48 l0 x8_1).f1) = 1
                    · rw [if_pos c30] at H
                      have c30b0 : (((rd_T48 l0 x8_1).f1) == 1) = true := beq_iff_eq.mpr c30
                      have c30b1 : (((rd_T48 l0 x8_1).f1) != 1) = false := bne_eq_false_iff_eq.mpr c30
                      clear c30
                      have H' := Aside0.mk H
                      clear H
                      have hnb31 := NB106_103.out
                      have hnc31 := NB103_106.out
                      have hnb32 := NB106_104.out
                      have hnc32 := NB104_106.out
                      have hcz33_0 : wc.cell? ⟨gb106, 0, none⟩ = some (.int .i64 ((rd_T48 l0 x8_1).f0.f0)) := (blk_cell BK106.out 0).trans rfl
                      have hcz33_1 : wc.cell? ⟨gb106, 1, none⟩ = some (.int .i64 ((rd_T48 l0 x8_1).f0.f1)) := (blk_cell BK106.out 1).trans rfl
                      have hcz33_2 : wc.cell? ⟨gb106, 2, none⟩ = some (.int .i64 ((rd_T48 l0 x8_1).f0.f2)) := (blk_cell BK106.out 2).trans rfl
                      have hcz33_3 : wc.cell? ⟨gb106, 3, none⟩ = some (.int .i64 ((rd_T48 l0 x8_1).f0.f3)) := (blk_cell BK106.out 3).trans rfl
                      have hcz33_4 : wc.cell? ⟨gb106, 4, none⟩ = some (.string ((rd_T48 l0 x8_1).f0.f4.f0)) := (blk_cell BK106.out 4).trans rfl
                      have hcz33_5 : wc.cell? ⟨gb106, 5, none⟩ = some (.int .i64 ((rd_T48 l0 x8_1).f0.f4.f1)) := (blk_cell BK106.out 5).trans rfl
                      have hcz33_6 : wc.cell? ⟨gb106, 6, none⟩ = some (.int .i64 ((rd_T48 l0 x8_1).f0.f4.f2)) := (blk_cell BK106.out 6).trans rfl
                      have hcz33_7 : wc.cell? ⟨gb106, 7, none⟩ = some (.int .i64 ((rd_T48 l0 x8_1).f1)) := (blk_cell BK106.out 7).trans rfl
                      have hcz33_8 : wc.cell? ⟨gb106, 8, none⟩ = some (.int .i64 ((rd_T48 l0 x8_1).f2)) := (blk_cell BK106.out 8).trans rfl
                      have hcz33_9 : wc.cell? ⟨gb106, 9, none⟩ = some (.slice A105_9 ((rd_T48 l0 x8_1).f3).length c105_9) := (blk_cell BK106.out 9).trans rfl
                      have hcz33_10 : wc.cell? ⟨gb106, 10, none⟩ = some (.int .i64 ((rd_T48 l0 x8_1).f4)) := (blk_cell BK106.out 10).trans rfl
                      have hcz33_11 : wc.cell? ⟨gb106, 11, none⟩ = some (.slice A105_11 ((rd_T48 l0 x8_1).f5).length c105_11) := (blk_cell BK106.out 11).trans rfl
                      have hfz33_0 := blk_frozen BK106.out 0
                      have hfz33_1 := blk_frozen BK106.out 1
                      have hfz33_2 := blk_frozen BK106.out 2
                      have hfz33_3 := blk_frozen BK106.out 3
                      have hfz33_4 := blk_frozen BK106.out 4
                      have hfz33_5 := blk_frozen BK106.out 5
                      have hfz33_6 := blk_frozen BK106.out 6
                      have hfz33_7 := blk_frozen BK106.out 7
                      have hfz33_8 := blk_frozen BK106.out 8
                      have hfz33_9 := blk_frozen BK106.out 9
                      have hfz33_10 := blk_frozen BK106.out 10
                      have hfz33_11 := blk_frozen BK106.out 11
                      have hnb34 := NB104_103.out
                      have hnc34 := NB103_104.out
                      have hcz35_0 : wc.cell? ⟨gb104, 0, none⟩ = some (.int .i64 (wrap64 (x105000_1 + (((rd_T48 l0 x8_1).f3).length : Int)))) := (blk_cell BK104.out 0).trans rfl
                      have hcz35_1 : wc.cell? ⟨gb104, 1, none⟩ = some (.int .i64 x105001_6) := (blk_cell BK104.out 1).trans rfl
                      have hcz35_2 : wc.cell? ⟨gb104, 2, none⟩ = some (.int .i64 (wrap64 (x105002_1 + (((rd_T48 l0 x8_1).f5).length : Int)))) := (blk_cell BK104.out 2).trans rfl
                      have hcz35_3 : wc.cell? ⟨gb104, 3, none⟩ = some (.int .i64 x105003_1) := (blk_cell BK104.out 3).trans rfl
                      have hcz35_4 : wc.cell? ⟨gb104, 4, none⟩ = some (.int .i64 x105004_1) := (blk_cell BK104.out 4).trans rfl
                      have hcz35_5 : wc.cell? ⟨gb104, 5, none⟩ = some (.int .i64 x105005_1) := (blk_cell BK104.out 5).trans rfl
                      have hfz35_0 := blk_frozen BK104.out 0
                      have hfz35_1 := blk_frozen BK104.out 1
                      have hfz35_2 := blk_frozen BK104.out 2
                      have hfz35_3 := blk_frozen BK104.out 3
                      have hfz35_4 := blk_frozen BK104.out 4
                      have hfz35_5 := blk_frozen BK104.out 5
                      go_wp2
                      go_roundg kj6
                      case measure => have := HK1.out; have := HJ6.out; omega
                      case rel => exact ⟨(wrap64 (x8_1 + 1)), ((wrap64 (x105000_1 + (((rd_T48 l0 x8_1).f3).length : Int)))), (x105001_6), ((wrap64 (x105002_1 + (((rd_T48 l0 x8_1).f5).length : Int)))), (x105003_1), (x105004_1), (wrap64 (x105005_1 + 1)), (by first | rfl | (simp; done) | (simp [*]; done)), H', ⟨by have := HK1.out; have := HJ6.out; omega⟩, ⟨by (with_reducible repeat (first | refine blk_drewN ?_ _ | refine blk_drew ?_ | refine blk_alloc ?_ _)); refine blk_far ?_ NB103_104.out _; (with_reducible repeat (first | refine blk_drewN ?_ _ | refine blk_drew ?_ | refine blk_alloc ?_ _)); exact BK103.out⟩, ⟨by (with_reducible repeat (first | refine blk_drewN ?_ _ | refine blk_drew ?_ | refine blk_alloc ?_ _)); refine blk_put (cs := #[.int .i64 (wrap64 (x105000_1 + (((rd_T48 l0 x8_1).f3).length : Int))), .int .i64 x105001_6, .int .i64 (wrap64 (x105002_1 + (((rd_T48 l0 x8_1).f5).length : Int))), .int .i64 x105003_1, .int .i64 x105004_1, .int .i64 x105005_1]) ?_ 5 _ rfl; (with_reducible repeat (first | refine blk_drewN ?_ _ | refine blk_drew ?_ | refine blk_alloc ?_ _)); exact BK104.out⟩, ⟨by repeat (first | (with_reducible first | exact HB.out | apply below_alloc | apply pw_below_drewN | apply below_drew1 | refine below_set ?_ GE103.out | refine below_set ?_ GE104.out | refine below_set ?_ GE106.out) | exact HB.out)⟩⟩
                    · rw [if_neg c30] at H
                      have c30b0 : (((rd_T48 l0 x8_1).f1) == 1) = false := beq_eq_false_iff_ne.mpr c30
                      have c30b1 : (((rd_T48 l0 x8_1).f1) != 1) = true := bne_iff_ne.mpr c30
                      have H' := Aside0.mk H
                      clear H
                      have hnb36 := NB106_103.out
                      have hnc36 := NB103_106.out
                      have hnb37 := NB106_104.out
                      have hnc37 := NB104_106.out
                      have hcz38_0 : wc.cell? ⟨gb106, 0, none⟩ = some (.int .i64 ((rd_T48 l0 x8_1).f0.f0)) := (blk_cell BK106.out 0).trans rfl
                      have hcz38_1 : wc.cell? ⟨gb106, 1, none⟩ = some (.int .i64 ((rd_T48 l0 x8_1).f0.f1)) := (blk_cell BK106.out 1).trans rfl
                      have hcz38_2 : wc.cell? ⟨gb106, 2, none⟩ = some (.int .i64 ((rd_T48 l0 x8_1).f0.f2)) := (blk_cell BK106.out 2).trans rfl
                      have hcz38_3 : wc.cell? ⟨gb106, 3, none⟩ = some (.int .i64 ((rd_T48 l0 x8_1).f0.f3)) := (blk_cell BK106.out 3).trans rfl
                      have hcz38_4 : wc.cell? ⟨gb106, 4, none⟩ = some (.string ((rd_T48 l0 x8_1).f0.f4.f0)) := (blk_cell BK106.out 4).trans rfl
                      have hcz38_5 : wc.cell? ⟨gb106, 5, none⟩ = some (.int .i64 ((rd_T48 l0 x8_1).f0.f4.f1)) := (blk_cell BK106.out 5).trans rfl
                      have hcz38_6 : wc.cell? ⟨gb106, 6, none⟩ = some (.int .i64 ((rd_T48 l0 x8_1).f0.f4.f2)) := (blk_cell BK106.out 6).trans rfl
                      have hcz38_7 : wc.cell? ⟨gb106, 7, none⟩ = some (.int .i64 ((rd_T48 l0 x8_1).f1)) := (blk_cell BK106.out 7).trans rfl
                      have hcz38_8 : wc.cell? ⟨gb106, 8, none⟩ = some (.int .i64 ((rd_T48 l0 x8_1).f2)) := (blk_cell BK106.out 8).trans rfl
                      have hcz38_9 : wc.cell? ⟨gb106, 9, none⟩ = some (.slice A105_9 ((rd_T48 l0 x8_1).f3).length c105_9) := (blk_cell BK106.out 9).trans rfl
                      have hcz38_10 : wc.cell? ⟨gb106, 10, none⟩ = some (.int .i64 ((rd_T48 l0 x8_1).f4)) := (blk_cell BK106.out 10).trans rfl
                      have hcz38_11 : wc.cell? ⟨gb106, 11, none⟩ = some (.slice A105_11 ((rd_T48 l0 x8_1).f5).length c105_11) := (blk_cell BK106.out 11).trans rfl
                      have hfz38_0 := blk_frozen BK106.out 0
                      have hfz38_1 := blk_frozen BK106.out 1
                      have hfz38_2 := blk_frozen BK106.out 2
                      have hfz38_3 := blk_frozen BK106.out 3
                      have hfz38_4 := blk_frozen BK106.out 4
                      have hfz38_5 := blk_frozen BK106.out 5
                      have hfz38_6 := blk_frozen BK106.out 6
                      have hfz38_7 := blk_frozen BK106.out 7
                      have hfz38_8 := blk_frozen BK106.out 8
                      have hfz38_9 := blk_frozen BK106.out 9
                      have hfz38_10 := blk_frozen BK106.out 10
                      have hfz38_11 := blk_frozen BK106.out 11
                      go_wp2
                      go_roundg kj6
                      case measure => have := HK1.out; have := HJ6.out; omega
                      case rel => exact ⟨(wrap64 (x8_1 + 1)), ((wrap64 (x105000_1 + (((rd_T48 l0 x8_1).f3).length : Int)))), (x105001_6), ((wrap64 (x105002_1 + (((rd_T48 l0 x8_1).f5).length : Int)))), (x105003_1), (x105004_1), (x105005_1), (by first | rfl | (simp; done) | (simp [*]; done)), H', ⟨by have := HK1.out; have := HJ6.out; omega⟩, ⟨by (with_reducible repeat (first | refine blk_drewN ?_ _ | refine blk_drew ?_ | refine blk_alloc ?_ _)); exact BK103.out⟩, ⟨by (with_reducible repeat (first | refine blk_drewN ?_ _ | refine blk_drew ?_ | refine blk_alloc ?_ _)); exact BK104.out⟩, ⟨by repeat (first | (with_reducible first | exact HB.out | apply below_alloc | apply pw_below_drewN | apply below_drew1 | refine below_set ?_ GE103.out | refine below_set ?_ GE104.out | refine below_set ?_ GE106.out) | exact HB.out)⟩⟩
          · rw [if_neg c6] at H
            exact absurd H (by simp)
        · rw [if_neg c5] at H
          exact absurd H (by simp)
      · rw [if_neg c4] at H
        have c4b0 : decide (x8_1 < (l0.length : Int)) = false := decide_eq_false c4
        clear c4
        simp only [Option.some.injEq, Prod.mk.injEq] at H
        obtain ⟨rfl, rfl, rfl, rfl, rfl, rfl⟩ := H
        have hnb39 := NB104_103.out
        have hnc39 := NB103_104.out
        have hcz40_0 : wr.cell? ⟨gb104, 0, none⟩ = some (.int .i64 x105000_1) := (blk_cell BK104.out 0).trans rfl
        have hcz40_1 : wr.cell? ⟨gb104, 1, none⟩ = some (.int .i64 x105001_1) := (blk_cell BK104.out 1).trans rfl
        have hcz40_2 : wr.cell? ⟨gb104, 2, none⟩ = some (.int .i64 x105002_1) := (blk_cell BK104.out 2).trans rfl
        have hcz40_3 : wr.cell? ⟨gb104, 3, none⟩ = some (.int .i64 x105003_1) := (blk_cell BK104.out 3).trans rfl
        have hcz40_4 : wr.cell? ⟨gb104, 4, none⟩ = some (.int .i64 x105004_1) := (blk_cell BK104.out 4).trans rfl
        have hcz40_5 : wr.cell? ⟨gb104, 5, none⟩ = some (.int .i64 x105005_1) := (blk_cell BK104.out 5).trans rfl
        have hfz40_0 := blk_frozen BK104.out 0
        have hfz40_1 := blk_frozen BK104.out 1
        have hfz40_2 := blk_frozen BK104.out 2
        have hfz40_3 := blk_frozen BK104.out 3
        have hfz40_4 := blk_frozen BK104.out 4
        have hfz40_5 := blk_frozen BK104.out 5
        have hcz41_0 : wr.cell? ⟨gb103, 0, none⟩ = some (.int .i64 0) := (blk_cell BK103.out 0).trans rfl
        have hcz41_1 : wr.cell? ⟨gb103, 1, none⟩ = some (.int .i64 0) := (blk_cell BK103.out 1).trans rfl
        have hcz41_2 : wr.cell? ⟨gb103, 2, none⟩ = some (.int .i64 0) := (blk_cell BK103.out 2).trans rfl
        have hcz41_3 : wr.cell? ⟨gb103, 3, none⟩ = some (.int .i64 0) := (blk_cell BK103.out 3).trans rfl
        have hcz41_4 : wr.cell? ⟨gb103, 4, none⟩ = some (.int .i64 0) := (blk_cell BK103.out 4).trans rfl
        have hcz41_5 : wr.cell? ⟨gb103, 5, none⟩ = some (.int .i64 0) := (blk_cell BK103.out 5).trans rfl
        have hfz41_0 := blk_frozen BK103.out 0
        have hfz41_1 := blk_frozen BK103.out 1
        have hfz41_2 := blk_frozen BK103.out 2
        have hfz41_3 := blk_frozen BK103.out 3
        have hfz41_4 := blk_frozen BK103.out 4
        have hfz41_5 := blk_frozen BK103.out 5
        go_wp2
        refine bodyPost_ret (results_cell_row rfl _ _ gb103 35 #[.int .i64 x105000_1, .int .i64 x105001_1, .int .i64 x105002_1, .int .i64 x105003_1, .int .i64 x105004_1, .int .i64 x105005_1] (0, 0) _ rfl (by (with_reducible repeat (first | refine blk_drewN ?_ _ | refine blk_drew ?_ | refine blk_alloc ?_ _)); refine blk_put (cs := #[.int .i64 x105000_1, .int .i64 x105001_1, .int .i64 x105002_1, .int .i64 x105003_1, .int .i64 x105004_1, .int .i64 0]) ?_ 5 _ rfl; (with_reducible repeat (first | refine blk_drewN ?_ _ | refine blk_drew ?_ | refine blk_alloc ?_ _)); refine blk_put (cs := #[.int .i64 x105000_1, .int .i64 x105001_1, .int .i64 x105002_1, .int .i64 x105003_1, .int .i64 0, .int .i64 0]) ?_ 4 _ rfl; (with_reducible repeat (first | refine blk_drewN ?_ _ | refine blk_drew ?_ | refine blk_alloc ?_ _)); refine blk_put (cs := #[.int .i64 x105000_1, .int .i64 x105001_1, .int .i64 x105002_1, .int .i64 0, .int .i64 0, .int .i64 0]) ?_ 3 _ rfl; (with_reducible repeat (first | refine blk_drewN ?_ _ | refine blk_drew ?_ | refine blk_alloc ?_ _)); refine blk_put (cs := #[.int .i64 x105000_1, .int .i64 x105001_1, .int .i64 0, .int .i64 0, .int .i64 0, .int .i64 0]) ?_ 2 _ rfl; (with_reducible repeat (first | refine blk_drewN ?_ _ | refine blk_drew ?_ | refine blk_alloc ?_ _)); refine blk_put (cs := #[.int .i64 x105000_1, .int .i64 0, .int .i64 0, .int .i64 0, .int .i64 0, .int .i64 0]) ?_ 1 _ rfl; (with_reducible repeat (first | refine blk_drewN ?_ _ | refine blk_drew ?_ | refine blk_alloc ?_ _)); refine blk_put (cs := #[.int .i64 0, .int .i64 0, .int .i64 0, .int .i64 0, .int .i64 0, .int .i64 0]) ?_ 0 _ rfl; (with_reducible repeat (first | refine blk_drewN ?_ _ | refine blk_drew ?_ | refine blk_alloc ?_ _)); exact BK103.out) Try.underlying35 rfl (by kernel_rfl)) rfl ?_
        exact ⟨by first | rfl | (simp [errW_none, errW_some] <;> rfl) | (simp [*, errW_none, errW_some] <;> rfl), by repeat (first | (with_reducible first | exact HB.out | apply below_alloc | apply pw_below_drewN | apply below_drew1 | refine below_set ?_ GE103.out | refine below_set ?_ GE104.out) | exact HB.out)⟩

-- NOT PRINTED: function 28 (slices_AppendSeq_int_int)

-- NOT PRINTED: function 25 (slices_Collect_int)

/-! ### cmp_isNaN_int: function 47 -/
def cmp_isNaN_int.f (a0 : Int) : Option (Bool) := some (a0 != a0)
set_option maxHeartbeats 8000000 in
set_option maxRecDepth 100000 in
theorem cmp_isNaN_int.calls (a0 : Int) (r : Bool) (w : World) (h : cmp_isNaN_int.f a0 = some r) :
    Calls Try.prog 47 #[.int .i64 a0] w fun e w' => e = .returned (.bool r) ∧ Drawn0 w w' := by
  have H : (some (a0 != a0)) = some r := h
  clear h
  obtain rfl := Option.some.inj H
  go_enter Try.func47, Try.ntmps47
  go_wp2
  go_ret
  exact ⟨by first | rfl | (simp; done) | (simp [*]; done), by repeat (first | exact Drawn0.refl _ | apply Drawn0.step)⟩

/-! ### cmp_Less_int: function 37 -/
def cmp_Less_int.f (a0 : Int) (a1 : Int) : Option (Bool) := (cmp_isNaN_int.f a0).bind fun t107 => (if t107 = true then ((cmp_isNaN_int.f a1).bind fun t108 => (if t108 = true then (some (decide (a0 < a1))) else (some true))) else (some (decide (a0 < a1))))
set_option maxHeartbeats 8000000 in
set_option maxRecDepth 100000 in
theorem cmp_Less_int.calls (a0 : Int) (a1 : Int) (r : Bool) (w : World) (h : cmp_Less_int.f a0 a1 = some r) :
    Calls Try.prog 37 #[.int .i64 a0, .int .i64 a1] w fun e w' => e = .returned (.bool r) ∧ Drawn0 w w' := by
  have H : ((cmp_isNaN_int.f a0).bind fun t107 => (if t107 = true then ((cmp_isNaN_int.f a1).bind fun t108 => (if t108 = true then (some (decide (a0 < a1))) else (some true))) else (some (decide (a0 < a1))))) = some r := h
  clear h
  replace H := Option.bind_eq_some_iff.mp H
  obtain ⟨t107, A30, H⟩ := H
  replace H : (if t107 = true then ((cmp_isNaN_int.f a1).bind fun t108 => (if t108 = true then (some (decide (a0 < a1))) else (some true))) else (some (decide (a0 < a1)))) = some r := H
  have A3 := Aside0.mk A30
  clear A30
  by_cases c4 : t107 = true
  · subst c4
    have H1 : ((cmp_isNaN_int.f a1).bind fun t108 => (if t108 = true then (some (decide (a0 < a1))) else (some true))) = some r := by rw [if_pos rfl] at H; exact H
    clear H
    have H := H1
    clear H1
    replace H := Option.bind_eq_some_iff.mp H
    obtain ⟨t108, A50, H⟩ := H
    replace H : (if t108 = true then (some (decide (a0 < a1))) else (some true)) = some r := H
    have A5 := Aside0.mk A50
    clear A50
    by_cases c6 : t108 = true
    · subst c6
      have H1 : (some (decide (a0 < a1))) = some r := by rw [if_pos rfl] at H; exact H
      clear H
      have H := H1
      clear H1
      obtain rfl := Option.some.inj H
      go_enter Try.func37, Try.ntmps37
      go_wp2_with (first | ((with_reducible refine gate_callee (f := 47) rfl ?_); refine goesL_ (some 6) rfl rfl Try.func47 (by kernel_rfl) rfl #[.int .i64 a0] rfl (by (try simp only [List.map_toArray, List.map_cons, List.map_nil]); first | done | rfl | (simp only [List.length_drop, List.length_take]; rfl)) ?_; (with_reducible refine (cmp_isNaN_int.calls a0 true _ A3.out).mono ?_); rintro e w' ⟨rfl, ⟨nd, rfl⟩⟩; refine ⟨_, rfl, ?_⟩) | (go_at_call 47; (with_reducible refine (cmp_isNaN_int.calls a1 true _ A5.out).mono ?_); rintro e w' ⟨rfl, ⟨nd, rfl⟩⟩))
      go_ret
      exact ⟨by first | rfl | (simp; done) | (simp [*]; done), by repeat (first | exact Drawn0.refl _ | apply Drawn0.step)⟩
    · replace c6 := Bool.eq_false_iff.mpr c6
      subst c6
      have H1 : (some true) = some r := by rw [if_neg (show ¬ (false = true) by decide)] at H; exact H
      clear H
      have H := H1
      clear H1
      obtain rfl := Option.some.inj H
      go_enter Try.func37, Try.ntmps37
      go_wp2_with (first | ((with_reducible refine gate_callee (f := 47) rfl ?_); refine goesL_ (some 6) rfl rfl Try.func47 (by kernel_rfl) rfl #[.int .i64 a0] rfl (by (try simp only [List.map_toArray, List.map_cons, List.map_nil]); first | done | rfl | (simp only [List.length_drop, List.length_take]; rfl)) ?_; (with_reducible refine (cmp_isNaN_int.calls a0 true _ A3.out).mono ?_); rintro e w' ⟨rfl, ⟨nd, rfl⟩⟩; refine ⟨_, rfl, ?_⟩) | (go_at_call 47; (with_reducible refine (cmp_isNaN_int.calls a1 false _ A5.out).mono ?_); rintro e w' ⟨rfl, ⟨nd, rfl⟩⟩))
      go_ret
      exact ⟨by first | rfl | (simp; done) | (simp [*]; done), by repeat (first | exact Drawn0.refl _ | apply Drawn0.step)⟩
  · replace c4 := Bool.eq_false_iff.mpr c4
    subst c4
    have H1 : (some (decide (a0 < a1))) = some r := by rw [if_neg (show ¬ (false = true) by decide)] at H; exact H
    clear H
    have H := H1
    clear H1
    obtain rfl := Option.some.inj H
    go_enter Try.func37, Try.ntmps37
    go_wp2_with (first | ((with_reducible refine gate_callee (f := 47) rfl ?_); refine goesL_ (some 6) rfl rfl Try.func47 (by kernel_rfl) rfl #[.int .i64 a0] rfl (by (try simp only [List.map_toArray, List.map_cons, List.map_nil]); first | done | rfl | (simp only [List.length_drop, List.length_take]; rfl)) ?_; (with_reducible refine (cmp_isNaN_int.calls a0 false _ A3.out).mono ?_); rintro e w' ⟨rfl, ⟨nd, rfl⟩⟩; refine ⟨_, rfl, ?_⟩))
    go_ret
    exact ⟨by first | rfl | (simp; done) | (simp [*]; done), by repeat (first | exact Drawn0.refl _ | apply Drawn0.step)⟩

end Go.Proofs.Ytkgchkajpolgeaa.PTraceParts
