/- What the functions of the law BackoffBounds come to, in numbers alone. -/
import Derived.Test.YtkgchkajpolgeaaBBounds
namespace Go.Proofs.Ytkgchkajpolgeaa.PBackoffBounds
open Go.RowKit Go.Proofs.YtkgchkajpolgeaaW.PrintWords Go.Proofs.YtkgchkajpolgeaaW.PrintLast Go.Proofs.YtkgchkajpolgeaaW.PrintMore
/-! ### what Wait, Try and Most come to -/
theorem wrap_small {n : Int} (h0 : -9223372036854775808 ≤ n) (h1 : n < 9223372036854775808) : wrap64 n = n := by
  unfold wrap64
  omega
theorem u64_small {n : Int} (h0 : 0 ≤ n) (h1 : n < 18446744073709551616) : IntKind.u64.wrap n = n := by
  simp [IntKind.wrap, IntKind.signed, IntKind.bits]
  omega
theorem u64_range (n : Int) : 0 ≤ IntKind.u64.wrap n ∧ IntKind.u64.wrap n < 18446744073709551616 := by
  simp [IntKind.wrap, IntKind.signed, IntKind.bits]
  omega
theorem u64_id {n : Int} (h0 : 0 ≤ n) (h1 : n < 4611686018427387904) : IntKind.u64.wrap n = n := u64_small h0 (by omega)
def cl (x : Int) : Int := mn (mx x 0) 1000
theorem cl_range (x : Int) : 0 ≤ cl x ∧ cl x ≤ 1000 := by unfold cl mn mx; (repeat' split) <;> omega
def tr (x : Int) : Int := mn (mx x 0) 6
theorem tr_range (x : Int) : 0 ≤ tr x ∧ tr x ≤ 6 := by unfold tr mn mx; (repeat' split) <;> omega
theorem mn_le (a b : Int) : mn a b ≤ a ∧ mn a b ≤ b := by unfold mn; split <;> omega
theorem mn_pos {a b : Int} (h0 : 0 ≤ a) (h1 : 0 ≤ b) : 0 ≤ mn a b := by unfold mn; split <;> omega
theorem pow_pos2 (d : Nat) : (1 : Int) ≤ 2 ^ d := by
  have := @Int.pow_pos 2 d (by omega)
  omega
theorem mn_mul {n C p : Int} (hn : 0 ≤ n) (hC : 0 ≤ C) (hp : 1 ≤ p) : mn (mn (2 * n) C * p) C = mn (n * (2 * p)) C := by
  have e : n * (2 * p) = 2 * n * p := by rw [← Int.mul_assoc, Int.mul_comm n 2]
  rw [e]
  by_cases h : C < 2 * n
  · have e1 : mn (2 * n) C = C := by unfold mn; rw [if_pos h]
    have h1 : C * 1 ≤ C * p := Int.mul_le_mul_of_nonneg_left hp hC
    have h2 : 2 * n * 1 ≤ 2 * n * p := Int.mul_le_mul_of_nonneg_left hp (by omega)
    rw [e1]
    unfold mn
    (repeat' split) <;> omega
  · have e1 : mn (2 * n) C = 2 * n := by unfold mn; rw [if_neg h]
    rw [e1]
/-- what is left of a draw -/
def left_ (draw J : Int) : Int := IntKind.u64.wrap draw % (cl J + 1)
theorem left_range (draw J : Int) : 0 ≤ left_ draw J ∧ left_ draw J ≤ cl J := by
  have h := cl_range J
  unfold left_
  have h1 := Int.emod_nonneg (IntKind.u64.wrap draw) (b := cl J + 1) (by omega)
  have h2 := Int.emod_lt_of_pos (IntKind.u64.wrap draw) (b := cl J + 1) (by omega)
  omega
def wt (F C J m draw : Int) : Int := mn (cl F * 2 ^ m.toNat) (cl C) + left_ draw J
theorem wt_range (F C J m draw : Int) : 0 ≤ wt F C J m draw ∧ wt F C J m draw ≤ cl C + cl J := by
  have h := left_range draw J
  have h1 := cl_range C
  have h2 := cl_range F
  have h3 := mn_le (cl F * 2 ^ m.toNat) (cl C)
  have h4 : 0 ≤ mn (cl F * 2 ^ m.toNat) (cl C) := mn_pos (Int.mul_nonneg h2.1 (by have := pow_pos2 m.toNat; omega)) h1.1
  unfold wt
  omega
theorem end_eq (n C J draw : Int) (hn : 0 ≤ n) : wrap64 (mn n (cl C) + wrap64 (Int.tmod (IntKind.u64.wrap draw) (IntKind.u64.wrap (wrap64 (cl J + 1))))) = mn n (cl C) + left_ draw J := by
  have h := cl_range J
  have h1 := cl_range C
  have h2 := mn_le n (cl C)
  have h3 : 0 ≤ mn n (cl C) := mn_pos hn h1.1
  have h4 := left_range draw J
  have h5 := u64_range draw
  rw [wrap_small (n := cl J + 1) (by omega) (by omega), u64_id (n := cl J + 1) (by omega) (by omega), Int.tmod_eq_emod_of_nonneg h5.1]
  have e : IntKind.u64.wrap draw % (cl J + 1) = left_ draw J := rfl
  rw [e, wrap_small (n := left_ draw J) (by omega) (by omega), wrap_small (by omega) (by omega)]
theorem clip_eq (x : Int) : backoff_clip.f x = some (cl x) := rfl
theorem wait_l0 (draw m : Int) (l0 : List ByteArray) (l1 : List S99) (a2 a3 a4 a5 a6 a7 F C J a11 : Int) (d : Nat) : ∀ (k : Nat) (n i : Int), 0 ≤ n → n ≤ 1000 → 0 ≤ i → m ≤ 6 → m - i = d → d < k →
    backoff_Wait.l0 k draw n m i l0 l1 a2 a3 a4 a5 a6 a7 F C J a11 = some (mn (n * 2 ^ d) (cl C) + left_ draw J) := by
  induction d with
  | zero =>
    intro k n i h0 h1 hi hm hd hk
    obtain ⟨k, rfl⟩ : ∃ q, k = q + 1 := ⟨k - 1, by omega⟩
    have hJ := cl_range J
    simp only [backoff_Wait.l0]
    rw [if_neg (by omega), clip_eq, clip_eq]
    simp only [Option.bind_some]
    rw [if_neg, end_eq n C J draw h0]
    · simp
    · rw [wrap_small (by omega) (by omega), u64_id (by omega) (by omega)]; omega
  | succ d ih =>
    intro k n i h0 h1 hi hm hd hk
    obtain ⟨k, rfl⟩ : ∃ q, k = q + 1 := ⟨k - 1, by omega⟩
    have hC := cl_range C
    simp only [backoff_Wait.l0]
    rw [if_pos (by omega), clip_eq]
    simp only [Option.bind_some]
    rw [wrap_small (n := 2 * n) (by omega) (by omega), wrap_small (n := i + 1) (by omega) (by omega)]
    rw [ih k (mn (2 * n) (cl C)) (i + 1) (mn_pos (by omega) hC.1) (by have := mn_le (2 * n) (cl C); omega) (by omega) hm (by omega) (by omega)]
    rw [mn_mul h0 hC.1 (pow_pos2 d), Int.pow_succ, Int.mul_comm (2 ^ d) 2]
theorem wait_f (k : Nat) (hk : 7 ≤ k) (l0 : List ByteArray) (l1 : List S99) (a2 a3 a4 a5 a6 a7 F C J a11 try_ draw : Int) :
    backoff_Wait.f k l0 l1 a2 a3 a4 a5 a6 a7 F C J a11 try_ draw = some (wt F C J (tr try_) draw) := by
  have h := tr_range try_
  have hF := cl_range F
  unfold backoff_Wait.f
  rw [clip_eq]
  simp only [Option.bind_some]
  exact wait_l0 draw (tr try_) l0 l1 a2 a3 a4 a5 a6 a7 F C J a11 (tr try_).toNat k (cl F) 0 hF.1 hF.2 (by omega) h.2 (by omega) (by omega)
theorem try_f (x : Int) : backoff_Try.f x = some (mn (tr x + 1) 6) := rfl
theorem most_f (l0 : List ByteArray) (l1 : List S99) (a2 a3 a4 a5 a6 a7 F C J a11 : Int) : backoff_Most.f l0 l1 a2 a3 a4 a5 a6 a7 F C J a11 = some (cl C + cl J) := by
  have h := cl_range C
  have h1 := cl_range J
  unfold backoff_Most.f
  rw [clip_eq, clip_eq]
  simp only [Option.bind_some]
  rw [wrap_small (by omega) (by omega)]
theorem awake_f (k : Nat) (hk : 7 ≤ k) : inkhornlaw18_awake.f k = some true := by
  unfold inkhornlaw18_awake.f
  rw [wait_f k hk, wait_f k hk, most_f, try_f]
  decide +kernel

theorem low_eq (x n : Int) (h0 : 1 ≤ n) (h1 : n ≤ 1073741824) : inkhornlaw0_Low.f x n = some (IntKind.u64.wrap x % n) := by
  have h5 := u64_range x
  unfold inkhornlaw0_Low.f
  rw [u64_id (n := n) (by omega) (by omega), if_neg (by omega), Int.tmod_eq_emod_of_nonneg h5.1]
  have h1' := Int.emod_nonneg (IntKind.u64.wrap x) (b := n) (by omega)
  have h2 := Int.emod_lt_of_pos (IntKind.u64.wrap x) (b := n) (by omega)
  rw [wrap_small (by omega) (by omega)]
theorem low_range (x n : Int) (h0 : 1 ≤ n) : 0 ≤ IntKind.u64.wrap x % n ∧ IntKind.u64.wrap x % n < n :=
  ⟨Int.emod_nonneg _ (by omega), Int.emod_lt_of_pos _ (by omega)⟩
theorem cl_id {x : Int} (h0 : 0 ≤ x) (h1 : x ≤ 1000) : cl x = x := by unfold cl mn mx; (repeat' split) <;> omega
theorem tr_id {x : Int} (h0 : 0 ≤ x) (h1 : x ≤ 6) : tr x = x := by unfold tr mn mx; (repeat' split) <;> omega
theorem pow_mono2 {a b : Nat} (h : a ≤ b) : (2 : Int) ^ a ≤ 2 ^ b := by
  obtain ⟨c, rfl⟩ : ∃ c, b = a + c := ⟨b - a, by omega⟩
  rw [Int.pow_add]
  have h1 : (2 : Int) ^ a * 1 ≤ 2 ^ a * 2 ^ c := Int.mul_le_mul_of_nonneg_left (pow_pos2 c) (by have := pow_pos2 a; omega)
  omega
theorem mn_ge {F p C : Int} (hF : 0 ≤ F) (hp : 1 ≤ p) (hC : F ≤ C) : F ≤ mn (F * p) C := by
  have h1 : F * 1 ≤ F * p := Int.mul_le_mul_of_nonneg_left hp hF
  unfold mn
  split <;> omega
theorem mn_mono {F p q C : Int} (hF : 0 ≤ F) (hp : p ≤ q) : mn (F * p) C ≤ mn (F * q) C := by
  have h1 : F * p ≤ F * q := Int.mul_le_mul_of_nonneg_left hp hF
  unfold mn
  (repeat' split) <;> omega
theorem law_j (l0 : List ByteArray) (l1 : List S99) (a2 a3 a4 a5 a6 a7 F C J a11 try_ draw : Int) : inkhornlaw18_BackoffBounds.j0 8 try_ draw false l0 l1 a2 a3 a4 a5 a6 a7 F C J a11 = some true := by
  have hF := low_range F 10 (by omega)
  have hC := low_range C 41 (by omega)
  have hJ := low_range J 11 (by omega)
  have ht := low_range try_ 7 (by omega)
  simp only [inkhornlaw18_BackoffBounds.j0]
  rw [if_neg (by decide), low_eq F 10 (by omega) (by omega), low_eq C 41 (by omega) (by omega), low_eq J 11 (by omega) (by omega), low_eq try_ 7 (by omega) (by omega)]
  simp only [Option.bind_some]
  generalize IntKind.u64.wrap F % 10 = f at *
  generalize IntKind.u64.wrap C % 41 = c at *
  generalize IntKind.u64.wrap J % 11 = j at *
  generalize IntKind.u64.wrap try_ % 7 = t at *
  rw [wrap_small (n := 1 + f) (by omega) (by omega), wrap_small (n := 10 + c) (by omega) (by omega), wait_f 7 (Nat.le_refl _), try_f]
  simp only [Option.bind_some]
  rw [wait_f 7 (Nat.le_refl _)]
  simp only [Option.bind_some]
  have et : tr t = t := tr_id (by omega) (by omega)
  have hm : 0 ≤ mn (t + 1) 6 ∧ mn (t + 1) 6 ≤ 6 ∧ t ≤ mn (t + 1) 6 := by unfold mn; split <;> omega
  have em : tr (mn (t + 1) 6) = mn (t + 1) 6 := tr_id hm.1 hm.2.1
  have eF : cl (1 + f) = 1 + f := cl_id (by omega) (by omega)
  have eC : cl (10 + c) = 10 + c := cl_id (by omega) (by omega)
  have eJ : cl j = j := cl_id (by omega) (by omega)
  have hl := left_range draw j
  rw [eJ] at hl
  rw [et, em]
  have g1 : 1 + f ≤ mn ((1 + f) * 2 ^ t.toNat) (10 + c) := mn_ge (by omega) (pow_pos2 _) (by omega)
  have g2 : mn ((1 + f) * 2 ^ t.toNat) (10 + c) ≤ mn ((1 + f) * 2 ^ (mn (t + 1) 6).toNat) (10 + c) := mn_mono (by omega) (pow_mono2 (by omega))
  have g3 := mn_le ((1 + f) * 2 ^ (mn (t + 1) 6).toNat) (10 + c)
  unfold wt
  rw [eF, eC]
  rw [wrap_small (n := 10 + c + j) (by omega) (by omega), if_pos (by omega), if_pos (by omega), if_pos (by omega), if_pos (by omega), if_pos (by omega), awake_f 7 (Nat.le_refl _)]
  rfl
theorem law_f (l0 : List ByteArray) (l1 : List S99) (a2 a3 a4 a5 a6 a7 F C J a11 try_ draw : Int) : inkhornlaw18_BackoffBounds.f 8 l0 l1 a2 a3 a4 a5 a6 a7 F C J a11 try_ draw = some true := by
  unfold inkhornlaw18_BackoffBounds.f
  have h := wt_range F C J (tr try_) draw
  rw [wait_f 8 (by omega), most_f]
  simp only [Option.bind_some]
  rw [if_neg (by omega)]
  have e : decide (wt F C J (tr try_) draw > cl C + cl J) = false := by simp; omega
  rw [e]
  exact law_j _ _ _ _ _ _ _ _ _ _ _ _ _ _

end Go.Proofs.Ytkgchkajpolgeaa.PBackoffBounds
