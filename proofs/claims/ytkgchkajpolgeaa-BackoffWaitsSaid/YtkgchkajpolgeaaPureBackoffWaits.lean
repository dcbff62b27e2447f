/- What the functions of the law BackoffWaits come to, in numbers alone. -/
import Derived.Test.YtkgchkajpolgeaaPBackoffWaitsx
namespace Go.Proofs.Ytkgchkajpolgeaa.PBackoffWaits
open Go.RowKit Go.Proofs.YtkgchkajpolgeaaW.PrintWords Go.Proofs.YtkgchkajpolgeaaW.PrintLast Go.Proofs.YtkgchkajpolgeaaW.PrintMore
/-! ### what Wait, Try and Most come to -/
theorem wrap_small {n : Int} (h0 : -9223372036854775808 ≤ n) (h1 : n < 9223372036854775808) : wrap64 n = n := by
  unfold wrap64
  omega
theorem u64_small {n : Int} (h0 : 0 ≤ n) (h1 : n < 18446744073709551616) : IntKind.u64.wrap n = n := by
  simp [IntKind.wrap, IntKind.signed, IntKind.bits]
  omega
theorem u64_range (n : Int) : 0 ≤ IntKind.u64.wrap n ∧ IntKind.u64.wrap n < 18446744073709551616 := by
  simp [IntKind.wrap, IntKind.signed, IntKind.bits]
  omega
theorem u64_id {n : Int} (h0 : 0 ≤ n) (h1 : n < 4611686018427387904) : IntKind.u64.wrap n = n := u64_small h0 (by omega)
def cl (x : Int) : Int := mn (mx x 0) 1000
theorem cl_range (x : Int) : 0 ≤ cl x ∧ cl x ≤ 1000 := by unfold cl mn mx; (repeat' split) <;> omega
def tr (x : Int) : Int := mn (mx x 0) 6
theorem tr_range (x : Int) : 0 ≤ tr x ∧ tr x ≤ 6 := by unfold tr mn mx; (repeat' split) <;> omega
theorem mn_le (a b : Int) : mn a b ≤ a ∧ mn a b ≤ b := by unfold mn; split <;> omega
theorem mn_pos {a b : Int} (h0 : 0 ≤ a) (h1 : 0 ≤ b) : 0 ≤ mn a b := by unfold mn; split <;> omega
theorem pow_pos2 (d : Nat) : (1 : Int) ≤ 2 ^ d := by
  have := @Int.pow_pos 2 d (by omega)
  omega
theorem mn_mul {n C p : Int} (hn : 0 ≤ n) (hC : 0 ≤ C) (hp : 1 ≤ p) : mn (mn (2 * n) C * p) C = mn (n * (2 * p)) C := by
  have e : n * (2 * p) = 2 * n * p := by rw [← Int.mul_assoc, Int.mul_comm n 2]
  rw [e]
  by_cases h : C < 2 * n
  · have e1 : mn (2 * n) C = C := by unfold mn; rw [if_pos h]
    have h1 : C * 1 ≤ C * p := Int.mul_le_mul_of_nonneg_left hp hC
    have h2 : 2 * n * 1 ≤ 2 * n * p := Int.mul_le_mul_of_nonneg_left hp (by omega)
    rw [e1]
    unfold mn
    (repeat' split) <;> omega
  · have e1 : mn (2 * n) C = 2 * n := by unfold mn; rw [if_neg h]
    rw [e1]
/-- what is left of a draw -/
def left_ (draw J : Int) : Int := IntKind.u64.wrap draw % (cl J + 1)
theorem left_range (draw J : Int) : 0 ≤ left_ draw J ∧ left_ draw J ≤ cl J := by
  have h := cl_range J
  unfold left_
  have h1 := Int.emod_nonneg (IntKind.u64.wrap draw) (b := cl J + 1) (by omega)
  have h2 := Int.emod_lt_of_pos (IntKind.u64.wrap draw) (b := cl J + 1) (by omega)
  omega
def wt (F C J m draw : Int) : Int := mn (cl F * 2 ^ m.toNat) (cl C) + left_ draw J
theorem wt_range (F C J m draw : Int) : 0 ≤ wt F C J m draw ∧ wt F C J m draw ≤ cl C + cl J := by
  have h := left_range draw J
  have h1 := cl_range C
  have h2 := cl_range F
  have h3 := mn_le (cl F * 2 ^ m.toNat) (cl C)
  have h4 : 0 ≤ mn (cl F * 2 ^ m.toNat) (cl C) := mn_pos (Int.mul_nonneg h2.1 (by have := pow_pos2 m.toNat; omega)) h1.1
  unfold wt
  omega
theorem end_eq (n C J draw : Int) (hn : 0 ≤ n) : wrap64 (mn n (cl C) + wrap64 (Int.tmod (IntKind.u64.wrap draw) (IntKind.u64.wrap (wrap64 (cl J + 1))))) = mn n (cl C) + left_ draw J := by
  have h := cl_range J
  have h1 := cl_range C
  have h2 := mn_le n (cl C)
  have h3 : 0 ≤ mn n (cl C) := mn_pos hn h1.1
  have h4 := left_range draw J
  have h5 := u64_range draw
  rw [wrap_small (n := cl J + 1) (by omega) (by omega), u64_id (n := cl J + 1) (by omega) (by omega), Int.tmod_eq_emod_of_nonneg h5.1]
  have e : IntKind.u64.wrap draw % (cl J + 1) = left_ draw J := rfl
  rw [e, wrap_small (n := left_ draw J) (by omega) (by omega), wrap_small (by omega) (by omega)]
theorem clip_eq (x : Int) : backoff_clip.f x = some (cl x) := rfl
theorem wait_l0 (draw m : Int) (l0 : List ByteArray) (l1 : List S99) (a2 a3 a4 a5 a6 a7 F C J a11 : Int) (d : Nat) : ∀ (k : Nat) (n i : Int), 0 ≤ n → n ≤ 1000 → 0 ≤ i → m ≤ 6 → m - i = d → d < k →
    backoff_Wait.l0 k draw n m i l0 l1 a2 a3 a4 a5 a6 a7 F C J a11 = some (mn (n * 2 ^ d) (cl C) + left_ draw J) := by
  induction d with
  | zero =>
    intro k n i h0 h1 hi hm hd hk
    obtain ⟨k, rfl⟩ : ∃ q, k = q + 1 := ⟨k - 1, by omega⟩
    have hJ := cl_range J
    simp only [backoff_Wait.l0]
    rw [if_neg (by omega), clip_eq, clip_eq]
    simp only [Option.bind_some]
    rw [if_neg, end_eq n C J draw h0]
    · simp
    · rw [wrap_small (by omega) (by omega), u64_id (by omega) (by omega)]; omega
  | succ d ih =>
    intro k n i h0 h1 hi hm hd hk
    obtain ⟨k, rfl⟩ : ∃ q, k = q + 1 := ⟨k - 1, by omega⟩
    have hC := cl_range C
    simp only [backoff_Wait.l0]
    rw [if_pos (by omega), clip_eq]
    simp only [Option.bind_some]
    rw [wrap_small (n := 2 * n) (by omega) (by omega), wrap_small (n := i + 1) (by omega) (by omega)]
    rw [ih k (mn (2 * n) (cl C)) (i + 1) (mn_pos (by omega) hC.1) (by have := mn_le (2 * n) (cl C); omega) (by omega) hm (by omega) (by omega)]
    rw [mn_mul h0 hC.1 (pow_pos2 d), Int.pow_succ, Int.mul_comm (2 ^ d) 2]
theorem wait_f (k : Nat) (hk : 7 ≤ k) (l0 : List ByteArray) (l1 : List S99) (a2 a3 a4 a5 a6 a7 F C J a11 try_ draw : Int) :
    backoff_Wait.f k l0 l1 a2 a3 a4 a5 a6 a7 F C J a11 try_ draw = some (wt F C J (tr try_) draw) := by
  have h := tr_range try_
  have hF := cl_range F
  unfold backoff_Wait.f
  rw [clip_eq]
  simp only [Option.bind_some]
  exact wait_l0 draw (tr try_) l0 l1 a2 a3 a4 a5 a6 a7 F C J a11 (tr try_).toNat k (cl F) 0 hF.1 hF.2 (by omega) h.2 (by omega) (by omega)
theorem try_f (x : Int) : backoff_Try.f x = some (mn (tr x + 1) 6) := rfl
theorem most_f (l0 : List ByteArray) (l1 : List S99) (a2 a3 a4 a5 a6 a7 F C J a11 : Int) : backoff_Most.f l0 l1 a2 a3 a4 a5 a6 a7 F C J a11 = some (cl C + cl J) := by
  have h := cl_range C
  have h1 := cl_range J
  unfold backoff_Most.f
  rw [clip_eq, clip_eq]
  simp only [Option.bind_some]
  rw [wrap_small (by omega) (by omega)]
theorem awake_f (k : Nat) (hk : 7 ≤ k) : inkhornlaw18_awake.f k = some true := by
  unfold inkhornlaw18_awake.f
  rw [wait_f k hk, wait_f k hk, most_f, try_f]
  decide +kernel

theorem refclip_eq (x : Int) : inkhornref18_clip.f x 1000 = some (cl x) := rfl
theorem refclip6_eq (x : Int) : inkhornref18_clip.f x 6 = some (tr x) := rfl
theorem refwait_l0 (try_ draw : Int) (l0 : List ByteArray) (l1 : List S99) (a2 a3 a4 a5 a6 a7 F C J a11 : Int) (d : Nat) : ∀ (k : Nat) (n i : Int), 0 ≤ n → n * 2 ^ d ≤ 1000000 → 0 ≤ i → tr try_ - i = d → d < k →
    inkhornref18_Wait.l0 k try_ draw n i l0 l1 a2 a3 a4 a5 a6 a7 F C J a11 = some (mn (n * 2 ^ d) (cl C) + left_ draw J) := by
  induction d with
  | zero =>
    intro k n i h0 h1 hi hd hk
    obtain ⟨k, rfl⟩ : ∃ q, k = q + 1 := ⟨k - 1, by omega⟩
    have hJ := cl_range J
    simp only [inkhornref18_Wait.l0]
    rw [refclip6_eq]
    simp only [Option.bind_some]
    rw [if_neg (by omega), refclip_eq, refclip_eq]
    simp only [Option.bind_some]
    rw [if_neg, end_eq n C J draw h0]
    · simp
    · rw [wrap_small (by omega) (by omega), u64_id (by omega) (by omega)]; omega
  | succ d ih =>
    intro k n i h0 h1 hi hd hk
    obtain ⟨k, rfl⟩ : ∃ q, k = q + 1 := ⟨k - 1, by omega⟩
    have ht := tr_range try_
    have hp := pow_pos2 d
    have e : n * 2 ^ (d + 1) = 2 * n * 2 ^ d := by rw [Int.pow_succ, Int.mul_comm (2 ^ d) 2, ← Int.mul_assoc, Int.mul_comm n 2]
    have h2 : 2 * n * 1 ≤ 2 * n * 2 ^ d := Int.mul_le_mul_of_nonneg_left hp (by omega)
    rw [e] at h1 ⊢
    simp only [inkhornref18_Wait.l0]
    rw [refclip6_eq]
    simp only [Option.bind_some]
    rw [if_pos (by omega), wrap_small (n := 2 * n) (by omega) (by omega), wrap_small (n := i + 1) (by omega) (by omega)]
    exact ih k (2 * n) (i + 1) (by omega) h1 (by omega) (by omega) (by omega)
theorem pow_le6 {m : Int} (h : m ≤ 6) : (2 : Int) ^ m.toNat ≤ 64 := by
  obtain h | h | h | h | h | h | h : m.toNat = 0 ∨ m.toNat = 1 ∨ m.toNat = 2 ∨ m.toNat = 3 ∨ m.toNat = 4 ∨ m.toNat = 5 ∨ m.toNat = 6 := by omega
  all_goals (rw [h]; decide)
theorem refwait_f (k : Nat) (hk : 7 ≤ k) (l0 : List ByteArray) (l1 : List S99) (a2 a3 a4 a5 a6 a7 F C J a11 try_ draw : Int) :
    inkhornref18_Wait.f k l0 l1 a2 a3 a4 a5 a6 a7 F C J a11 try_ draw = some (wt F C J (tr try_) draw) := by
  have h := tr_range try_
  have hF := cl_range F
  unfold inkhornref18_Wait.f
  rw [refclip_eq]
  simp only [Option.bind_some]
  have hp := pow_le6 h.2
  have h2 : cl F * 2 ^ (tr try_).toNat ≤ cl F * 64 := Int.mul_le_mul_of_nonneg_left hp hF.1
  exact refwait_l0 try_ draw l0 l1 a2 a3 a4 a5 a6 a7 F C J a11 (tr try_).toNat k (cl F) 0 hF.1 (by omega) (by omega) (by omega) (by omega)
theorem reftry_f (x : Int) : inkhornref18_Try.f x = some (mn (tr x + 1) 6) := by
  have h := tr_range x
  unfold inkhornref18_Try.f
  rw [refclip6_eq]
  simp only [Option.bind_some]
  rw [wrap_small (by omega) (by omega)]
theorem refmost_f (l0 : List ByteArray) (l1 : List S99) (a2 a3 a4 a5 a6 a7 F C J a11 : Int) : inkhornref18_Most.f l0 l1 a2 a3 a4 a5 a6 a7 F C J a11 = some (cl C + cl J) := by
  have h := cl_range C
  have h1 := cl_range J
  unfold inkhornref18_Most.f
  rw [refclip_eq, refclip_eq]
  simp only [Option.bind_some]
  rw [wrap_small (by omega) (by omega)]
theorem law_f (l0 : List ByteArray) (l1 : List S99) (a2 a3 a4 a5 a6 a7 F C J a11 try_ draw : Int) : inkhornlaw18_BackoffWaits.f 7 l0 l1 a2 a3 a4 a5 a6 a7 F C J a11 try_ draw = some true := by
  unfold inkhornlaw18_BackoffWaits.f
  rw [wait_f 7 (Nat.le_refl _), refwait_f 7 (Nat.le_refl _), try_f, reftry_f, most_f, refmost_f, awake_f 7 (Nat.le_refl _)]
  simp

end Go.Proofs.Ytkgchkajpolgeaa.PBackoffWaits
