/- nat: a digit of a quotient (as bits.Div64 looks for it). -/
import Derived.Test.YtjkelnnjfpcapaaNatJ
namespace Go.Proofs.Ytjkelnnjfpcapaa.Num
open Go.RowKit Go.Shelf Go.Proofs.Ytjkelnnjfpcapaa.PNat Go.Proofs.YtjkelnnjfpcapaaW Go.Proofs.YtjkelnnjfpcapaaW.PrintWords Go.Proofs.YtjkelnnjfpcapaaW.PrintLast Go.Proofs.YtjkelnnjfpcapaaW.PrintMore

theorem wrap_u64 (x : Int) : IntKind.u64.wrap x = x % 18446744073709551616 := by
  simp [IntKind.wrap, IntKind.bits, IntKind.signed]
theorem and_u64 (x : Int) (hx : 0 ≤ x ∧ x < 18446744073709551616) : bits .and .u64 x 4294967295 = x % 4294967296 := by
  obtain ⟨x, rfl⟩ : ∃ n : Nat, x = n := ⟨x.toNat, by omega⟩
  have h := Nat.and_two_pow_sub_one_eq_mod x 32
  simp only [Nat.reducePow, Nat.reduceSub] at h
  have e := bits_and_u64_nat x 4294967295 (by omega) (by omega)
  rw [show ((4294967295 : Nat) : Int) = 4294967295 from rfl] at e
  rw [e, h]
  omega
theorem or_u64' (a l : Int) (s : Nat) (ha : 0 ≤ a) (hs : s ≤ 63) (hl : 0 ≤ l ∧ l < 2 ^ s) (h : a * 2 ^ s < 18446744073709551616) :
    bits .or .u64 (a * 2 ^ s) l = a * 2 ^ s + l := by
  obtain ⟨a, rfl⟩ : ∃ n : Nat, a = n := ⟨a.toNat, by omega⟩
  obtain ⟨l, rfl⟩ : ∃ n : Nat, l = n := ⟨l.toNat, by omega⟩
  have e : (a : Int) * 2 ^ s = ((a * 2 ^ s : Nat) : Int) := by push_cast; rfl
  have hl2 : l < 2 ^ s := by have := hl.2; rw [show ((2 : Int) ^ s) = ((2 ^ s : Nat) : Int) from by push_cast; rfl] at this; omega
  rw [e] at h ⊢
  have h4 : 2 ^ s ≤ 2 ^ 63 := Nat.pow_le_pow_right (by omega) hs
  rw [bits_or_u64_nat _ l (by omega) (by omega), Nat.mul_comm, ← Nat.two_pow_add_eq_or_of_lt hl2]
  push_cast; rfl

/-- What the looking for a digit keeps: q may still be too great. -/
def DgInv (u d v1 v0 q r : Int) : Prop := q * v1 + r = u ∧ u * 4294967296 + d < q * (v1 * 4294967296 + v0) + (v1 * 4294967296 + v0) ∧ 0 ≤ r ∧ 0 ≤ q ∧ q ≤ 4294967297
theorem mulY (q v1 v0 : Int) : q * (v1 * 4294967296 + v0) = (q * v1) * 4294967296 + q * v0 := by grind
theorem DgInv.start {u d v1 v0 : Int} (hu : 0 ≤ u ∧ u < v1 * 4294967296 + v0) (hd : 0 ≤ d ∧ d < 4294967296) (h1 : 2147483648 ≤ v1 ∧ v1 < 4294967296) (h0 : 0 ≤ v0 ∧ v0 < 4294967296) : DgInv u d v1 v0 (u / v1) (u - u / v1 * v1) ∧ u - u / v1 * v1 < 4294967296 := by
  have e1 := Int.mul_ediv_add_emod u v1
  have e2 := Int.emod_nonneg u (show v1 ≠ 0 by omega)
  have e3 := Int.emod_lt_of_pos u (show 0 < v1 by omega)
  have e4 := Int.ediv_nonneg hu.1 (show 0 ≤ v1 by omega)
  have e5 : u / v1 < 4294967298 := Int.ediv_lt_of_lt_mul (by omega) (by omega)
  have e6 := Int.mul_nonneg e4 h0.1
  rw [Int.mul_comm] at e1
  generalize u / v1 = q at *
  generalize u % v1 = t at *
  have e7 := mulY q v1 v0
  refine ⟨⟨by omega, ?_, by omega, e4, by omega⟩, by omega⟩
  rw [e7]
  generalize q * v1 = P at *
  generalize q * v0 = P0 at *
  omega
theorem DgInv.done {u d v1 v0 q r : Int} (h : DgInv u d v1 v0 q r) (h1 : 2147483648 ≤ v1 ∧ v1 < 4294967296) (h0 : 0 ≤ v0 ∧ v0 < 4294967296) (ht : q * v0 ≤ 4294967296 * r + d) : (u * 4294967296 + d) / (v1 * 4294967296 + v0) = q ∧ (u * 4294967296 + d) % (v1 * 4294967296 + v0) = u * 4294967296 + d - q * (v1 * 4294967296 + v0) := by
  obtain ⟨a1, a2, a3, a4, a5⟩ := h
  refine (Int.ediv_emod_unique (show 0 < v1 * 4294967296 + v0 by omega)).2 ⟨?_, ?_, by omega⟩
  · rw [Int.mul_comm (v1 * 4294967296 + v0) q]; omega
  · rw [mulY]
    generalize q * v1 = P at *
    generalize q * v0 = P0 at *
    omega
/-- The digit is too great: one less; and if what is left grows past the word's half, it is the one. -/
theorem DgInv.less {u d v1 v0 q r : Int} (h : DgInv u d v1 v0 q r) (hu : 0 ≤ u ∧ u < v1 * 4294967296 + v0) (hd : 0 ≤ d ∧ d < 4294967296) (h1 : 2147483648 ≤ v1 ∧ v1 < 4294967296) (h0 : 0 ≤ v0 ∧ v0 < 4294967296) (ht : 4294967296 ≤ q ∨ 4294967296 * r + d < q * v0) :
    0 < q ∧ DgInv u d v1 v0 (q - 1) (r + v1) ∧ (4294967296 ≤ r + v1 → (u * 4294967296 + d) / (v1 * 4294967296 + v0) = q - 1 ∧ (u * 4294967296 + d) % (v1 * 4294967296 + v0) = u * 4294967296 + d - (q - 1) * (v1 * 4294967296 + v0)) := by
  have hI := h
  obtain ⟨a1, a2, a3, a4, a5⟩ := h
  have hlt : u * 4294967296 + d < q * (v1 * 4294967296 + v0) := by
    rcases ht with ht | ht
    · have := Int.mul_le_mul_of_nonneg_right ht (show 0 ≤ v1 * 4294967296 + v0 by omega)
      omega
    · rw [mulY]
      generalize q * v1 = P at *
      generalize q * v0 = P0 at *
      omega
  have hq : 0 < q := by
    by_cases h : 0 < q
    · exact h
    · have : q = 0 := by omega
      subst this
      rw [Int.zero_mul] at hlt
      omega
  have hN : DgInv u d v1 v0 (q - 1) (r + v1) := by
    refine ⟨by rw [Int.sub_mul, Int.one_mul]; omega, ?_, by omega, by omega, by omega⟩
    rw [Int.sub_mul, Int.one_mul]; omega
  refine ⟨hq, hN, fun hb => hN.done h1 h0 ?_⟩
  have h5 : (q - 1) * v0 ≤ 4294967296 * v0 := Int.mul_le_mul_of_nonneg_right (by omega) h0.1
  omega
theorem digit_rest {u d Y q : Int} (h : (u * 4294967296 + d) / Y = q) (hY : 0 < Y ∧ Y < 18446744073709551616) : IntKind.u64.wrap (IntKind.u64.wrap (IntKind.u64.wrap (u * 4294967296) + d) - IntKind.u64.wrap (q * Y)) = (u * 4294967296 + d) % Y := by
  have e1 := Int.mul_ediv_add_emod (u * 4294967296 + d) Y
  have e2 := Int.emod_nonneg (u * 4294967296 + d) (show Y ≠ 0 by omega)
  have e3 := Int.emod_lt_of_pos (u * 4294967296 + d) hY.1
  rw [h, Int.mul_comm] at e1
  simp only [wrap_u64]
  generalize (u * 4294967296 + d) % Y = R at *
  generalize q * Y = P at *
  omega
/-- What the function reckons with, and what its answer is. -/
theorem div_norm {hi lo y : Int} {s : Nat} (hlo : 0 ≤ lo ∧ lo < 18446744073709551616) (h0 : 0 < hi) (h1 : hi < y) (hs : s ≤ 63) (hn : 9223372036854775808 ≤ y * 2 ^ s) (hn2 : y * 2 ^ s < 18446744073709551616) :
    ∃ Y v1 v0 u L d1 d0 : Int, IntKind.u64.wrap (y * 2 ^ s) = Y ∧ Y / 4294967296 = v1 ∧ bits .and .u64 Y 4294967295 = v0 ∧ bits .or .u64 (IntKind.u64.wrap (hi * 2 ^ s)) (lo / 2 ^ (64 - s)) = u ∧ IntKind.u64.wrap (lo * 2 ^ s) = L ∧ L / 4294967296 = d1 ∧ bits .and .u64 L 4294967295 = d0 ∧
      Aside0 (Y = y * 2 ^ s ∧ Y = v1 * 4294967296 + v0 ∧ (u * 4294967296 + d1) * 4294967296 + d0 = (hi * 18446744073709551616 + lo) * 2 ^ s) ∧ (0 ≤ u ∧ u < v1 * 4294967296 + v0) ∧ (0 ≤ d1 ∧ d1 < 4294967296) ∧ (0 ≤ d0 ∧ d0 < 4294967296) ∧ (2147483648 ≤ v1 ∧ v1 < 4294967296) ∧ (0 ≤ v0 ∧ v0 < 4294967296) := by
  have p0 : (0 : Int) < 2 ^ s := Int.pow_pos (by omega)
  have p1 : (0 : Int) < 2 ^ (64 - s) := Int.pow_pos (by omega)
  have p2 : (2 : Int) ^ s * 2 ^ (64 - s) = 18446744073709551616 := by rw [← Int.pow_add, show s + (64 - s) = 64 from by omega]; rfl
  have q0 : (hi + 1) * 2 ^ s ≤ y * 2 ^ s := Int.mul_le_mul_of_nonneg_right (by omega) (by omega)
  rw [Int.add_mul, Int.one_mul] at q0
  have q1 : 0 ≤ hi * 2 ^ s := Int.mul_nonneg (by omega) (by omega)
  have q2 : 0 ≤ lo / 2 ^ (64 - s) := Int.ediv_nonneg hlo.1 (by omega)
  have q3 : lo / 2 ^ (64 - s) < 2 ^ s := Int.ediv_lt_of_lt_mul p1 (by rw [p2]; exact hlo.2)
  have q4 : 0 ≤ lo * 2 ^ s := Int.mul_nonneg hlo.1 (by omega)
  have q5 : lo * 2 ^ s = (lo / 2 ^ (64 - s)) * 18446744073709551616 + (lo % 2 ^ (64 - s)) * 2 ^ s := by
    rw [← p2]
    have := Int.mul_ediv_add_emod lo (2 ^ (64 - s))
    conv => lhs; rw [← this]
    grind
  have q6 : 0 ≤ (lo % 2 ^ (64 - s)) * 2 ^ s := Int.mul_nonneg (Int.emod_nonneg _ (by omega)) (by omega)
  have q7 : (lo % 2 ^ (64 - s)) * 2 ^ s < 18446744073709551616 := by
    rw [← p2, Int.mul_comm (2 ^ s)]
    exact Int.mul_lt_mul_of_pos_right (Int.emod_lt_of_pos _ p1) p0
  have o1 := or_u64' hi (lo / 2 ^ (64 - s)) s (by omega) hs ⟨q2, q3⟩ (by omega)
  refine ⟨_, _, _, _, _, _, _, rfl, rfl, rfl, rfl, rfl, rfl, rfl, ?_⟩
  have e1 : IntKind.u64.wrap (y * 2 ^ s) = y * 2 ^ s := IntWalk.u64_in _ (by omega)
  have e2 : IntKind.u64.wrap (hi * 2 ^ s) = hi * 2 ^ s := IntWalk.u64_in _ (by omega)
  have e3 : IntKind.u64.wrap (lo * 2 ^ s) = (lo % 2 ^ (64 - s)) * 2 ^ s := by rw [wrap_u64, q5]; omega
  have e4 : (hi * 18446744073709551616 + lo) * 2 ^ s = hi * 2 ^ s * 18446744073709551616 + lo * 2 ^ s := by grind
  rw [e1, e2, e3, o1, and_u64 _ (by omega), and_u64 _ (by omega), e4, q5]
  generalize hi * 2 ^ s = H at *
  generalize (lo % 2 ^ (64 - s)) * 2 ^ s = L at *
  generalize lo / 2 ^ (64 - s) = T at *
  generalize y * 2 ^ s = Y at *
  generalize (2 : Int) ^ s = Z at *
  refine ⟨⟨rfl, by omega, by omega⟩, by omega, by omega, by omega, by omega, by omega⟩
theorem div_end {N y Y u d1 d0 R1 Q1 Q0 : Int} {s : Nat} (hy : 0 < y) (hY : Y = y * 2 ^ s) (hN : (u * 4294967296 + d1) * 4294967296 + d0 = N * 2 ^ s) (hQ1 : (u * 4294967296 + d1) / Y = Q1) (hR1 : (u * 4294967296 + d1) % Y = R1) (hQ0 : (R1 * 4294967296 + d0) / Y = Q0) :
    Q1 * 4294967296 + Q0 = N / y ∧ (R1 * 4294967296 + d0) % Y / 2 ^ s = N % y := by
  have p0 : (0 : Int) < 2 ^ s := Int.pow_pos (by omega)
  have hY0 : 0 < Y := by rw [hY]; exact Int.mul_pos hy p0
  have e1 := Int.mul_ediv_add_emod (u * 4294967296 + d1) Y
  have e2 := Int.mul_ediv_add_emod (R1 * 4294967296 + d0) Y
  have e3 := Int.emod_nonneg (R1 * 4294967296 + d0) (show Y ≠ 0 by omega)
  have e4 := Int.emod_lt_of_pos (R1 * 4294967296 + d0) hY0
  rw [hQ1, hR1] at e1
  rw [hQ0] at e2
  have h1 : N * 2 ^ s = (Q1 * 4294967296 + Q0) * Y + (R1 * 4294967296 + d0) % Y := by
    rw [← hN, ← e1]
    have : (Y * Q1 + R1) * 4294967296 + d0 = Y * Q1 * 4294967296 + (R1 * 4294967296 + d0) := by omega
    rw [this]
    conv => lhs; rw [← e2]
    grind
  generalize (R1 * 4294967296 + d0) % Y = R2 at *
  generalize Q1 * 4294967296 + Q0 = Q at *
  have h2 : R2 = (N - Q * y) * 2 ^ s := by rw [Int.sub_mul, h1, hY, Int.mul_assoc]; omega
  have h3 : R2 / 2 ^ s = N - Q * y := by rw [h2]; exact Int.mul_ediv_cancel _ (by omega)
  have h4 : 0 ≤ N - Q * y := by rw [← h3]; exact Int.ediv_nonneg e3 (by omega)
  have h5 : N - Q * y < y := by
    rw [hY, h2] at e4
    exact Int.lt_of_mul_lt_mul_right e4 (by omega)
  have h6 := (Int.ediv_emod_unique hy (a := N) (r := N - Q * y) (q := Q)).2 ⟨by rw [Int.mul_comm y Q]; omega, h4, h5⟩
  rw [h3, h6.1, h6.2]
  exact ⟨rfl, rfl⟩
end Go.Proofs.Ytjkelnnjfpcapaa.Num
