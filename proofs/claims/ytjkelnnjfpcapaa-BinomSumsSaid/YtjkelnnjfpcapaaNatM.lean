/- nat: bits.Div64: the call divides (laid by wip/gen/div64.py). -/
import Derived.Test.YtjkelnnjfpcapaaNatL
namespace Go.Proofs.Ytjkelnnjfpcapaa.Num
set_option linter.unusedVariables false
open Go.RowKit Go.Shelf Go.Proofs.Ytjkelnnjfpcapaa.PNat Go.Proofs.YtjkelnnjfpcapaaW Go.Proofs.YtjkelnnjfpcapaaW.PrintWords Go.Proofs.YtjkelnnjfpcapaaW.PrintLast Go.Proofs.YtjkelnnjfpcapaaW.PrintMore

theorem sub_wrap {u P : Int} (h : 0 ≤ u - P ∧ u - P < 18446744073709551616) : IntKind.u64.wrap (u - IntKind.u64.wrap P) = u - P := by
  simp only [wrap_u64]; omega
theorem mul_in64 {q v : Int} (hq : 0 ≤ q ∧ q < 4294967296) (hv : 0 ≤ v ∧ v < 4294967296) : 0 ≤ q * v ∧ q * v < 18446744073709551616 := by
  have h1 := Int.mul_nonneg hq.1 hv.1
  have h2 : q * v ≤ 4294967295 * 4294967295 := Int.mul_le_mul (by omega) (by omega) hv.1 (by omega)
  omega
set_option maxHeartbeats 6400000 in
set_option maxRecDepth 100000 in
theorem div64_some (hi lo y : Int) (hlo : 0 ≤ lo ∧ lo < 18446744073709551616) (h0 : 0 < hi) (h1 : hi < y) (h2 : y < 18446744073709551616) (s : Nat) (hs : s ≤ 63) (hn : 9223372036854775808 ≤ y * 2 ^ s) (hn2 : y * 2 ^ s < 18446744073709551616) (W : World) (HL : ∀ W, Calls Try.prog 63 #[.int .u64 y] W fun e w' => e = .returned (.int .i64 (s : Int)) ∧ W = w') :
    Calls Try.prog 54 #[.int .u64 hi, .int .u64 lo, .int .u64 y] W fun e w' => e = .returned (.tuple #[.int .u64 ((hi * 18446744073709551616 + lo) / y), .int .u64 ((hi * 18446744073709551616 + lo) % y)]) ∧ W = w' := by
  obtain ⟨Y, v1, v0, u, L, d1, d0, eY, ev1, ev0, eu, eL, ed1, ed0, HE, hu, hd1, hd0, hv1, hv0⟩ := div_norm hlo h0 h1 hs hn hn2
  have HU := Aside0.mk hu
  have HD1 := Aside0.mk hd1
  have HD0 := Aside0.mk hd0
  have HV1 := Aside0.mk hv1
  have HV0 := Aside0.mk hv0
  obtain ⟨N, hN⟩ : ∃ N, N = hi * 18446744073709551616 + lo := ⟨_, rfl⟩
  rw [← hN] at HE ⊢
  clear hN hn hn2
  obtain ⟨Q1, R1, hQ1, hR1⟩ : ∃ Q1 R1, (u * 4294967296 + d1) / Y = Q1 ∧ (u * 4294967296 + d1) % Y = R1 := ⟨_, _, rfl, rfl⟩
  obtain ⟨Q0, hQ0⟩ : ∃ Q0, (R1 * 4294967296 + d0) / Y = Q0 := ⟨_, rfl⟩
  obtain ⟨R2, hR2⟩ : ∃ R2, (R1 * 4294967296 + d0) % Y = R2 := ⟨_, rfl⟩
  have hY0 : 0 < Y ∧ Y < 18446744073709551616 := by have := HE.out.2.1; omega
  have hend := div_end (N := N) (y := y) (s := s) (by omega) HE.out.1 HE.out.2.2 hQ1 hR1 hQ0
  have er1 : IntKind.u64.wrap (IntKind.u64.wrap (IntKind.u64.wrap (u * 4294967296) + d1) - IntKind.u64.wrap (Q1 * Y)) = R1 := by rw [digit_rest hQ1 hY0, hR1]
  have er2 : IntKind.u64.wrap (IntKind.u64.wrap (IntKind.u64.wrap (R1 * 4294967296) + d0) - IntKind.u64.wrap (Q0 * Y)) = R2 := by rw [digit_rest hQ0 hY0, hR2]
  rw [hR2] at hend
  have hR : 0 ≤ R1 ∧ R1 < Y := by rw [← hR1]; exact ⟨Int.emod_nonneg _ (by omega), Int.emod_lt_of_pos _ hY0.1⟩
  have hR' : 0 ≤ R1 ∧ R1 < v1 * 4294967296 + v0 := by rw [← HE.out.2.1]; exact hR
  have HR := Aside0.mk hR'
  have S1 := DgInv.start hu hd1 hv1 hv0
  have S0 := DgInv.start hR' hd0 hv1 hv0
  obtain ⟨qa, eqa⟩ : ∃ q, u / v1 = q := ⟨_, rfl⟩
  obtain ⟨qb, eqb⟩ : ∃ q, R1 / v1 = q := ⟨_, rfl⟩
  rw [eqa] at S1
  rw [eqb] at S0
  obtain ⟨ra, era⟩ : ∃ r, u - qa * v1 = r := ⟨_, rfl⟩
  obtain ⟨rb, erb⟩ : ∃ r, R1 - qb * v1 = r := ⟨_, rfl⟩
  rw [era] at S1
  rw [erb] at S0
  have ewa : IntKind.u64.wrap (u - IntKind.u64.wrap (qa * v1)) = ra := by rw [sub_wrap (by have := S1.1.2.2.1; have := S1.2; omega), era]
  have ewb : IntKind.u64.wrap (R1 - IntKind.u64.wrap (qb * v1)) = rb := by rw [sub_wrap (by have := S0.1.2.2.1; have := S0.2; omega), erb]
  have bq : 0 ≤ qa ∧ qa ≤ 4294967297 := ⟨S1.1.2.2.2.1, S1.1.2.2.2.2⟩
  have br : 0 ≤ ra ∧ ra < 4294967296 := ⟨S1.1.2.2.1, S1.2⟩
  have b0q : 0 ≤ qb ∧ qb ≤ 4294967297 := ⟨S0.1.2.2.2.1, S0.1.2.2.2.2⟩
  have b0r : 0 ≤ rb ∧ rb < 4294967296 := ⟨S0.1.2.2.1, S0.2⟩
  have q1le : 0 ≤ Q1 ∧ Q1 < 4294967296 := ⟨by rw [← hQ1]; exact Int.ediv_nonneg (by omega) (by omega), by rw [← hQ1]; exact Int.ediv_lt_of_lt_mul hY0.1 (by have := HE.out.2.1; omega)⟩
  have q0le : 0 ≤ Q0 ∧ Q0 < 4294967296 := ⟨by rw [← hQ0]; exact Int.ediv_nonneg (by omega) (by omega), by rw [← hQ0]; exact Int.ediv_lt_of_lt_mul hY0.1 (by omega)⟩
  have eY' : v1 * 4294967296 + v0 = Y := HE.out.2.1.symm
  have HQ1 : Aside0 ((u * 4294967296 + d1) / (v1 * 4294967296 + v0) = Q1) := ⟨by rw [eY']; exact hQ1⟩
  have HQ0 : Aside0 ((R1 * 4294967296 + d0) / (v1 * 4294967296 + v0) = Q0) := ⟨by rw [eY']; exact hQ0⟩
  have HS1 := Aside0.mk S1.1
  have HS0 := Aside0.mk S0.1
  have HF : Aside0 (Ending.returned (.tuple #[.int .u64 (Q1 * 4294967296 + Q0), .int .u64 (R2 / 2 ^ s)]) = .returned (.tuple #[.int .u64 (N / y), .int .u64 (N % y)])) := ⟨by rw [hend.1, hend.2]⟩
  have hRn : 0 ≤ R1 ∧ R1 < 18446744073709551616 := ⟨hR.1, by omega⟩
  clear S1 S0 hQ1 hR1 hQ0 hR2 hend era erb eY' hR hR' HE
  go_enter Try.func54, Try.ntmps54
  go_wp2_with (first
    | (go_at_call 63; (with_reducible refine (HL _).mono ?_); rintro e w' ⟨rfl, rfl⟩)
    | fail)
  go_loop [15, 16] (fun v15 v16 => ∃ q r : Int, v15 = .int .u64 q ∧ v16 = .int .u64 r ∧ Aside0 (DgInv u d1 v1 v0 q r) ∧ 0 ≤ q ∧ q ≤ 4294967297 ∧ 0 ≤ r ∧ r < 4294967296) (fun v15 _ => (intOf v15).toNat)
  case atStart => exact ⟨qa, ra, by first | rfl | rw [eqa], by first | rfl | rw [ewa], HS1, bq.1, bq.2, br.1, br.2⟩
  case round =>
    obtain ⟨q, r, rfl, rfl, HI, hq0, hq1, hr0, hr1⟩ := hrel
    have HI2 := HI.out
    by_cases hq : 4294967296 ≤ q
    · have hl := HI2.less HU.out HD1.out HV1.out HV0.out (Or.inl hq)
      have hqp := hl.1
      have HN := Aside0.mk hl.2.1
      by_cases hb : 4294967296 ≤ r + v1
      · have e : q - 1 = Q1 := by rw [← (hl.2.2 hb).1]; exact HQ1.out
        clear hl HI2 HN HI
        go_wp2
        go_loop [18, 16] (fun v15 v16 => ∃ q r : Int, v15 = .int .u64 q ∧ v16 = .int .u64 r ∧ Aside0 (DgInv R1 d0 v1 v0 q r) ∧ 0 ≤ q ∧ q ≤ 4294967297 ∧ 0 ≤ r ∧ r < 4294967296) (fun v15 _ => (intOf v15).toNat)
        case atStart => exact ⟨qb, rb, by first | rfl | rw [eqb], by first | rfl | rw [ewb], HS0, b0q.1, b0q.2, b0r.1, b0r.2⟩
        case round =>
          obtain ⟨q, r, rfl, rfl, HI, hq0, hq1, hr0, hr1⟩ := hrel
          have HI2 := HI.out
          by_cases hq : 4294967296 ≤ q
          · have hl := HI2.less HR.out HD0.out HV1.out HV0.out (Or.inl hq)
            have hqp := hl.1
            have HN := Aside0.mk hl.2.1
            by_cases hb : 4294967296 ≤ r + v1
            · have e : q - 1 = Q0 := by rw [← (hl.2.2 hb).1]; exact HQ0.out
              clear hl HI2 HN HI
              go_wp2
              go_ret2
              exact ⟨HF.out, rfl⟩
            · clear hl HI2
              go_wp2
              go_round
              case rel => exact ⟨q - 1, r + v1, rfl, rfl, HN, by omega, by omega, by omega, by omega⟩
              case measure => simp [intOf]; omega
          · have hm := mul_in64 ⟨hq0, by omega⟩ HV0.out
            obtain ⟨P, hP⟩ : ∃ P, P = q * v0 := ⟨_, rfl⟩
            rw [← hP] at hm
            have eP : IntKind.u64.wrap (q * v0) = P := by rw [← hP]; exact IntWalk.u64_in _ (by omega)
            by_cases ht : 4294967296 * r + d0 < P
            · have hl := HI2.less HR.out HD0.out HV1.out HV0.out (Or.inr (by rw [← hP]; exact ht))
              have hqp := hl.1
              have HN := Aside0.mk hl.2.1
              by_cases hb : 4294967296 ≤ r + v1
              · have e : q - 1 = Q0 := by rw [← (hl.2.2 hb).1]; exact HQ0.out
                clear hl HI2 hP HN HI
                go_wp2
                go_ret2
                exact ⟨HF.out, rfl⟩
              · clear hl HI2 hP
                go_wp2
                go_round
                case rel => exact ⟨q - 1, r + v1, rfl, rfl, HN, by omega, by omega, by omega, by omega⟩
                case measure => simp [intOf]; omega
            · have e : q = Q0 := by rw [← (HI2.done HV1.out HV0.out (by rw [← hP]; omega)).1]; exact HQ0.out
              subst e
              clear HI2 hP
              go_wp2
              go_ret2
              exact ⟨HF.out, rfl⟩
      · clear hl HI2
        go_wp2
        go_round
        case rel => exact ⟨q - 1, r + v1, rfl, rfl, HN, by omega, by omega, by omega, by omega⟩
        case measure => simp [intOf]; omega
    · have hm := mul_in64 ⟨hq0, by omega⟩ HV0.out
      obtain ⟨P, hP⟩ : ∃ P, P = q * v0 := ⟨_, rfl⟩
      rw [← hP] at hm
      have eP : IntKind.u64.wrap (q * v0) = P := by rw [← hP]; exact IntWalk.u64_in _ (by omega)
      by_cases ht : 4294967296 * r + d1 < P
      · have hl := HI2.less HU.out HD1.out HV1.out HV0.out (Or.inr (by rw [← hP]; exact ht))
        have hqp := hl.1
        have HN := Aside0.mk hl.2.1
        by_cases hb : 4294967296 ≤ r + v1
        · have e : q - 1 = Q1 := by rw [← (hl.2.2 hb).1]; exact HQ1.out
          clear hl HI2 hP HN HI
          go_wp2
          go_loop [18, 16] (fun v15 v16 => ∃ q r : Int, v15 = .int .u64 q ∧ v16 = .int .u64 r ∧ Aside0 (DgInv R1 d0 v1 v0 q r) ∧ 0 ≤ q ∧ q ≤ 4294967297 ∧ 0 ≤ r ∧ r < 4294967296) (fun v15 _ => (intOf v15).toNat)
          case atStart => exact ⟨qb, rb, by first | rfl | rw [eqb], by first | rfl | rw [ewb], HS0, b0q.1, b0q.2, b0r.1, b0r.2⟩
          case round =>
            obtain ⟨q, r, rfl, rfl, HI, hq0, hq1, hr0, hr1⟩ := hrel
            have HI2 := HI.out
            by_cases hq : 4294967296 ≤ q
            · have hl := HI2.less HR.out HD0.out HV1.out HV0.out (Or.inl hq)
              have hqp := hl.1
              have HN := Aside0.mk hl.2.1
              by_cases hb : 4294967296 ≤ r + v1
              · have e : q - 1 = Q0 := by rw [← (hl.2.2 hb).1]; exact HQ0.out
                clear hl HI2 HN HI
                go_wp2
                go_ret2
                exact ⟨HF.out, rfl⟩
              · clear hl HI2
                go_wp2
                go_round
                case rel => exact ⟨q - 1, r + v1, rfl, rfl, HN, by omega, by omega, by omega, by omega⟩
                case measure => simp [intOf]; omega
            · have hm := mul_in64 ⟨hq0, by omega⟩ HV0.out
              obtain ⟨P, hP⟩ : ∃ P, P = q * v0 := ⟨_, rfl⟩
              rw [← hP] at hm
              have eP : IntKind.u64.wrap (q * v0) = P := by rw [← hP]; exact IntWalk.u64_in _ (by omega)
              by_cases ht : 4294967296 * r + d0 < P
              · have hl := HI2.less HR.out HD0.out HV1.out HV0.out (Or.inr (by rw [← hP]; exact ht))
                have hqp := hl.1
                have HN := Aside0.mk hl.2.1
                by_cases hb : 4294967296 ≤ r + v1
                · have e : q - 1 = Q0 := by rw [← (hl.2.2 hb).1]; exact HQ0.out
                  clear hl HI2 hP HN HI
                  go_wp2
                  go_ret2
                  exact ⟨HF.out, rfl⟩
                · clear hl HI2 hP
                  go_wp2
                  go_round
                  case rel => exact ⟨q - 1, r + v1, rfl, rfl, HN, by omega, by omega, by omega, by omega⟩
                  case measure => simp [intOf]; omega
              · have e : q = Q0 := by rw [← (HI2.done HV1.out HV0.out (by rw [← hP]; omega)).1]; exact HQ0.out
                subst e
                clear HI2 hP
                go_wp2
                go_ret2
                exact ⟨HF.out, rfl⟩
        · clear hl HI2 hP
          go_wp2
          go_round
          case rel => exact ⟨q - 1, r + v1, rfl, rfl, HN, by omega, by omega, by omega, by omega⟩
          case measure => simp [intOf]; omega
      · have e : q = Q1 := by rw [← (HI2.done HV1.out HV0.out (by rw [← hP]; omega)).1]; exact HQ1.out
        subst e
        clear HI2 hP
        go_wp2
        go_loop [18, 16] (fun v15 v16 => ∃ q r : Int, v15 = .int .u64 q ∧ v16 = .int .u64 r ∧ Aside0 (DgInv R1 d0 v1 v0 q r) ∧ 0 ≤ q ∧ q ≤ 4294967297 ∧ 0 ≤ r ∧ r < 4294967296) (fun v15 _ => (intOf v15).toNat)
        case atStart => exact ⟨qb, rb, by first | rfl | rw [eqb], by first | rfl | rw [ewb], HS0, b0q.1, b0q.2, b0r.1, b0r.2⟩
        case round =>
          obtain ⟨q, r, rfl, rfl, HI, hq0, hq1, hr0, hr1⟩ := hrel
          have HI2 := HI.out
          by_cases hq : 4294967296 ≤ q
          · have hl := HI2.less HR.out HD0.out HV1.out HV0.out (Or.inl hq)
            have hqp := hl.1
            have HN := Aside0.mk hl.2.1
            by_cases hb : 4294967296 ≤ r + v1
            · have e : q - 1 = Q0 := by rw [← (hl.2.2 hb).1]; exact HQ0.out
              clear hl HI2 HN HI
              go_wp2
              go_ret2
              exact ⟨HF.out, rfl⟩
            · clear hl HI2
              go_wp2
              go_round
              case rel => exact ⟨q - 1, r + v1, rfl, rfl, HN, by omega, by omega, by omega, by omega⟩
              case measure => simp [intOf]; omega
          · have hm := mul_in64 ⟨hq0, by omega⟩ HV0.out
            obtain ⟨P, hP⟩ : ∃ P, P = q * v0 := ⟨_, rfl⟩
            rw [← hP] at hm
            have eP : IntKind.u64.wrap (q * v0) = P := by rw [← hP]; exact IntWalk.u64_in _ (by omega)
            by_cases ht : 4294967296 * r + d0 < P
            · have hl := HI2.less HR.out HD0.out HV1.out HV0.out (Or.inr (by rw [← hP]; exact ht))
              have hqp := hl.1
              have HN := Aside0.mk hl.2.1
              by_cases hb : 4294967296 ≤ r + v1
              · have e : q - 1 = Q0 := by rw [← (hl.2.2 hb).1]; exact HQ0.out
                clear hl HI2 hP HN HI
                go_wp2
                go_ret2
                exact ⟨HF.out, rfl⟩
              · clear hl HI2 hP
                go_wp2
                go_round
                case rel => exact ⟨q - 1, r + v1, rfl, rfl, HN, by omega, by omega, by omega, by omega⟩
                case measure => simp [intOf]; omega
            · have e : q = Q0 := by rw [← (HI2.done HV1.out HV0.out (by rw [← hP]; omega)).1]; exact HQ0.out
              subst e
              clear HI2 hP
              go_wp2
              go_ret2
              exact ⟨HF.out, rfl⟩
end Go.Proofs.Ytjkelnnjfpcapaa.Num
