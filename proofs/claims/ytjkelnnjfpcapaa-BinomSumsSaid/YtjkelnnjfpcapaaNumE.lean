/- What the reference's functions on numbers come to, in plain Lean. -/
import Derived.Test.YtjkelnnjfpcapaaNumD
namespace Go.Proofs.Ytjkelnnjfpcapaa.Num
open Go.RowKit Go.Proofs.Ytjkelnnjfpcapaa.PNat Go.Proofs.YtjkelnnjfpcapaaW Go.Proofs.YtjkelnnjfpcapaaW.PrintWords Go.Proofs.YtjkelnnjfpcapaaW.PrintLast Go.Proofs.YtjkelnnjfpcapaaW.PrintMore

/-- So many words of 64 bits. -/
def wl : Nat → Nat → List Int
  | 0, _ => []
  | m + 1, v => ((v % 18446744073709551616 : Nat) : Int) :: wl m (v / 18446744073709551616)
theorem wl_len : ∀ m v, (wl m v).length = m
  | 0, _ => rfl
  | m + 1, v => by rw [wl, List.length_cons, wl_len]
theorem wl_zero : ∀ m, wl m 0 = List.replicate m 0
  | 0 => rfl
  | m + 1 => by rw [wl, List.replicate_succ, Nat.zero_div, wl_zero m]; rfl
theorem wl_rd : ∀ (m v p : Nat), p < m → rd (wl m v) (p : Int) = ((v / 2 ^ (64 * p) % 18446744073709551616 : Nat) : Int)
  | m + 1, v, 0, _ => by simp [wl, rd]
  | m + 1, v, p + 1, h => by
    have := wl_rd m (v / 18446744073709551616) p (by omega)
    rw [show rd (wl (m + 1) v) ((p + 1 : Nat) : Int) = rd (wl m (v / 18446744073709551616)) (p : Int) from by simp [wl, rd], this, Nat.div_div_eq_div_mul, show (18446744073709551616 : Nat) = 2 ^ 64 from rfl, ← Nat.pow_add, show 64 + 64 * p = 64 * (p + 1) from by omega]
theorem wl_bit : ∀ (m u p q : Nat), p < m → q < 64 → u < 2 ^ (64 * p + q) → (wl m u).set p (rd (wl m u) (p : Int) + ((2 ^ q : Nat) : Int)) = wl m (u + 2 ^ (64 * p + q))
  | m + 1, u, 0, q, _, hq, hu => by
    rw [Nat.mul_zero, Nat.zero_add] at hu ⊢
    have h1 : 2 ^ q ≤ 2 ^ 63 := Nat.pow_le_pow_right (by omega) (by omega)
    generalize 2 ^ q = Q at hu h1 ⊢
    rw [wl, wl, show rd (((u % 18446744073709551616 : Nat) : Int) :: wl m (u / 18446744073709551616)) ((0 : Nat) : Int) = ((u % 18446744073709551616 : Nat) : Int) from by simp [rd], List.set_cons_zero]
    congr 1
    · omega
    · congr 1; omega
  | m + 1, u, p + 1, q, hp, hq, hu => by
    have e : 2 ^ (64 * (p + 1) + q) = 18446744073709551616 * 2 ^ (64 * p + q) := by rw [show 64 * (p + 1) + q = 64 + (64 * p + q) from by omega, Nat.pow_add]
    have ih := wl_bit m (u / 18446744073709551616) p q (by omega) hq (by rw [e] at hu; omega)
    have e2 : rd (wl (m + 1) u) ((p + 1 : Nat) : Int) = rd (wl m (u / 18446744073709551616)) (p : Int) := by simp [wl, rd]
    rw [e2, wl, List.set_cons_succ, ih, wl, e]
    congr 1
    · omega
    · congr 1; omega
theorem wl_mod : ∀ (m v : Nat), wl m (v % 2 ^ (64 * m)) = wl m v
  | 0, _ => rfl
  | m + 1, v => by
    rw [wl, wl]
    have e : 2 ^ (64 * (m + 1)) = 18446744073709551616 * 2 ^ (64 * m) := by rw [show 64 * (m + 1) = 64 + 64 * m from by omega, Nat.pow_add]
    have h1 : v % (18446744073709551616 * 2 ^ (64 * m)) % 18446744073709551616 = v % 18446744073709551616 := Nat.mod_mul_right_mod ..
    have h2 : v % (18446744073709551616 * 2 ^ (64 * m)) / 18446744073709551616 = v / 18446744073709551616 % 2 ^ (64 * m) := Nat.mod_mul_right_div_self ..
    rw [e, h1, h2, wl_mod m]
theorem pow2_u64 (r i n : Nat) (hi : i + r = n) (hn : n ≤ 63) {α : Type} (g : Nat → Int → Int → Option α) (R : α)
    (hg : ∀ k (x y : Int), y < (n : Int) → g (k + 1) x y = g k (IntKind.u64.wrap (2 * x)) (wrap64 (y + 1))) (hR : Ev (fun k => g k ((2 ^ n : Nat) : Int) (n : Int)) R) : Ev (fun k => g k ((2 ^ i : Nat) : Int) (i : Int)) R := by
  induction r generalizing i with
  | zero => obtain rfl : i = n := by omega
            exact hR
  | succ r ih =>
    have h1 : 2 ^ i ≤ 2 ^ 62 := Nat.pow_le_pow_right (by omega) (by omega)
    refine Ev.step (f := fun k => g k ((2 ^ (i + 1) : Nat) : Int) ((i + 1 : Nat) : Int)) (fun k => ?_) (ih (i + 1) (by omega))
    rw [hg k _ _ (by omega), w64 _ (by omega) (by omega), natCast_succ', Nat.pow_succ]
    generalize 2 ^ i = P at h1 ⊢
    rw [IntWalk.u64_in _ (by omega), show (2 : Int) * (P : Int) = ((P * 2 : Nat) : Int) from by omega]
theorem pow2_from (n : Nat) (hn : n ≤ 63) {α : Type} (g : Nat → Int → Int → Option α) (R : α)
    (hg : ∀ k (x y : Int), y < (n : Int) → g (k + 1) x y = g k (IntKind.u64.wrap (2 * x)) (wrap64 (y + 1))) (hR : Ev (fun k => g k ((2 ^ n : Nat) : Int) (n : Int)) R) : Ev (fun k => g k 1 0) R :=
  pow2_u64 n 0 n (by omega) hn g R hg hR
theorem digit_bit (a : List Int) (ha : Dg a) (i kk : Nat) (hk : kk < 24) : vn a / 2 ^ (24 * i + kk) % 2 = (rd a (i : Int)).toNat / 2 ^ kk % 2 := by
  have e1 : vn a = vn (a.take i) + 16777216 ^ (a.take i).length * vn (a.drop i) := by rw [← vn_append, List.take_append_drop]
  have l1 := vn_lt (ha.take i)
  have e2 : vn a / 16777216 ^ i = vn (a.drop i) := by
    by_cases h : i ≤ a.length
    · rw [show (a.take i).length = i from by simp; omega] at e1 l1
      rw [e1, Nat.add_comm, Nat.mul_add_div (Nat.pow_pos (by omega)), Nat.div_eq_of_lt l1, Nat.add_zero]
    · have hlt : vn a < 16777216 ^ i := Nat.lt_of_lt_of_le (vn_lt ha) (Nat.pow_le_pow_right (by omega) (by omega))
      rw [Nat.div_eq_of_lt hlt, vn_drop_all a i (by omega)]
  rw [Nat.pow_add, show (2 : Nat) ^ (24 * i) = 16777216 ^ i from by rw [Nat.pow_mul], ← Nat.div_div_eq_div_mul, e2, vn_drop a i]
  have e3 : 16777216 * vn (a.drop (i + 1)) = 2 ^ kk * (2 * (2 ^ (23 - kk) * vn (a.drop (i + 1)))) := by
    rw [← Nat.mul_assoc, ← Nat.mul_assoc, show 2 ^ kk * 2 = 2 ^ (kk + 1) from (Nat.pow_succ ..).symm, ← Nat.pow_add, show kk + 1 + (23 - kk) = 24 from by omega]
  rw [e3, Nat.add_comm, Nat.mul_add_div (Nat.pow_pos (by omega))]
  omega
theorem towords_go (a : List Int) (ha : Dg a) (hl : a.length ≤ 1000000) (m : Nat) (hm : m ≤ 1000000) : ∀ (s r i kk : Nat), s + kk = 24 → i + 1 + r = a.length →
    (∀ i', i' = i + 1 → Ev (fun k => cleromancyref01_ToWords.l0 k a (m : Int) (wl m (vn a % 2 ^ (24 * i'))) (i' : Int)) (wl m (vn a))) →
    Ev (fun k => cleromancyref01_ToWords.l1 k a (m : Int) (wl m (vn a % 2 ^ (24 * i + kk))) (i : Int) (kk : Int)) (wl m (vn a))
  | 0, r, i, kk, hs, hi, hn => by
    obtain rfl : kk = 24 := by omega
    refine Ev.step (fun k => by rw [cleromancyref01_ToWords.l1, if_neg (by omega), w64 _ (by omega) (by omega), natCast_succ']) ?_
    exact hn (i + 1) rfl
  | s + 1, r, i, kk, hs, hi, hn => by
    have ih := towords_go a ha hl m hm s r i (kk + 1) (by omega) hi hn
    have da := ha.rd (i : Int)
    have e6 : wrap64 ((kk : Int) + 1) = ((kk + 1 : Nat) : Int) := by rw [w64 _ (by omega) (by omega), natCast_succ']
    have hp : 2 ^ kk ≤ 2 ^ 23 := Nat.pow_le_pow_right (by omega) (by omega)
    have hp0 : 0 < 2 ^ kk := Nat.pow_pos (by omega)
    refine Ev.step (fun k => by rw [cleromancyref01_ToWords.l1, if_pos (by omega), if_pos (by omega), if_pos (by omega)]) ?_
    refine Ev.bind (pow2_ev kk (by omega)) ?_
    have e1 : Int.tmod (wrap64 (Int.tdiv (rd a (i : Int)) ((2 ^ kk : Nat) : Int))) 2 = (((rd a (i : Int)).toNat / 2 ^ kk % 2 : Nat) : Int) := by
      rw [Int.tdiv_eq_ediv_of_nonneg (by omega)]
      have e0 : rd a (i : Int) / ((2 ^ kk : Nat) : Int) = (((rd a (i : Int)).toNat / 2 ^ kk : Nat) : Int) := by rw [Int.natCast_ediv, show (((rd a (i : Int)).toNat : Nat) : Int) = rd a (i : Int) from by omega]
      have hle : (rd a (i : Int)).toNat / 2 ^ kk ≤ (rd a (i : Int)).toNat := Nat.div_le_self _ _
      rw [e0]
      generalize (rd a (i : Int)).toNat / 2 ^ kk = z at hle ⊢
      rw [w64 _ (by omega) (by omega), Int.tmod_eq_emod_of_nonneg (by omega)]
      omega
    have e2 : wrap64 (wrap64 (24 * (i : Int)) + (kk : Int)) = ((24 * i + kk : Nat) : Int) := by rw [w64 (24 * (i : Int)) (by omega) (by omega), w64 _ (by omega) (by omega)]; push_cast; rfl
    have e3 : wrap64 (64 * (m : Int)) = ((64 * m : Nat) : Int) := by rw [w64 _ (by omega) (by omega)]; push_cast; rfl
    have next : ∀ out, out = wl m (vn a % 2 ^ (24 * i + (kk + 1))) → Ev (fun k => cleromancyref01_ToWords.l1 k a (m : Int) out (i : Int) (wrap64 ((kk : Int) + 1))) (wl m (vn a)) := fun out ho => by
      rw [e6, ho]; exact ih
    rw [← Nat.add_assoc] at next
    have hne : ¬ ((2 ^ kk : Nat) : Int) = 0 := by omega
    refine Ev.congr (fun k => by rw [if_neg hne, e1, e2, e3]) ?_
    clear e1 e2 e3 ih hne
    have HB := Aside0.mk (digit_bit a ha i kk (by omega))
    have HS := Aside0.mk (Nat.mod_pow_succ (b := 2) (k := 24 * i + kk) (x := vn a))
    by_cases hbit : (rd a (i : Int)).toNat / 2 ^ kk % 2 = 1
    · refine Ev.congr (fun k => by rw [if_pos (by omega)]) ?_
      have HS2 : Aside0 (vn a % 2 ^ (24 * i + kk + 1) = vn a % 2 ^ (24 * i + kk) + 2 ^ (24 * i + kk)) := ⟨by rw [HS.out, HB.out, hbit, Nat.mul_one]⟩
      clear hbit HB HS
      by_cases hin : 24 * i + kk < 64 * m
      · refine Ev.step (fun k => by rw [cleromancyref01_ToWords.j2, if_pos (by simp; omega)]) ?_
        obtain ⟨p, hp⟩ : ∃ p, p = (24 * i + kk) / 64 := ⟨_, rfl⟩
        obtain ⟨q, hq⟩ : ∃ q, q = (24 * i + kk) % 64 := ⟨_, rfl⟩
        have hq64 : q < 64 := by omega
        have hpm : p < m := by omega
        have hpq : 24 * i + kk = 64 * p + q := by omega
        have hp0 : (0 : Int) ≤ (p : Int) := Int.natCast_nonneg p
        have hpl : (p : Int) < ((wl m (vn a % 2 ^ (24 * i + kk))).length : Int) := by rw [wl_len]; exact Int.ofNat_lt.2 hpm
        have hbig : vn a % 2 ^ (64 * p + q) < 2 ^ (64 * p + q) := Nat.mod_lt _ (Nat.pow_pos (by omega))
        have hword : vn a % 2 ^ (64 * p + q) / 2 ^ (64 * p) < 2 ^ q := by
          rw [Nat.div_lt_iff_lt_mul (Nat.pow_pos (by omega)), ← Nat.pow_add, Nat.add_comm q]
          exact hbig
        have hq2 : 2 ^ q ≤ 2 ^ 63 := Nat.pow_le_pow_right (by omega) (by omega)
        have hrd := wl_rd m (vn a % 2 ^ (64 * p + q)) p hpm
        have hsum : IntKind.u64.wrap (rd (wl m (vn a % 2 ^ (64 * p + q))) (p : Int) + ((2 ^ q : Nat) : Int)) = rd (wl m (vn a % 2 ^ (64 * p + q))) (p : Int) + ((2 ^ q : Nat) : Int) := by
          rw [hrd]
          generalize vn a % 2 ^ (64 * p + q) / 2 ^ (64 * p) = Z at hword ⊢
          generalize 2 ^ q = Q at hword hq2 ⊢
          clear hrd hbig hpl
          rw [IntWalk.u64_in _ (by omega)]
        have e4 : Int.tmod ((24 * i + kk : Nat) : Int) 64 = (q : Int) := by rw [Int.tmod_eq_emod_of_nonneg (by omega)]; omega
        have e5 : wrap64 (Int.tdiv ((24 * i + kk : Nat) : Int) 64) = (p : Int) := by rw [Int.tdiv_eq_ediv_of_nonneg (by omega), w64 _ (by omega) (by omega)]; omega
        refine pow2_from q (Nat.le_of_lt_succ hq64) (g := fun k x y => cleromancyref01_ToWords.l2 k a (m : Int) (wl m (vn a % 2 ^ (24 * i + kk))) (i : Int) (kk : Int) ((24 * i + kk : Nat) : Int) x y) (R := wl m (vn a)) (fun k x y hy => by rw [cleromancyref01_ToWords.l2, if_pos (by rw [e4]; exact hy)]) ?_
        refine Ev.step (fun k => by rw [cleromancyref01_ToWords.l2, if_neg (by rw [e4]; exact Int.lt_irrefl _), e5, if_pos hp0, if_pos hpl]) ?_
        refine next _ ?_
        rw [HS2.out, hpq, Int.toNat_natCast, hsum, wl_bit m _ p q hpm hq64 hbig]
      · refine Ev.step (fun k => by rw [cleromancyref01_ToWords.j2, if_neg (by simp; omega)]) ?_
        refine next _ ?_
        clear HS2
        rw [← wl_mod, ← wl_mod m (vn a % 2 ^ (24 * i + kk + 1)), Nat.mod_mod_of_dvd _ (Nat.pow_dvd_pow 2 (by omega)), Nat.mod_mod_of_dvd _ (Nat.pow_dvd_pow 2 (by omega))]
    · refine Ev.congr (fun k => by rw [if_neg (by omega)]) ?_
      refine Ev.step (fun k => by rw [cleromancyref01_ToWords.j2, if_neg (by decide)]) ?_
      refine next _ ?_
      rw [HS.out, HB.out, show (rd a (i : Int)).toNat / 2 ^ kk % 2 = 0 from by omega, Nat.mul_zero, Nat.add_zero]
theorem towords_l0 (a : List Int) (ha : Dg a) (hl : a.length ≤ 1000000) (m : Nat) (hm : m ≤ 1000000) : ∀ (r i : Nat), i + r = a.length → Ev (fun k => cleromancyref01_ToWords.l0 k a (m : Int) (wl m (vn a % 2 ^ (24 * i))) (i : Int)) (wl m (vn a))
  | 0, i, hi => by
    refine Ev.step (f := fun _ => _) (fun k => by rw [cleromancyref01_ToWords.l0, if_neg (by omega)]) ?_
    have h := vn_lt ha
    rw [show (16777216 : Nat) ^ a.length = 2 ^ (24 * i) from by rw [show a.length = i from by omega, Nat.pow_mul]] at h
    rw [Nat.mod_eq_of_lt h]
    exact Ev.now _
  | r + 1, i, hi => by
    refine Ev.step (fun k => by rw [cleromancyref01_ToWords.l0, if_pos (by omega)]) ?_
    exact towords_go a ha hl m hm 24 r i 0 (by omega) (by omega) (fun i' hi' => by subst hi'; exact towords_l0 a ha hl m hm r (i + 1) (by omega))
theorem towords_ev (a : List Int) (ha : Dg a) (hl : a.length ≤ 1000000) (m : Nat) (hm : m ≤ 1000000) : Ev (fun k => cleromancyref01_ToWords.f k a (m : Int)) (wl m (vn a)) := by
  unfold cleromancyref01_ToWords.f
  refine Ev.congr (fun k => by rw [if_pos (by omega), if_pos (by omega), Int.toNat_natCast]) ?_
  have := towords_l0 a ha hl m hm a.length 0 (by omega)
  rw [Nat.mul_zero, Nat.pow_zero, Nat.mod_one, wl_zero] at this
  exact this
/-- A number's words, none of them nought at the end. -/
def nw (n : Nat) : List Int := wl ((bl n + 63) / 64) n
theorem rwords_ev (n : Nat) (hl : (dg n).length ≤ 1000000) : Ev (fun k => cleromancyref02_Words.f k (dg n)) (nw n) := by
  unfold cleromancyref02_Words.f
  have hb : bl n ≤ 24 * (dg n).length := (bl_le _ n).2 (by
    have := vn_lt (dg_Dg n)
    rwa [vn_dg, show (16777216 : Nat) ^ (dg n).length = 2 ^ (24 * (dg n).length) from by rw [Nat.pow_mul]] at this)
  refine Ev.bind (bits_ev n hl) ?_
  have e : wrap64 (Int.tdiv (wrap64 ((bl n : Int) + 63)) 64) = (((bl n + 63) / 64 : Nat) : Int) := by rw [w64 ((bl n : Int) + 63) (by omega) (by omega), Int.tdiv_eq_ediv_of_nonneg (by omega), w64 _ (by omega) (by omega)]; omega
  refine Ev.congr (fun k => by rw [e]) ?_
  refine Ev.bind (towords_ev (dg n) (dg_Dg n) hl _ (by omega)) ?_
  rw [vn_dg]
  exact Ev.now _

end Go.Proofs.Ytjkelnnjfpcapaa.Num
