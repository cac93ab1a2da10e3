/- What the reference's functions on numbers come to, in plain Lean. -/
import Derived.Test.YtjkelnnjfpcapaaNumE
namespace Go.Proofs.Ytjkelnnjfpcapaa.Num
open Go.RowKit Go.Proofs.Ytjkelnnjfpcapaa.PNat Go.Proofs.YtjkelnnjfpcapaaW Go.Proofs.YtjkelnnjfpcapaaW.PrintWords Go.Proofs.YtjkelnnjfpcapaaW.PrintLast Go.Proofs.YtjkelnnjfpcapaaW.PrintMore

/-- Words of 64 bits, the lowest first, as a number. -/
def wv : List Int → Nat
  | [] => 0
  | x :: r => x.toNat + 18446744073709551616 * wv r
def Wd (l : List Int) : Prop := ∀ x ∈ l, 0 ≤ x ∧ x < 18446744073709551616
theorem Wd.rd {l : List Int} (h : Wd l) (i : Int) : 0 ≤ rd l i ∧ rd l i < 18446744073709551616 := by
  unfold PrintWords.rd
  rw [List.getD_eq_getElem?_getD]
  by_cases hi : i.toNat < l.length
  · rw [List.getElem?_eq_getElem hi]; exact h _ (List.getElem_mem hi)
  · rw [List.getElem?_eq_none (by omega)]; decide
theorem wv_drop (l : List Int) (i : Nat) : wv (l.drop i) = (rd l (i : Int)).toNat + 18446744073709551616 * wv (l.drop (i + 1)) := by
  by_cases h : i < l.length
  · rw [drop_rd l i h, wv]
  · rw [rd_out l i (by omega), List.drop_of_length_le (by omega), List.drop_of_length_le (by omega)]; rfl
theorem wv_lt : ∀ {l : List Int}, Wd l → wv l < 2 ^ (64 * l.length)
  | [], _ => by simp [wv]
  | x :: r, h => by
    have h1 := h x List.mem_cons_self
    have h2 := wv_lt (l := r) (fun y hy => h y (List.mem_cons_of_mem _ hy))
    rw [wv, List.length_cons, show 64 * (r.length + 1) = 64 + 64 * r.length from by omega, Nat.pow_add]
    generalize 2 ^ (64 * r.length) = Z at h2 ⊢
    omega
theorem dg_len_bits (n m : Nat) (h : n < 2 ^ m) (k : Nat) (hk : m ≤ 24 * k) : (dg n).length ≤ k := dg_len_le n k (by rw [show (16777216 : Nat) ^ k = 2 ^ (24 * k) from by rw [Nat.pow_mul]]; exact Nat.lt_of_lt_of_le h (Nat.pow_le_pow_right (by omega) hk))
theorem words_go (l : List Int) (hw : Wd l) (hl : l.length ≤ 1000) : ∀ n, n ≤ l.length → Ev (fun k => cleromancyref01_Words.l0 k l (dg (wv (l.drop n))) ((n : Int) - 1)) (dg (wv l))
  | 0, _ => by
    have h1 := wv_lt hw
    refine Ev.step (fun k => by rw [cleromancyref01_Words.l0, if_neg (by omega)]) ?_
    rw [List.drop_zero]
    have h2 := dg_len_bits (wv l) _ h1 (3 * l.length) (by omega)
    refine Ev.bind (trim_ev (dg (wv l)) (dg_Dg _) (by omega)) ?_
    rw [vn_dg]
    exact Ev.now _
  | n + 1, hn => by
    have ih := words_go l hw hl n (by omega)
    have hx := hw.rd (n : Int)
    have e := wv_drop l n
    have h1 : wv (l.drop (n + 1)) < 2 ^ (64 * (l.drop (n + 1)).length) := wv_lt (fun x hx => hw x (List.mem_of_mem_drop hx))
    have h2 := dg_len_bits _ _ h1 (3 * (l.drop (n + 1)).length) (by omega)
    have h2' : (dg (wv (l.drop (n + 1)))).length ≤ 3000 := by rw [List.length_drop] at h2; omega
    have hs := shift_ev (dg (wv (l.drop (n + 1)))) (dg_Dg _) 64 (by omega) (by omega)
    rw [vn_dg] at hs
    have h3 : wv (l.drop (n + 1)) * 2 ^ 64 < 2 ^ (64 * (l.drop (n + 1)).length + 64) := by rw [Nat.pow_add]; exact Nat.mul_lt_mul_of_pos_right h1 (by decide)
    have h4 := dg_len_bits _ _ h3 (3 * (l.drop (n + 1)).length + 3) (by omega)
    have h4' : (dg (wv (l.drop (n + 1)) * 2 ^ 64)).length ≤ 4000 := by rw [List.length_drop] at h4; omega
    clear h1 h2 h3 h4
    refine Ev.step (fun k => by rw [cleromancyref01_Words.l0, show ((n + 1 : Nat) : Int) - 1 = (n : Int) from by omega, if_pos (by omega), if_pos (by omega), if_pos (by omega)]) ?_
    refine Ev.bind hs ?_
    generalize rd l (n : Int) = x at hx e ⊢
    have e1 : wrap64 (Int.tmod x 16777216) = x % 16777216 := by rw [Int.tmod_eq_emod_of_nonneg hx.1, w64 _ (by omega) (by omega)]
    have e2 : wrap64 (Int.tmod (IntKind.u64.wrap (Int.tdiv x 16777216)) 16777216) = x / 16777216 % 16777216 := by rw [Int.tdiv_eq_ediv_of_nonneg hx.1, IntWalk.u64_in _ (by omega), Int.tmod_eq_emod_of_nonneg (by omega), w64 _ (by omega) (by omega)]
    have e3 : wrap64 (IntKind.u64.wrap (Int.tdiv x 281474976710656)) = x / 281474976710656 := by rw [Int.tdiv_eq_ediv_of_nonneg hx.1, IntWalk.u64_in _ (by omega), w64 _ (by omega) (by omega)]
    refine Ev.congr (fun k => by rw [e1, e2, e3]) ?_
    clear e1 e2 e3
    have hd : Dg [x % 16777216, x / 16777216 % 16777216, x / 281474976710656] := Dg.cons (by omega) (Dg.cons (by omega) (Dg.cons (by omega) Dg.nil))
    have hv : vn [x % 16777216, x / 16777216 % 16777216, x / 281474976710656] = x.toNat := by simp only [vn]; omega
    have ha := add_ev (dg (wv (l.drop (n + 1)) * 2 ^ 64)) [x % 16777216, x / 16777216 % 16777216, x / 281474976710656] (dg_Dg _) hd (by omega) (by simp)
    rw [vn_dg, hv, show wv (l.drop (n + 1)) * 2 ^ 64 + x.toNat = wv (l.drop n) from by rw [e]; omega] at ha
    refine Ev.bind ha ?_
    refine Ev.congr (fun k => by rw [w64 _ (by omega) (by omega)]) ?_
    exact ih
theorem words_ev (l : List Int) (hw : Wd l) (hl : l.length ≤ 1000) : Ev (fun k => cleromancyref01_Words.f k l) (dg (wv l)) := by
  have := words_go l hw hl l.length (Nat.le_refl _)
  rw [List.drop_length, wv, dg_zero] at this
  unfold cleromancyref01_Words.f
  rw [w64 _ (by omega) (by omega)]
  exact this

/-- Bytes, the highest first, as a number. -/
def bv (l : List Int) : Nat := l.foldl (fun n x => 256 * n + x.toNat) 0
def By (l : List Int) : Prop := ∀ x ∈ l, 0 ≤ x ∧ x < 256
theorem bv_snoc (l : List Int) (x : Int) : bv (l ++ [x]) = 256 * bv l + x.toNat := by simp [bv, List.foldl_append]
theorem By.rd {l : List Int} (h : By l) (i : Int) : 0 ≤ rd l i ∧ rd l i < 256 := by
  unfold PrintWords.rd
  rw [List.getD_eq_getElem?_getD]
  by_cases hi : i.toNat < l.length
  · rw [List.getElem?_eq_getElem hi]; exact h _ (List.getElem_mem hi)
  · rw [List.getElem?_eq_none (by omega)]; decide
theorem bv_take (l : List Int) (i : Nat) (h : i < l.length) : bv (l.take (i + 1)) = 256 * bv (l.take i) + (rd l (i : Int)).toNat := by rw [take_rd l i h, bv_snoc]
theorem bv_lt (l : List Int) (h : By l) : ∀ i, i ≤ l.length → bv (l.take i) < 2 ^ (8 * i)
  | 0, _ => by simp [bv]
  | i + 1, hi => by
    have := bv_lt l h i (by omega)
    have := h.rd (i : Int)
    rw [bv_take l i (by omega), show 8 * (i + 1) = 8 * i + 8 from by omega, Nat.pow_add]
    generalize 2 ^ (8 * i) = Z at *
    omega
theorem big_go (l : List Int) (hb : By l) (hl : l.length ≤ 100000) : ∀ (r i : Nat), i + r = l.length → Ev (fun k => cleromancyref01_Big.l0 k l (dg (bv (l.take i))) (i : Int)) (dg (bv l))
  | 0, i, hi => by
    refine Ev.step (f := fun _ => _) (fun k => by rw [cleromancyref01_Big.l0, if_neg (by omega)]) ?_
    rw [List.take_of_length_le (by omega)]
    exact Ev.now _
  | r + 1, i, hi => by
    have ih := big_go l hb hl r (i + 1) (by omega)
    rw [bv_take l i (by omega)] at ih
    have hx := hb.rd (i : Int)
    have h1 := bv_lt l hb i (by omega)
    have h2 := dg_len_bits _ _ h1 i (by omega)
    have h3 : bv (l.take i) * 256 < 2 ^ (8 * i + 8) := by rw [Nat.pow_add]; exact Nat.mul_lt_mul_of_pos_right h1 (by decide)
    have h4 := dg_len_bits _ _ h3 (i + 1) (by omega)
    have hs := small_ev (dg (bv (l.take i))) (dg_Dg _) (by omega) 256 (by omega)
    rw [vn_dg] at hs
    clear h1 h3
    refine Ev.step (fun k => by rw [cleromancyref01_Big.l0, if_pos (by omega)]) ?_
    refine Ev.bind hs ?_
    refine Ev.congr (fun k => by rw [if_pos (by omega), w64 (rd l (i : Int)) (by omega) (by omega), w64 ((i : Int) + 1) (by omega) (by omega), natCast_succ']) ?_
    have hi2 := int_ev (rd l (i : Int)).toNat (by omega)
    rw [show (((rd l (i : Int)).toNat : Nat) : Int) = rd l (i : Int) from by omega] at hi2
    refine Ev.bind hi2 ?_
    have h5 := dg_len_small (rd l (i : Int)).toNat (by omega)
    have ha := add_ev (dg (bv (l.take i) * 256)) (dg (rd l (i : Int)).toNat) (dg_Dg _) (dg_Dg _) (by omega) (by omega)
    rw [vn_dg, vn_dg, Nat.mul_comm (bv (l.take i)) 256] at ha
    refine Ev.bind (by rw [Nat.mul_comm]; exact ha) ?_
    exact ih
theorem big_ev (l : List Int) (hb : By l) (hl : l.length ≤ 100000) : Ev (fun k => cleromancyref01_Big.f k l) (dg (bv l)) := by
  have := big_go l hb hl l.length 0 (by omega)
  rw [List.take_zero, show bv [] = 0 from rfl, dg_zero] at this
  exact this

end Go.Proofs.Ytjkelnnjfpcapaa.Num
