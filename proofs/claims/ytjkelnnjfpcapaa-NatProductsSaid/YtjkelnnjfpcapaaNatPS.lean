/- Several texts made one. -/
import Derived.Test.YtjkelnnjfpcapaaNatN
import Derived.Test.YtjkelnnjfpcapaaNatO
section
/- The document's division: what its first guess is worth; the calls that it makes. -/
namespace Go.Proofs.Ytjkelnnjfpcapaa.Num
set_option linter.unusedVariables false
open Go.RowKit Go.Shelf Go.Proofs.Ytjkelnnjfpcapaa.PNat Go.Proofs.YtjkelnnjfpcapaaW Go.Proofs.YtjkelnnjfpcapaaW.PrintWords Go.Proofs.YtjkelnnjfpcapaaW.PrintLast Go.Proofs.YtjkelnnjfpcapaaW.PrintMore

theorem vn_split (l : List Int) (j : Nat) (hj : j ≤ l.length) : vn l = vn (l.take j) + 16777216 ^ j * vn (l.drop j) := by
  have h := vn_append (l.take j) (l.drop j)
  rwa [List.take_append_drop, List.length_take, Nat.min_eq_left hj] at h
theorem vn_take_lt' {l : List Int} (h : Dg l) (j : Nat) (hj : j ≤ l.length) : vn (l.take j) < 16777216 ^ j := by
  have := vn_lt (h.take j)
  rwa [List.length_take, Nat.min_eq_left hj] at this
/-- A guess out of the highest digits. -/
theorem guess {R b Q T t x y : Nat} (hx : x < Q) (hy : y < Q) (hR : R = x + Q * T) (hb : b = y + Q * t) (ht : 0 < t) : T / (t + 1) * b ≤ R ∧ R < (T / t + 1) * b := by
  have h1 := Nat.div_mul_le_self T (t + 1)
  have h2 := Nat.div_add_mod T t
  have h3 := Nat.mod_lt T ht
  have h4 : b ≤ Q * (t + 1) := by rw [hb, Nat.mul_add, Nat.mul_one]; omega
  constructor
  · have a1 := Nat.mul_le_mul_left (T / (t + 1)) h4
    have a2 : T / (t + 1) * (Q * (t + 1)) = Q * (T / (t + 1) * (t + 1)) := by grind
    have a3 := Nat.mul_le_mul_left Q h1
    omega
  · have a0 : T + 1 ≤ (T / t + 1) * t := by rw [Nat.add_mul, Nat.one_mul, Nat.mul_comm (T / t) t]; omega
    have a1 := Nat.mul_le_mul_left Q a0
    have a2 : (T / t + 1) * b = (T / t + 1) * y + Q * ((T / t + 1) * t) := by rw [hb]; grind
    rw [Nat.mul_add, Nat.mul_one] at a1
    omega
theorem len_of {n : Nat} (h : n ≠ 0) : 0 < (dg n).length := by rw [dg_pos h]; simp
theorem digits_len {R b : Nat} (hb : b ≠ 0) (hR : R < b * 16777216) : (dg R).length ≤ (dg b).length + 1 := by
  refine dg_len_le R _ ?_
  rw [Nat.pow_succ]
  have := vn_lt (dg_Dg b)
  rw [vn_dg] at this
  exact Nat.lt_of_lt_of_le hR (Nat.mul_le_mul_right _ (by omega))
theorem lead (b : Nat) (hb : b ≠ 0) : ∃ t : Nat, 0 < t ∧ t < 16777216 ∧ rd (dg b) (((dg b).length - 1 : Nat) : Int) = (t : Int) ∧ ∃ y, y < 16777216 ^ ((dg b).length - 1) ∧ b = y + 16777216 ^ ((dg b).length - 1) * t := by
  have h0 := len_of hb
  have h1 := dg_top b hb
  have h2 := (dg_Dg b).rd (((dg b).length - 1 : Nat) : Int)
  have h3 := vn_split (dg b) ((dg b).length - 1) (by omega)
  rw [vn_dg, vn_drop, vn_drop_all _ _ (by omega), Nat.mul_zero, Nat.add_zero] at h3
  exact ⟨_, by omega, by omega, by omega, _, vn_take_lt' (dg_Dg b) _ (by omega), h3⟩
theorem guess_eq {R b : Nat} (hb : b ≠ 0) (hlen : (dg R).length = (dg b).length) (t : Nat) (ht : 0 < t) (hy : ∃ y, y < 16777216 ^ ((dg b).length - 1) ∧ b = y + 16777216 ^ ((dg b).length - 1) * t) : ∃ T : Nat, rd (dg R) (((dg R).length - 1 : Nat) : Int) = (T : Int) ∧ T < 16777216 ∧ T / (t + 1) * b ≤ R ∧ R < (T / t + 1) * b := by
  have h0 := len_of hb
  have h2 := (dg_Dg R).rd (((dg R).length - 1 : Nat) : Int)
  have h3 := vn_split (dg R) ((dg R).length - 1) (by omega)
  rw [vn_dg, vn_drop, vn_drop_all _ _ (by omega), Nat.mul_zero, Nat.add_zero] at h3
  obtain ⟨y, hy1, hy2⟩ := hy
  refine ⟨(rd (dg R) (((dg R).length - 1 : Nat) : Int)).toNat, by omega, by omega, ?_⟩
  have h4 := vn_take_lt' (dg_Dg R) ((dg R).length - 1) (by omega)
  rw [hlen] at h4 h3 ⊢
  exact guess h4 hy1 h3 hy2 ht
theorem guess_gt {R b : Nat} (hb : b ≠ 0) (hlen : (dg R).length = (dg b).length + 1) (t : Nat) (ht : 0 < t) (hy : ∃ y, y < 16777216 ^ ((dg b).length - 1) ∧ b = y + 16777216 ^ ((dg b).length - 1) * t) : ∃ T1 T2 : Nat, rd (dg R) (((dg R).length - 1 : Nat) : Int) = (T1 : Int) ∧ rd (dg R) (((dg R).length - 2 : Nat) : Int) = (T2 : Int) ∧ T1 < 16777216 ∧ T2 < 16777216 ∧ (T1 * 16777216 + T2) / (t + 1) * b ≤ R ∧ R < ((T1 * 16777216 + T2) / t + 1) * b := by
  have h0 := len_of hb
  have h1 := (dg_Dg R).rd (((dg R).length - 1 : Nat) : Int)
  have h2 := (dg_Dg R).rd (((dg R).length - 2 : Nat) : Int)
  have h3 := vn_split (dg R) ((dg R).length - 2) (by omega)
  rw [vn_dg, vn_drop, show (dg R).length - 2 + 1 = (dg R).length - 1 from by omega, vn_drop, vn_drop_all _ _ (by omega), Nat.mul_zero, Nat.add_zero] at h3
  obtain ⟨y, hy1, hy2⟩ := hy
  refine ⟨(rd (dg R) (((dg R).length - 1 : Nat) : Int)).toNat, (rd (dg R) (((dg R).length - 2 : Nat) : Int)).toNat, by omega, by omega, by omega, by omega, ?_⟩
  have h4 := vn_take_lt' (dg_Dg R) ((dg R).length - 2) (by omega)
  rw [hlen] at h4 h3 ⊢
  rw [show (dg b).length + 1 - 2 = (dg b).length - 1 from by omega] at h4 h3 ⊢
  rw [show (dg b).length + 1 - 1 = (dg b).length from by omega] at h3 ⊢
  rw [show ∀ a c : Nat, c + 16777216 * a = a * 16777216 + c from fun a c => by omega] at h3
  exact guess h4 hy1 h3 hy2 ht
theorem mulmono {b x y : Nat} (h1 : x * b < y * b) : x < y := Nat.lt_of_mul_lt_mul_right h1

theorem C_but {W W' : World} {A : Option Addr} {n g : Nat} {l : List Int} (h : Kd.C (Kd.int .i64) W A n l) (hf : ∀ ad, A = some ad → 0 < n → ad.block ≠ g) (hk : Kept W W' (fun k => k = g)) : Kd.C (Kd.int .i64) W' A n l :=
  Kd.C_keep (enc := Value.int .i64) (h1 := fun _ => rfl) (0 : Int) h ⟨hk.1, fun i hi hg _ => hk.2 i hi hg⟩ hf
/-- New digits, and where they lie. -/
def GotF (w0 : World) (l : List Int) (e : Ending) (w' : World) : Prop :=
  ∃ A c, e = .returned (.slice A l.length c) ∧ l.length ≤ c ∧ Kd.C (Kd.int .i64) w' A l.length l ∧ (∀ ad, A = some ad → w0.heap.size ≤ ad.block) ∧ Below w0.heap.size w0 w'
theorem GotF.of {t : Nat} {w0 w' : World} {l : List Int} {e : Ending} {ok : Nat → Prop} (h : ∃ v0_ : Value, e = .returned (v0_) ∧ Kd.R (Kd.int .i64) t w' w0.heap.size ok v0_ l ∧ Below w0.heap.size w0 w') : GotF w0 l e w' := by
  obtain ⟨v, rfl, hR, hB⟩ := h
  obtain ⟨A, c, rfl⟩ := Kd.R_slice hR
  have h2 := Kd.R_reads' hR
  exact ⟨A, c, rfl, h2.2.1, h2.2.2, fun ad h => Kd.R_base hR ad.block (by rw [h]; rfl), hB⟩
theorem rtrim_calls (v : Value) (l : List Int) (hd : Dg l) (hl : l.length ≤ 1000000) (w0 w : World) (hB : Below w0.heap.size w0 w) (ho : Kd.R (Kd.int .i64) 3 w w0.heap.size (fun _ => True) v l) :
    Calls Try.prog 48 #[v] w (GotF w0 (dg (vn l))) := by
  obtain ⟨K, hK⟩ := trim_ev l hd hl
  refine (cleromancyref01_Trim.calls K (fun _ => True) v l _ w0 w hB ho (hK K (Nat.le_refl _))).mono ?_
  rintro e w' ⟨v0, rfl, hR, hb, _⟩
  exact GotF.of ⟨v0, rfl, hR, hb⟩
theorem rtrim_own (g n c : Nat) (l : List Int) (hd : Dg l) (hl : l.length ≤ 1000000) (w0 w : World) (hB : Below w0.heap.size w0 w) (ho : Kd.R (Kd.int .i64) 3 w w0.heap.size (fun _ => True) (.slice (some ⟨g, 0, none⟩) n c) l) :
    Calls Try.prog 48 #[.slice (some ⟨g, 0, none⟩) n c] w fun e w' => GotF w0 (dg (vn l)) e w' ∧ Kept w w' (fun k => k = g) := by
  obtain ⟨K, hK⟩ := trim_ev l hd hl
  have ho2 : Kd.R (Kd.int .i64) 3 w w0.heap.size (fun k => k = g) (.slice (some ⟨g, 0, none⟩) n c) l := Kd.R_of_own (enc := Value.int .i64) (h1 := fun _ => rfl) (Kd.own_of_R ho) (fun k hk => by simp [Value.ownBlock] at hk; exact hk.symm)
  refine (cleromancyref01_Trim.calls K (fun k => k = g) _ l _ w0 w hB ho2 (hK K (Nat.le_refl _))).mono ?_
  rintro e w' ⟨v0, rfl, hR, hb, hk⟩
  exact ⟨GotF.of ⟨v0, rfl, hR, hb⟩, hk⟩
theorem rsubf_calls (A0 : Option Addr) (n0 c0 : Nat) (m : Nat) (hn0 : (dg m).length = n0) (A1 : Option Addr) (n1 c1 : Nat) (n : Nat) (hn1 : (dg n).length = n1) (hle : n ≤ m) (w : World) (hr0 : Kd.C (Kd.int .i64) w A0 (dg m).length (dg m)) (hc0 : n0 ≤ c0) (hr1 : Kd.C (Kd.int .i64) w A1 (dg n).length (dg n)) (hc1 : n1 ≤ c1) (hl : n0 ≤ 1000000) :
    Calls Try.prog 27 #[.slice A0 n0 c0, .slice A1 n1 c1] w (GotF w (dg (m - n))) := by
  subst hn0 hn1
  obtain ⟨K, hK⟩ := sub_ev m n hle hl
  exact (cleromancyref01_Sub.calls K A0 c0 _ A1 c1 _ _ w hr0 hc0 hr1 hc1 (hK K (Nat.le_refl _))).mono fun e w' h => GotF.of h
theorem rsmall_calls (A0 : Option Addr) (n0 c0 : Nat) (n : Nat) (hn0 : (dg n).length = n0) (m : Nat) (hm : m ≤ 9223372036854775807) (w : World) (hr0 : Kd.C (Kd.int .i64) w A0 (dg n).length (dg n)) (hc0 : n0 ≤ c0) (hl : n0 ≤ 999000) :
    Calls Try.prog 45 #[.slice A0 n0 c0, .int .i64 m] w (Got .i64 w (dg (n * m))) := by
  subst hn0
  obtain ⟨K, hK⟩ := small_ev (dg n) (dg_Dg n) hl m hm
  rw [vn_dg] at hK
  exact (cleromancyref01_Small.calls K A0 c0 _ _ _ w hr0 hc0 (hK K (Nat.le_refl _))).mono fun e w' h => Got.of h
theorem R_stay {d : Kd Int} {e base : Nat} {W w1 : World} {u : Value} {xs : List Int} (hu : Kd.R d e W base (fun _ => True) u xs) (hb : Below W.heap.size W w1) : Kd.R d e w1 base (fun _ => True) u xs :=
  Kd.R_mono (Kd.R_move (Kd.R_bound hu) (fun k hk => hb.block k hk.2.2.1)) (fun _ _ => trivial)
theorem dd_step {a R b q V : Nat} (hb : 0 < b) (ha : a < 16777216) (hR : R < b) (hV : V = q * b + R) : (a + 16777216 * R) / b < 16777216 ∧ a + 16777216 * V = ((a + 16777216 * R) / b + 16777216 * q) * b + (a + 16777216 * R) % b := by
  have e1 := Nat.div_add_mod (a + 16777216 * R) b
  refine ⟨Nat.div_lt_of_lt_mul (by rw [Nat.mul_comm]; omega), ?_⟩
  have e2 : ((a + 16777216 * R) / b + 16777216 * q) * b = b * ((a + 16777216 * R) / b) + 16777216 * (q * b) := by
    generalize (a + 16777216 * R) / b = X
    grind
  rw [e2, hV]
  generalize b * ((a + 16777216 * R) / b) = X at *
  generalize q * b = Y at *
  omega
end Go.Proofs.Ytjkelnnjfpcapaa.Num
end
section
/- The document's division, digit by digit (laid by wip/gen/digits.py). -/
namespace Go.Proofs.Ytjkelnnjfpcapaa.Num
set_option linter.unusedVariables false
open Go.RowKit Go.Shelf Go.Proofs.Ytjkelnnjfpcapaa.PNat Go.Proofs.YtjkelnnjfpcapaaW Go.Proofs.YtjkelnnjfpcapaaW.PrintWords Go.Proofs.YtjkelnnjfpcapaaW.PrintLast Go.Proofs.YtjkelnnjfpcapaaW.PrintMore

theorem made_RI (W : World) (base m : Nat) (hb : base ≤ W.heap.size) (hm : m ≤ 9223372036854775807) :
    (Kd.int .i64).R 3 (W.alloc (.cells (madeCells #[.int .i64 0] m) 3)) base (fun _ => True) (.slice (some ⟨W.heap.size, 0, none⟩) m m) (List.replicate m 0) :=
  Kd.R_of_own (by rw [List.length_replicate]; exact own_made W base 3 .i64 m hb hm) (fun _ _ => trivial)
theorem lit1_own (W : World) (base : Nat) (hb : base ≤ W.heap.size) (x : Int) : (W.alloc (.cells #[.int .i64 x] 3)).ownsRow base 3 1 (.slice (some ⟨W.heap.size, 0, none⟩) 1 1) [x].length (nums .i64 [x]) := own_lit W base 3 .i64 [x] hb (by simp)
theorem C_readsI {w : World} {A : Option Addr} {xs : List Int} (h : Kd.C (Kd.int .i64) w A xs.length xs) : ReadsInt w .i64 A xs.length xs :=
  ⟨rfl, h.2.1, fun hp => by
    obtain ⟨ad, e, _⟩ := Kd.at_int h 0 (by omega) (by omega)
    subst e
    refine ⟨ad, rfl, fun j hj => ?_⟩
    obtain ⟨ad', e, hc⟩ := Kd.at_int h (j : Int) (by omega) (by omega)
    cases e
    rw [Int.toNat_natCast] at hc
    rw [hc]
    simp [rd]⟩
/-- Two rows of digits. -/
def GotQR (w : World) (q r : Nat) (e : Ending) (w' : World) : Prop :=
  ∃ A c B d, e = .returned (.tuple #[.slice A (dg q).length c, .slice B (dg r).length d]) ∧ (dg q).length ≤ c ∧ (dg r).length ≤ d ∧ Kd.C (Kd.int .i64) w' A (dg q).length (dg q) ∧ Kd.C (Kd.int .i64) w' B (dg r).length (dg r) ∧ Below w.heap.size w w'
set_option maxHeartbeats 6400000 in
set_option maxRecDepth 100000 in
theorem digits_calls (A0 : Option Addr) (n0 c0 : Nat) (l0 : List Int) (hn0 : l0.length = n0) (hd0 : Dg l0) (A1 : Option Addr) (n1 c1 : Nat) (b : Nat) (hb : b ≠ 0) (hn1 : (dg b).length = n1) (w : World) (hr0 : Kd.C (Kd.int .i64) w A0 l0.length l0) (hr1 : Kd.C (Kd.int .i64) w A1 (dg b).length (dg b)) (hc0 : n0 ≤ c0) (hc1 : n1 ≤ c1) (hl0 : n0 ≤ 100000) (hl1 : n1 ≤ 100000) :
    Calls Try.prog 55 #[.slice A0 n0 c0, .slice A1 n1 c1] w (GotQR w (vn l0 / b) (vn l0 % b)) := by
  obtain ⟨t, ht0, ht1, hrt, hy⟩ := lead b hb
  have hpos : 0 < n1 := by rw [← hn1]; exact len_of hb
  have HR0 := Aside0.mk hr0
  have HR1 := Aside0.mk hr1
  have HD0 := Aside0.mk hd0
  have HN0 := Aside0.mk hn0
  have HN1 := Aside0.mk hn1
  have HBn := Aside0.mk hb
  have HRT := Aside0.mk hrt
  have HY := Aside0.mk hy
  clear hr0 hr1 hd0 hn0 hn1 hrt hy
  have hmk := print_make (P := Try.prog) 28 3 .i64 8 Try.underlying28 info3 (by decide) n0 (by omega)
  have hb0 : 0 < b := by omega
  clear hb
  go_enter Try.func55, Try.ntmps55
  go_wp2
  go_loopw [6, 8] (fun v6 v8 wr => ∃ (k R : Nat) (q : List Int) (A6 : Option Addr) (c6 : Nat), k + q.length = n0 ∧ v8 = .int .i64 ((k : Int) - 1) ∧ v6 = .slice A6 (dg R).length c6 ∧ (dg R).length ≤ c6 ∧ R < b ∧ w.heap.size < wr.heap.size ∧
      Aside0 (Dg q ∧ vn (l0.drop k) = vn q * b + R) ∧ Aside0 ((Kd.int .i64).R 3 wr w.heap.size (fun _ => True) (.slice (some ⟨w.heap.size, 0, none⟩) n0 n0) (List.replicate k 0 ++ q)) ∧ Aside0 (Kd.C (Kd.int .i64) wr A6 (dg R).length (dg R) ∧ ∀ ad, A6 = some ad → 0 < (dg R).length → ad.block ≠ w.heap.size) ∧ Aside0 (Below w.heap.size w wr))
    (fun _ v8 _ => (intOf v8 + 1).toNat)
  case atStart => exact ⟨n0, 0, [], none, 0, by simp, rfl, by rw [dg_zero]; rfl, by rw [dg_zero]; simp, hb0, by simp, ⟨Dg.nil, by rw [vn_drop_all _ _ (by have := HN0.out; omega)]; simp [vn]⟩, ⟨by rw [List.append_nil]; exact made_RI w _ _ (Nat.le_refl _) (by omega)⟩, ⟨by rw [dg_zero]; exact ⟨Kd.C_nil _ _, fun _ h => nomatch h⟩⟩, ⟨below_alloc (Below.refl _ _) _⟩⟩
  case round =>
    obtain ⟨k, R, q, A6, c6, hkq, rfl, rfl, hc6, hRb, hhs, HV, HO, HCF, HB⟩ := hrel
    obtain ⟨wo, rfl⟩ : ∃ wo : World, wo = wr := ⟨_, rfl⟩
    have HC := Aside0.mk HCF.out.1
    by_cases hlt : 0 < k
    · obtain ⟨k, rfl⟩ : ∃ m, k = m + 1 := ⟨k - 1, by omega⟩
      rw [show ((k + 1 : Nat) : Int) - 1 = (k : Int) from by push_cast; omega]
      have hC1 := Aside0.mk (Kd.C_below HR1.out HB.out)
      obtain ⟨ad, e, hx0⟩ := Kd.at_int (Kd.C_below HR0.out HB.out) (k : Int) (by omega) (by have := HN0.out; omega)
      subst e
      rw [Int.toNat_natCast] at hx0
      have hx := HD0.out.rd (k : Int)
      have hdr := vn_drop l0 k
      obtain ⟨a, ha⟩ : ∃ a : Nat, rd l0 (k : Int) = (a : Int) := ⟨(rd l0 (k : Int)).toNat, by omega⟩
      rw [ha] at hx0 hx hdr
      rw [Int.toNat_natCast] at hdr
      clear ha
      obtain ⟨S, hS⟩ : ∃ S, S = a + 16777216 * R := ⟨_, rfl⟩
      have hst := dd_step hb0 (show a < 16777216 by omega) hRb HV.out.2
      rw [← hdr, ← hS] at hst
      have hmod := Nat.mod_lt S hb0
      obtain ⟨Q, hQ⟩ : ∃ Q, S / b = Q := ⟨_, rfl⟩
      obtain ⟨M, hM⟩ : ∃ M, S % b = M := ⟨_, rfl⟩
      have hdm := Nat.div_add_mod S b
      rw [hQ, hM] at hst hdm
      rw [hM] at hmod
      have HQQ := Aside0.mk hQ
      have HDM := Aside0.mk hdm
      clear hQ hM hdm
      have hSlt : S < b * 16777216 := by omega
      have hdl : (dg S).length ≤ n1 + 1 := by have := digits_len HBn.out hSlt; have := HN1.out; omega
      have hvn : vn (a :: dg R) = S := by rw [vn, vn_dg, Int.toNat_natCast, hS]
      have hDg : Dg (a :: dg R) := Dg.cons (by omega) (dg_Dg R)
      have hRl : (dg R).length ≤ n1 := by have := dg_len_mono (Nat.le_of_lt hRb); have := HN1.out; omega
      have HST : Aside0 (Dg (((Q : Nat) : Int) :: q) ∧ vn (l0.drop k) = vn (((Q : Nat) : Int) :: q) * b + M) := ⟨Dg.cons ⟨Int.natCast_nonneg _, Int.ofNat_lt.2 hst.1⟩ HV.out.1, by rw [vn, Int.toNat_natCast]; exact hst.2⟩
      have hq24 := hst.1
      have HVN := Aside0.mk hvn
      have HDG := Aside0.mk hDg
      have HBr0 := Aside0.mk (below_alloc (Below.refl wo.heap.size wo) (.cells #[.int .i64 (a : Int)] 3))
      have HOL := Aside0.mk (lit1_own wo wo.heap.size (Nat.le_refl _) (a : Int))
      have HRI := Aside0.mk (C_readsI (Kd.C_alloc HC.out (.cells #[.int .i64 (a : Int)] 3)))
      have HSLT := Aside0.mk hSlt
      clear hst hvn hDg hS hdr hSlt
      obtain ⟨adb, eb, hxb⟩ := Kd.at_int hC1.out (((dg b).length - 1 : Nat) : Int) (by omega) (by have := HN1.out; omega)
      subst eb
      rw [Int.toNat_natCast, HRT.out, HN1.out] at hxb
      by_cases hcs : (dg S).length < n1
      · have hSb : S < b := by
          by_cases h : S < b
          · exact h
          · have := dg_len_mono (Nat.le_of_not_lt h); have := HN1.out; omega
        go_wp2_with (first
          | (at_builtin; refine print_append_row (w0 := wo) wo.heap.size rfl _ _ 28 3 .i64 8 rfl Try.underlying28 info3 (by decide) _ [(a : Int)] (dg R) A6 (dg R).length c6 rfl rfl HOL.out HRI.out HBr0.out (by simp) (by simp; omega) ?_; intro v1 w1 ho1 hb1 hg1 hat1; have HO1 := Aside0.mk (Kd.R_of_own (enc := Value.int .i64) (h1 := fun _ => rfl) (ok := fun _ => True) ho1 (fun _ _ => trivial)); have HB1 := Aside0.mk hb1; clear ho1 hb1 hg1 hat1; obtain ⟨AX, cX, eX⟩ := Kd.R_slice HO1.out; subst eX; have HO2 : Aside0 (Kd.R (Kd.int .i64) 3 w1 wo.heap.size (fun _ => True) (.slice AX ((dg R).length + 1) cX) ((a : Int) :: dg R)) := ⟨HO1.out⟩; clear HO1)
          | (go_at_call 48; (with_reducible refine (rtrim_calls _ ((a : Int) :: dg R) HDG.out (by simp; omega) wo w1 HB1.out HO2.out).mono ?_); rw [HVN.out]; rintro e w2 ⟨A2, c2, rfl, h2, h3, hf2, h4⟩; have HS := Aside0.mk h3; have HF2 : Aside0 (∀ ad, A2 = some ad → 0 < (dg S).length → ad.block ≠ w.heap.size) := ⟨fun ad he _ => by have := hf2 ad he; omega⟩; clear hf2; have HB2 := Aside0.mk h4; have hxb2 := (h4.cell (World.block_lt_of_cell? _ _ hxb)).trans hxb; clear h3 h4)
          | fail)
        go_loopw [10, 11] (fun v10 v11 wr => ∃ (lo hi : Nat), v10 = .int .i64 lo ∧ v11 = .int .i64 hi ∧ lo < hi ∧ hi ≤ 16777216 ∧ Aside0 (lo * b ≤ S ∧ S < hi * b) ∧ Aside0 (Below wo.heap.size wo wr) ∧ Aside0 (Kd.C (Kd.int .i64) wr A2 (dg S).length (dg S)))
          (fun v10 v11 _ => (intOf v11 - intOf v10).toNat)
        case atStart => exact ⟨0, 1, rfl, rfl, by omega, by omega, ⟨by omega, by omega⟩, HB2, HS⟩
        case round =>
          obtain ⟨lo, hi, rfl, rfl, hlh, hh, HI, HBi, HCi⟩ := hrel
          by_cases hgo : lo + 1 < hi
          · obtain ⟨m, hm⟩ : ∃ m : Nat, m = (lo + hi) / 2 := ⟨_, rfl⟩
            have em : ((lo : Int) + (hi : Int)) / 2 = (m : Int) := by omega
            have hm1 : lo < m ∧ m < hi := by omega
            clear hm
            have hCb := Aside0.mk (Kd.C_below hC1.out HBi.out)
            have hlen : (dg (b * m)).length ≤ n1 + 1 := by
              have := digits_len (R := b * m) HBn.out (Nat.mul_lt_mul_of_pos_left (by omega) hb0)
              have := HN1.out
              omega
            by_cases hle : b * m ≤ S
            · have hcm : cmp (b * m) S ≤ 0 := by rw [cmp]; split <;> (try split) <;> omega
              have hHI : Aside0 (m * b ≤ S ∧ S < hi * b) := ⟨by rw [Nat.mul_comm]; exact hle, HI.out.2⟩
              clear hle
              go_wp2_with (first
                | (go_at_call 45; (with_reducible refine (rsmall_calls _ n1 c1 b HN1.out m (by omega) _ hCb.out hc1 (by omega)).mono ?_); rintro e w3 ⟨A3, c3, rfl, h5, h6, h7⟩; have HM := Aside0.mk h6; have HCi3 := Aside0.mk (Kd.C_below HCi.out h7); have HBi3 := Aside0.mk (below_step HBi.out h7); clear h6 h7)
                | (go_at_call 26; (with_reducible refine (rcmp_calls A3 _ c3 (b * m) rfl A2 _ c2 S rfl _ HM.out h5 HCi3.out h2 (by omega)).mono ?_); rintro e w4 ⟨rfl, h8⟩; have HCi4 := Aside0.mk (Kd.C_below HCi3.out h8); have HBi4 := Aside0.mk (below_step HBi3.out h8); clear h8)
                | fail)
              go_roundw
              case rel => exact ⟨m, hi, rfl, rfl, hm1.2, hh, hHI, HBi4, HCi4⟩
              case measure => simp [intOf]; omega
            · have hcm : 0 < cmp (b * m) S := by rw [cmp, if_neg (by omega), if_pos (by omega)]; decide
              have hHI : Aside0 (lo * b ≤ S ∧ S < m * b) := ⟨HI.out.1, by rw [Nat.mul_comm m b]; omega⟩
              clear hle
              go_wp2_with (first
                | (go_at_call 45; (with_reducible refine (rsmall_calls _ n1 c1 b HN1.out m (by omega) _ hCb.out hc1 (by omega)).mono ?_); rintro e w3 ⟨A3, c3, rfl, h5, h6, h7⟩; have HM := Aside0.mk h6; have HCi3 := Aside0.mk (Kd.C_below HCi.out h7); have HBi3 := Aside0.mk (below_step HBi.out h7); clear h6 h7)
                | (go_at_call 26; (with_reducible refine (rcmp_calls A3 _ c3 (b * m) rfl A2 _ c2 S rfl _ HM.out h5 HCi3.out h2 (by omega)).mono ?_); rintro e w4 ⟨rfl, h8⟩; have HCi4 := Aside0.mk (Kd.C_below HCi3.out h8); have HBi4 := Aside0.mk (below_step HBi3.out h8); clear h8)
                | fail)
              go_roundw
              case rel => exact ⟨lo, m, rfl, rfl, hm1.1, by omega, hHI, HBi4, HCi4⟩
              case measure => simp [intOf]; omega
          · obtain rfl : hi = lo + 1 := by omega
            have elo : Q = lo := by
              have h1 := HI.out
              rw [← HQQ.out]
              exact ((Nat.div_eq_iff hb0).2 ⟨h1.1, by rw [Nat.add_mul, Nat.one_mul] at h1; omega⟩)
            subst elo
            have emod : S - b * Q = M := by have := HDM.out; omega
            have hle : b * Q ≤ S := by have := HDM.out; omega
            have HOi := Aside0.mk (R_stay HO.out HBi.out)
            obtain ⟨hcl, hfz⟩ := Kd.R_celln 0 HOi.out (k : Int) (by omega) (by omega)
            rw [Int.toNat_natCast] at hcl hfz
            have hHR := (Kd.R_putg HOi.out (k : Int) ((Q : Nat) : Int)).1
            rw [Int.toNat_natCast, set_back k q _] at hHR
            have HR2 := Aside0.mk hHR
            clear hHR
            have hbl : w.heap.size < wr.heap.size := by have := HBi.out.size; omega
            have HBw : Aside0 (Below w.heap.size w (wr.setCell ⟨w.heap.size, k, none⟩ (.int .i64 ((Q : Nat) : Int)))) := ⟨(below_step HB.out HBi.out).setCell (Nat.le_refl _) _⟩
            have hkeep : ∀ {A : Option Addr} {n : Nat} {xs : List Int}, Kd.C (Kd.int .i64) w A n xs → Kd.C (Kd.int .i64) (wr.setCell ⟨w.heap.size, k, none⟩ (.int .i64 ((Q : Nat) : Int))) A n xs := fun h => Kd.C_below h HBw.out
            have HSc : Aside0 (Kd.C (Kd.int .i64) (wr.setCell ⟨w.heap.size, k, none⟩ (.int .i64 ((Q : Nat) : Int))) A2 (dg S).length (dg S)) := ⟨C_but HCi.out HF2.out (Kept.setCell (S := fun k => k = w.heap.size) (Kept.refl _ _) (.inl rfl) _)⟩
            have hCb := Aside0.mk (hkeep HR1.out)
            have hlen : (dg (b * Q)).length ≤ n1 + 1 := Nat.le_trans (dg_len_mono hle) hdl
            have HEM := Aside0.mk emod
            have HLE := Aside0.mk hle
            clear emod hle hkeep
            go_wp2_with (first
              | (go_at_call 45; (with_reducible refine (rsmall_calls _ n1 c1 b HN1.out Q (by omega) _ hCb.out hc1 (by omega)).mono ?_); rintro e w3 ⟨A3, c3, rfl, h5, h6, h7⟩; have HM := Aside0.mk h6; have HSc3 := Aside0.mk (Kd.C_below HSc.out h7); have HBw3 := Aside0.mk (below_step HBw.out h7); have HR3 := Aside0.mk (R_stay HR2.out h7); have hsz3 := h7.size; clear h6 h7)
              | (go_at_call 27; (with_reducible refine (rsubf_calls A2 _ c2 S rfl A3 _ c3 (b * Q) rfl HLE.out _ HSc3.out h2 HM.out h5 (by omega)).mono ?_); rw [HEM.out]; rintro e w4 ⟨A4, c4, rfl, h8, h9, hf4, h10⟩; have HN : Aside0 (Kd.C (Kd.int .i64) w4 A4 (dg M).length (dg M) ∧ ∀ ad, A4 = some ad → 0 < (dg M).length → ad.block ≠ w.heap.size) := ⟨h9, fun ad he _ => by have := hf4 ad he; simp [World.setCell] at hsz3; omega⟩; clear hf4; have HBw4 := Aside0.mk (below_step HBw3.out h10); have HR4 := Aside0.mk (R_stay HR3.out h10); have hsz4 := h10.size; clear h9 h10)
              | fail)
            go_roundw
            case rel => exact ⟨k, M, ((Q : Nat) : Int) :: q, A4, c4, by simp; omega, rfl, rfl, h8, hmod, by simp [World.setCell] at hsz3; omega, HST, HR4, HN, HBw4⟩
            case measure => simp [intOf]
      · by_cases hgt : n1 < (dg S).length
        · obtain ⟨T1, T2, hT1, hT2, hT1l, hT2l, hG⟩ := guess_gt (R := S) HBn.out (by have := HN1.out; omega) t ht0 HY.out
          have HT := Aside0.mk hT1
          have HT2 := Aside0.mk hT2
          clear hT1 hT2
          obtain ⟨top, htop⟩ : ∃ top : Nat, (T1 * 16777216 + T2) = top := ⟨_, rfl⟩
          rw [htop] at hG
          have etop : (T1 : Int) * 16777216 + (T2 : Int) = (top : Int) := by omega
          have htl : top ≤ 562949953421311 := by omega
          obtain ⟨g1, hg1⟩ : ∃ g : Nat, g = top / (t + 1) := ⟨_, rfl⟩
          obtain ⟨g2, hg2⟩ : ∃ g : Nat, g = top / t := ⟨_, rfl⟩
          have eg1 : (top : Int) / ((t : Int) + 1) = (g1 : Int) := by rw [hg1, Int.natCast_ediv]; first | done | rfl
          have eg2 : (top : Int) / (t : Int) = (g2 : Int) := by rw [hg2, Int.natCast_ediv]
          rw [← hg1, ← hg2] at hG
          have hg1le : g1 < 16777216 := mulmono (b := b) (by have := HSLT.out; have := Nat.mul_comm b 16777216; omega)
          have hg12 : g1 < g2 + 1 := mulmono (b := b) (by omega)
          have hg2le : g2 ≤ 562949953421312 := by rw [hg2]; exact Nat.le_trans (Nat.div_le_self _ _) (by omega)
          have HG := Aside0.mk hG
          clear hG hg1 hg2 htop
          obtain ⟨h1, eh1⟩ : ∃ h : Nat, (g2 : Int) + 1 = (h : Int) := ⟨g2 + 1, by omega⟩
          have hh1 : h1 ≤ 562949953421313 := by omega
          have hgh : g1 < h1 := by omega
          have HG2 : Aside0 (g1 * b ≤ S ∧ S < h1 * b) := ⟨by rw [show h1 = g2 + 1 from by omega]; exact HG.out⟩
          clear HG hg12 hg2le
          by_cases hcap : 16777216 < (h1 : Int)
          · have hdec : decide (16777216 < (h1 : Int)) = true := decide_eq_true hcap
            clear hcap
            go_wp2_with (first
              | (at_builtin; refine print_append_row (w0 := wo) wo.heap.size rfl _ _ 28 3 .i64 8 rfl Try.underlying28 info3 (by decide) _ [(a : Int)] (dg R) A6 (dg R).length c6 rfl rfl HOL.out HRI.out HBr0.out (by simp) (by simp; omega) ?_; intro v1 w1 ho1 hb1 hg1 hat1; have HO1 := Aside0.mk (Kd.R_of_own (enc := Value.int .i64) (h1 := fun _ => rfl) (ok := fun _ => True) ho1 (fun _ _ => trivial)); have HB1 := Aside0.mk hb1; clear ho1 hb1 hg1 hat1; obtain ⟨AX, cX, eX⟩ := Kd.R_slice HO1.out; subst eX; have HO2 : Aside0 (Kd.R (Kd.int .i64) 3 w1 wo.heap.size (fun _ => True) (.slice AX ((dg R).length + 1) cX) ((a : Int) :: dg R)) := ⟨HO1.out⟩; clear HO1)
              | (go_at_call 48; (with_reducible refine (rtrim_calls _ ((a : Int) :: dg R) HDG.out (by simp; omega) wo w1 HB1.out HO2.out).mono ?_); rw [HVN.out]; rintro e w2 ⟨A2, c2, rfl, h2, h3, hf2, h4⟩; have HS := Aside0.mk h3; have HF2 : Aside0 (∀ ad, A2 = some ad → 0 < (dg S).length → ad.block ≠ w.heap.size) := ⟨fun ad he _ => by have := hf2 ad he; omega⟩; clear hf2; have HB2 := Aside0.mk h4; have hxb2 := (h4.cell (World.block_lt_of_cell? _ _ hxb)).trans hxb; clear h3 h4; obtain ⟨ad2, e2, hx2⟩ := Kd.at_int HS.out (((dg S).length - 1 : Nat) : Int) (by omega) (by omega); subst e2; obtain ⟨ad3, e3, hx3⟩ := Kd.at_int HS.out (((dg S).length - 2 : Nat) : Int) (by omega) (by omega); cases e3; rw [Int.toNat_natCast, HT.out] at hx2; rw [Int.toNat_natCast, HT2.out] at hx3)
              | fail)
            go_loopw [10, 11] (fun v10 v11 wr => ∃ (lo hi : Nat), v10 = .int .i64 lo ∧ v11 = .int .i64 hi ∧ lo < hi ∧ hi ≤ 16777216 ∧ Aside0 (lo * b ≤ S ∧ S < hi * b) ∧ Aside0 (Below wo.heap.size wo wr) ∧ Aside0 (Kd.C (Kd.int .i64) wr (some ad2) (dg S).length (dg S)))
              (fun v10 v11 _ => (intOf v11 - intOf v10).toNat)
            case atStart => exact ⟨g1, 16777216, rfl, rfl, hg1le, Nat.le_refl _, ⟨HG2.out.1, by have := HSLT.out; rw [Nat.mul_comm]; exact this⟩, HB2, HS⟩
            case round =>
              obtain ⟨lo, hi, rfl, rfl, hlh, hh, HI, HBi, HCi⟩ := hrel
              by_cases hgo : lo + 1 < hi
              · obtain ⟨m, hm⟩ : ∃ m : Nat, m = (lo + hi) / 2 := ⟨_, rfl⟩
                have em : ((lo : Int) + (hi : Int)) / 2 = (m : Int) := by omega
                have hm1 : lo < m ∧ m < hi := by omega
                clear hm
                have hCb := Aside0.mk (Kd.C_below hC1.out HBi.out)
                have hlen : (dg (b * m)).length ≤ n1 + 1 := by
                  have := digits_len (R := b * m) HBn.out (Nat.mul_lt_mul_of_pos_left (by omega) hb0)
                  have := HN1.out
                  omega
                by_cases hle : b * m ≤ S
                · have hcm : cmp (b * m) S ≤ 0 := by rw [cmp]; split <;> (try split) <;> omega
                  have hHI : Aside0 (m * b ≤ S ∧ S < hi * b) := ⟨by rw [Nat.mul_comm]; exact hle, HI.out.2⟩
                  clear hle
                  go_wp2_with (first
                    | (go_at_call 45; (with_reducible refine (rsmall_calls _ n1 c1 b HN1.out m (by omega) _ hCb.out hc1 (by omega)).mono ?_); rintro e w3 ⟨A3, c3, rfl, h5, h6, h7⟩; have HM := Aside0.mk h6; have HCi3 := Aside0.mk (Kd.C_below HCi.out h7); have HBi3 := Aside0.mk (below_step HBi.out h7); clear h6 h7)
                    | (go_at_call 26; (with_reducible refine (rcmp_calls A3 _ c3 (b * m) rfl (some ad2) _ c2 S rfl _ HM.out h5 HCi3.out h2 (by omega)).mono ?_); rintro e w4 ⟨rfl, h8⟩; have HCi4 := Aside0.mk (Kd.C_below HCi3.out h8); have HBi4 := Aside0.mk (below_step HBi3.out h8); clear h8)
                    | fail)
                  go_roundw
                  case rel => exact ⟨m, hi, rfl, rfl, hm1.2, hh, hHI, HBi4, HCi4⟩
                  case measure => simp [intOf]; omega
                · have hcm : 0 < cmp (b * m) S := by rw [cmp, if_neg (by omega), if_pos (by omega)]; decide
                  have hHI : Aside0 (lo * b ≤ S ∧ S < m * b) := ⟨HI.out.1, by rw [Nat.mul_comm m b]; omega⟩
                  clear hle
                  go_wp2_with (first
                    | (go_at_call 45; (with_reducible refine (rsmall_calls _ n1 c1 b HN1.out m (by omega) _ hCb.out hc1 (by omega)).mono ?_); rintro e w3 ⟨A3, c3, rfl, h5, h6, h7⟩; have HM := Aside0.mk h6; have HCi3 := Aside0.mk (Kd.C_below HCi.out h7); have HBi3 := Aside0.mk (below_step HBi.out h7); clear h6 h7)
                    | (go_at_call 26; (with_reducible refine (rcmp_calls A3 _ c3 (b * m) rfl (some ad2) _ c2 S rfl _ HM.out h5 HCi3.out h2 (by omega)).mono ?_); rintro e w4 ⟨rfl, h8⟩; have HCi4 := Aside0.mk (Kd.C_below HCi3.out h8); have HBi4 := Aside0.mk (below_step HBi3.out h8); clear h8)
                    | fail)
                  go_roundw
                  case rel => exact ⟨lo, m, rfl, rfl, hm1.1, by omega, hHI, HBi4, HCi4⟩
                  case measure => simp [intOf]; omega
              · obtain rfl : hi = lo + 1 := by omega
                have elo : Q = lo := by
                  have h1 := HI.out
                  rw [← HQQ.out]
                  exact ((Nat.div_eq_iff hb0).2 ⟨h1.1, by rw [Nat.add_mul, Nat.one_mul] at h1; omega⟩)
                subst elo
                have emod : S - b * Q = M := by have := HDM.out; omega
                have hle : b * Q ≤ S := by have := HDM.out; omega
                have HOi := Aside0.mk (R_stay HO.out HBi.out)
                obtain ⟨hcl, hfz⟩ := Kd.R_celln 0 HOi.out (k : Int) (by omega) (by omega)
                rw [Int.toNat_natCast] at hcl hfz
                have hHR := (Kd.R_putg HOi.out (k : Int) ((Q : Nat) : Int)).1
                rw [Int.toNat_natCast, set_back k q _] at hHR
                have HR2 := Aside0.mk hHR
                clear hHR
                have hbl : w.heap.size < wr.heap.size := by have := HBi.out.size; omega
                have HBw : Aside0 (Below w.heap.size w (wr.setCell ⟨w.heap.size, k, none⟩ (.int .i64 ((Q : Nat) : Int)))) := ⟨(below_step HB.out HBi.out).setCell (Nat.le_refl _) _⟩
                have hkeep : ∀ {A : Option Addr} {n : Nat} {xs : List Int}, Kd.C (Kd.int .i64) w A n xs → Kd.C (Kd.int .i64) (wr.setCell ⟨w.heap.size, k, none⟩ (.int .i64 ((Q : Nat) : Int))) A n xs := fun h => Kd.C_below h HBw.out
                have HSc : Aside0 (Kd.C (Kd.int .i64) (wr.setCell ⟨w.heap.size, k, none⟩ (.int .i64 ((Q : Nat) : Int))) (some ad2) (dg S).length (dg S)) := ⟨C_but HCi.out HF2.out (Kept.setCell (S := fun k => k = w.heap.size) (Kept.refl _ _) (.inl rfl) _)⟩
                have hCb := Aside0.mk (hkeep HR1.out)
                have hlen : (dg (b * Q)).length ≤ n1 + 1 := Nat.le_trans (dg_len_mono hle) hdl
                have HEM := Aside0.mk emod
                have HLE := Aside0.mk hle
                clear emod hle hkeep
                go_wp2_with (first
                  | (go_at_call 45; (with_reducible refine (rsmall_calls _ n1 c1 b HN1.out Q (by omega) _ hCb.out hc1 (by omega)).mono ?_); rintro e w3 ⟨A3, c3, rfl, h5, h6, h7⟩; have HM := Aside0.mk h6; have HSc3 := Aside0.mk (Kd.C_below HSc.out h7); have HBw3 := Aside0.mk (below_step HBw.out h7); have HR3 := Aside0.mk (R_stay HR2.out h7); have hsz3 := h7.size; clear h6 h7)
                  | (go_at_call 27; (with_reducible refine (rsubf_calls (some ad2) _ c2 S rfl A3 _ c3 (b * Q) rfl HLE.out _ HSc3.out h2 HM.out h5 (by omega)).mono ?_); rw [HEM.out]; rintro e w4 ⟨A4, c4, rfl, h8, h9, hf4, h10⟩; have HN : Aside0 (Kd.C (Kd.int .i64) w4 A4 (dg M).length (dg M) ∧ ∀ ad, A4 = some ad → 0 < (dg M).length → ad.block ≠ w.heap.size) := ⟨h9, fun ad he _ => by have := hf4 ad he; simp [World.setCell] at hsz3; omega⟩; clear hf4; have HBw4 := Aside0.mk (below_step HBw3.out h10); have HR4 := Aside0.mk (R_stay HR3.out h10); have hsz4 := h10.size; clear h9 h10)
                  | fail)
                go_roundw
                case rel => exact ⟨k, M, ((Q : Nat) : Int) :: q, A4, c4, by simp; omega, rfl, rfl, h8, hmod, by simp [World.setCell] at hsz3; omega, HST, HR4, HN, HBw4⟩
                case measure => simp [intOf]
          · have hdec : decide (16777216 < (h1 : Int)) = false := decide_eq_false hcap
            have HCAP : Aside0 (h1 ≤ 16777216) := ⟨by omega⟩
            clear hcap
            go_wp2_with (first
              | (at_builtin; refine print_append_row (w0 := wo) wo.heap.size rfl _ _ 28 3 .i64 8 rfl Try.underlying28 info3 (by decide) _ [(a : Int)] (dg R) A6 (dg R).length c6 rfl rfl HOL.out HRI.out HBr0.out (by simp) (by simp; omega) ?_; intro v1 w1 ho1 hb1 hg1 hat1; have HO1 := Aside0.mk (Kd.R_of_own (enc := Value.int .i64) (h1 := fun _ => rfl) (ok := fun _ => True) ho1 (fun _ _ => trivial)); have HB1 := Aside0.mk hb1; clear ho1 hb1 hg1 hat1; obtain ⟨AX, cX, eX⟩ := Kd.R_slice HO1.out; subst eX; have HO2 : Aside0 (Kd.R (Kd.int .i64) 3 w1 wo.heap.size (fun _ => True) (.slice AX ((dg R).length + 1) cX) ((a : Int) :: dg R)) := ⟨HO1.out⟩; clear HO1)
              | (go_at_call 48; (with_reducible refine (rtrim_calls _ ((a : Int) :: dg R) HDG.out (by simp; omega) wo w1 HB1.out HO2.out).mono ?_); rw [HVN.out]; rintro e w2 ⟨A2, c2, rfl, h2, h3, hf2, h4⟩; have HS := Aside0.mk h3; have HF2 : Aside0 (∀ ad, A2 = some ad → 0 < (dg S).length → ad.block ≠ w.heap.size) := ⟨fun ad he _ => by have := hf2 ad he; omega⟩; clear hf2; have HB2 := Aside0.mk h4; have hxb2 := (h4.cell (World.block_lt_of_cell? _ _ hxb)).trans hxb; clear h3 h4; obtain ⟨ad2, e2, hx2⟩ := Kd.at_int HS.out (((dg S).length - 1 : Nat) : Int) (by omega) (by omega); subst e2; obtain ⟨ad3, e3, hx3⟩ := Kd.at_int HS.out (((dg S).length - 2 : Nat) : Int) (by omega) (by omega); cases e3; rw [Int.toNat_natCast, HT.out] at hx2; rw [Int.toNat_natCast, HT2.out] at hx3)
              | fail)
            go_loopw [10, 11] (fun v10 v11 wr => ∃ (lo hi : Nat), v10 = .int .i64 lo ∧ v11 = .int .i64 hi ∧ lo < hi ∧ hi ≤ 16777216 ∧ Aside0 (lo * b ≤ S ∧ S < hi * b) ∧ Aside0 (Below wo.heap.size wo wr) ∧ Aside0 (Kd.C (Kd.int .i64) wr (some ad2) (dg S).length (dg S)))
              (fun v10 v11 _ => (intOf v11 - intOf v10).toNat)
            case atStart => exact ⟨g1, h1, rfl, rfl, hgh, HCAP.out, HG2, HB2, HS⟩
            case round =>
              obtain ⟨lo, hi, rfl, rfl, hlh, hh, HI, HBi, HCi⟩ := hrel
              by_cases hgo : lo + 1 < hi
              · obtain ⟨m, hm⟩ : ∃ m : Nat, m = (lo + hi) / 2 := ⟨_, rfl⟩
                have em : ((lo : Int) + (hi : Int)) / 2 = (m : Int) := by omega
                have hm1 : lo < m ∧ m < hi := by omega
                clear hm
                have hCb := Aside0.mk (Kd.C_below hC1.out HBi.out)
                have hlen : (dg (b * m)).length ≤ n1 + 1 := by
                  have := digits_len (R := b * m) HBn.out (Nat.mul_lt_mul_of_pos_left (by omega) hb0)
                  have := HN1.out
                  omega
                by_cases hle : b * m ≤ S
                · have hcm : cmp (b * m) S ≤ 0 := by rw [cmp]; split <;> (try split) <;> omega
                  have hHI : Aside0 (m * b ≤ S ∧ S < hi * b) := ⟨by rw [Nat.mul_comm]; exact hle, HI.out.2⟩
                  clear hle
                  go_wp2_with (first
                    | (go_at_call 45; (with_reducible refine (rsmall_calls _ n1 c1 b HN1.out m (by omega) _ hCb.out hc1 (by omega)).mono ?_); rintro e w3 ⟨A3, c3, rfl, h5, h6, h7⟩; have HM := Aside0.mk h6; have HCi3 := Aside0.mk (Kd.C_below HCi.out h7); have HBi3 := Aside0.mk (below_step HBi.out h7); clear h6 h7)
                    | (go_at_call 26; (with_reducible refine (rcmp_calls A3 _ c3 (b * m) rfl (some ad2) _ c2 S rfl _ HM.out h5 HCi3.out h2 (by omega)).mono ?_); rintro e w4 ⟨rfl, h8⟩; have HCi4 := Aside0.mk (Kd.C_below HCi3.out h8); have HBi4 := Aside0.mk (below_step HBi3.out h8); clear h8)
                    | fail)
                  go_roundw
                  case rel => exact ⟨m, hi, rfl, rfl, hm1.2, hh, hHI, HBi4, HCi4⟩
                  case measure => simp [intOf]; omega
                · have hcm : 0 < cmp (b * m) S := by rw [cmp, if_neg (by omega), if_pos (by omega)]; decide
                  have hHI : Aside0 (lo * b ≤ S ∧ S < m * b) := ⟨HI.out.1, by rw [Nat.mul_comm m b]; omega⟩
                  clear hle
                  go_wp2_with (first
                    | (go_at_call 45; (with_reducible refine (rsmall_calls _ n1 c1 b HN1.out m (by omega) _ hCb.out hc1 (by omega)).mono ?_); rintro e w3 ⟨A3, c3, rfl, h5, h6, h7⟩; have HM := Aside0.mk h6; have HCi3 := Aside0.mk (Kd.C_below HCi.out h7); have HBi3 := Aside0.mk (below_step HBi.out h7); clear h6 h7)
                    | (go_at_call 26; (with_reducible refine (rcmp_calls A3 _ c3 (b * m) rfl (some ad2) _ c2 S rfl _ HM.out h5 HCi3.out h2 (by omega)).mono ?_); rintro e w4 ⟨rfl, h8⟩; have HCi4 := Aside0.mk (Kd.C_below HCi3.out h8); have HBi4 := Aside0.mk (below_step HBi3.out h8); clear h8)
                    | fail)
                  go_roundw
                  case rel => exact ⟨lo, m, rfl, rfl, hm1.1, by omega, hHI, HBi4, HCi4⟩
                  case measure => simp [intOf]; omega
              · obtain rfl : hi = lo + 1 := by omega
                have elo : Q = lo := by
                  have h1 := HI.out
                  rw [← HQQ.out]
                  exact ((Nat.div_eq_iff hb0).2 ⟨h1.1, by rw [Nat.add_mul, Nat.one_mul] at h1; omega⟩)
                subst elo
                have emod : S - b * Q = M := by have := HDM.out; omega
                have hle : b * Q ≤ S := by have := HDM.out; omega
                have HOi := Aside0.mk (R_stay HO.out HBi.out)
                obtain ⟨hcl, hfz⟩ := Kd.R_celln 0 HOi.out (k : Int) (by omega) (by omega)
                rw [Int.toNat_natCast] at hcl hfz
                have hHR := (Kd.R_putg HOi.out (k : Int) ((Q : Nat) : Int)).1
                rw [Int.toNat_natCast, set_back k q _] at hHR
                have HR2 := Aside0.mk hHR
                clear hHR
                have hbl : w.heap.size < wr.heap.size := by have := HBi.out.size; omega
                have HBw : Aside0 (Below w.heap.size w (wr.setCell ⟨w.heap.size, k, none⟩ (.int .i64 ((Q : Nat) : Int)))) := ⟨(below_step HB.out HBi.out).setCell (Nat.le_refl _) _⟩
                have hkeep : ∀ {A : Option Addr} {n : Nat} {xs : List Int}, Kd.C (Kd.int .i64) w A n xs → Kd.C (Kd.int .i64) (wr.setCell ⟨w.heap.size, k, none⟩ (.int .i64 ((Q : Nat) : Int))) A n xs := fun h => Kd.C_below h HBw.out
                have HSc : Aside0 (Kd.C (Kd.int .i64) (wr.setCell ⟨w.heap.size, k, none⟩ (.int .i64 ((Q : Nat) : Int))) (some ad2) (dg S).length (dg S)) := ⟨C_but HCi.out HF2.out (Kept.setCell (S := fun k => k = w.heap.size) (Kept.refl _ _) (.inl rfl) _)⟩
                have hCb := Aside0.mk (hkeep HR1.out)
                have hlen : (dg (b * Q)).length ≤ n1 + 1 := Nat.le_trans (dg_len_mono hle) hdl
                have HEM := Aside0.mk emod
                have HLE := Aside0.mk hle
                clear emod hle hkeep
                go_wp2_with (first
                  | (go_at_call 45; (with_reducible refine (rsmall_calls _ n1 c1 b HN1.out Q (by omega) _ hCb.out hc1 (by omega)).mono ?_); rintro e w3 ⟨A3, c3, rfl, h5, h6, h7⟩; have HM := Aside0.mk h6; have HSc3 := Aside0.mk (Kd.C_below HSc.out h7); have HBw3 := Aside0.mk (below_step HBw.out h7); have HR3 := Aside0.mk (R_stay HR2.out h7); have hsz3 := h7.size; clear h6 h7)
                  | (go_at_call 27; (with_reducible refine (rsubf_calls (some ad2) _ c2 S rfl A3 _ c3 (b * Q) rfl HLE.out _ HSc3.out h2 HM.out h5 (by omega)).mono ?_); rw [HEM.out]; rintro e w4 ⟨A4, c4, rfl, h8, h9, hf4, h10⟩; have HN : Aside0 (Kd.C (Kd.int .i64) w4 A4 (dg M).length (dg M) ∧ ∀ ad, A4 = some ad → 0 < (dg M).length → ad.block ≠ w.heap.size) := ⟨h9, fun ad he _ => by have := hf4 ad he; simp [World.setCell] at hsz3; omega⟩; clear hf4; have HBw4 := Aside0.mk (below_step HBw3.out h10); have HR4 := Aside0.mk (R_stay HR3.out h10); have hsz4 := h10.size; clear h9 h10)
                  | fail)
                go_roundw
                case rel => exact ⟨k, M, ((Q : Nat) : Int) :: q, A4, c4, by simp; omega, rfl, rfl, h8, hmod, by simp [World.setCell] at hsz3; omega, HST, HR4, HN, HBw4⟩
                case measure => simp [intOf]
        · obtain ⟨T, hT1, hT1l, hG⟩ := guess_eq (R := S) HBn.out (by have := HN1.out; omega) t ht0 HY.out
          have HT := Aside0.mk hT1
          clear hT1
          obtain ⟨top, htop⟩ : ∃ top : Nat, T = top := ⟨_, rfl⟩
          rw [htop] at hG
          have etop : (T : Int) = (top : Int) := by omega
          have htl : top ≤ 562949953421311 := by omega
          obtain ⟨g1, hg1⟩ : ∃ g : Nat, g = top / (t + 1) := ⟨_, rfl⟩
          obtain ⟨g2, hg2⟩ : ∃ g : Nat, g = top / t := ⟨_, rfl⟩
          have eg1 : (top : Int) / ((t : Int) + 1) = (g1 : Int) := by rw [hg1, Int.natCast_ediv]; first | done | rfl
          have eg2 : (top : Int) / (t : Int) = (g2 : Int) := by rw [hg2, Int.natCast_ediv]
          rw [← hg1, ← hg2] at hG
          have hg1le : g1 < 16777216 := mulmono (b := b) (by have := HSLT.out; have := Nat.mul_comm b 16777216; omega)
          have hg12 : g1 < g2 + 1 := mulmono (b := b) (by omega)
          have hg2le : g2 ≤ 562949953421312 := by rw [hg2]; exact Nat.le_trans (Nat.div_le_self _ _) (by omega)
          have HG := Aside0.mk hG
          clear hG hg1 hg2 htop
          obtain ⟨h1, eh1⟩ : ∃ h : Nat, (g2 : Int) + 1 = (h : Int) := ⟨g2 + 1, by omega⟩
          have hh1 : h1 ≤ 562949953421313 := by omega
          have hgh : g1 < h1 := by omega
          have HG2 : Aside0 (g1 * b ≤ S ∧ S < h1 * b) := ⟨by rw [show h1 = g2 + 1 from by omega]; exact HG.out⟩
          clear HG hg12 hg2le
          by_cases hcap : 16777216 < (h1 : Int)
          · have hdec : decide (16777216 < (h1 : Int)) = true := decide_eq_true hcap
            clear hcap
            go_wp2_with (first
              | (at_builtin; refine print_append_row (w0 := wo) wo.heap.size rfl _ _ 28 3 .i64 8 rfl Try.underlying28 info3 (by decide) _ [(a : Int)] (dg R) A6 (dg R).length c6 rfl rfl HOL.out HRI.out HBr0.out (by simp) (by simp; omega) ?_; intro v1 w1 ho1 hb1 hg1 hat1; have HO1 := Aside0.mk (Kd.R_of_own (enc := Value.int .i64) (h1 := fun _ => rfl) (ok := fun _ => True) ho1 (fun _ _ => trivial)); have HB1 := Aside0.mk hb1; clear ho1 hb1 hg1 hat1; obtain ⟨AX, cX, eX⟩ := Kd.R_slice HO1.out; subst eX; have HO2 : Aside0 (Kd.R (Kd.int .i64) 3 w1 wo.heap.size (fun _ => True) (.slice AX ((dg R).length + 1) cX) ((a : Int) :: dg R)) := ⟨HO1.out⟩; clear HO1)
              | (go_at_call 48; (with_reducible refine (rtrim_calls _ ((a : Int) :: dg R) HDG.out (by simp; omega) wo w1 HB1.out HO2.out).mono ?_); rw [HVN.out]; rintro e w2 ⟨A2, c2, rfl, h2, h3, hf2, h4⟩; have HS := Aside0.mk h3; have HF2 : Aside0 (∀ ad, A2 = some ad → 0 < (dg S).length → ad.block ≠ w.heap.size) := ⟨fun ad he _ => by have := hf2 ad he; omega⟩; clear hf2; have HB2 := Aside0.mk h4; have hxb2 := (h4.cell (World.block_lt_of_cell? _ _ hxb)).trans hxb; clear h3 h4; obtain ⟨ad2, e2, hx2⟩ := Kd.at_int HS.out (((dg S).length - 1 : Nat) : Int) (by omega) (by omega); subst e2; rw [Int.toNat_natCast, HT.out] at hx2)
              | fail)
            go_loopw [10, 11] (fun v10 v11 wr => ∃ (lo hi : Nat), v10 = .int .i64 lo ∧ v11 = .int .i64 hi ∧ lo < hi ∧ hi ≤ 16777216 ∧ Aside0 (lo * b ≤ S ∧ S < hi * b) ∧ Aside0 (Below wo.heap.size wo wr) ∧ Aside0 (Kd.C (Kd.int .i64) wr (some ad2) (dg S).length (dg S)))
              (fun v10 v11 _ => (intOf v11 - intOf v10).toNat)
            case atStart => exact ⟨g1, 16777216, rfl, rfl, hg1le, Nat.le_refl _, ⟨HG2.out.1, by have := HSLT.out; rw [Nat.mul_comm]; exact this⟩, HB2, HS⟩
            case round =>
              obtain ⟨lo, hi, rfl, rfl, hlh, hh, HI, HBi, HCi⟩ := hrel
              by_cases hgo : lo + 1 < hi
              · obtain ⟨m, hm⟩ : ∃ m : Nat, m = (lo + hi) / 2 := ⟨_, rfl⟩
                have em : ((lo : Int) + (hi : Int)) / 2 = (m : Int) := by omega
                have hm1 : lo < m ∧ m < hi := by omega
                clear hm
                have hCb := Aside0.mk (Kd.C_below hC1.out HBi.out)
                have hlen : (dg (b * m)).length ≤ n1 + 1 := by
                  have := digits_len (R := b * m) HBn.out (Nat.mul_lt_mul_of_pos_left (by omega) hb0)
                  have := HN1.out
                  omega
                by_cases hle : b * m ≤ S
                · have hcm : cmp (b * m) S ≤ 0 := by rw [cmp]; split <;> (try split) <;> omega
                  have hHI : Aside0 (m * b ≤ S ∧ S < hi * b) := ⟨by rw [Nat.mul_comm]; exact hle, HI.out.2⟩
                  clear hle
                  go_wp2_with (first
                    | (go_at_call 45; (with_reducible refine (rsmall_calls _ n1 c1 b HN1.out m (by omega) _ hCb.out hc1 (by omega)).mono ?_); rintro e w3 ⟨A3, c3, rfl, h5, h6, h7⟩; have HM := Aside0.mk h6; have HCi3 := Aside0.mk (Kd.C_below HCi.out h7); have HBi3 := Aside0.mk (below_step HBi.out h7); clear h6 h7)
                    | (go_at_call 26; (with_reducible refine (rcmp_calls A3 _ c3 (b * m) rfl (some ad2) _ c2 S rfl _ HM.out h5 HCi3.out h2 (by omega)).mono ?_); rintro e w4 ⟨rfl, h8⟩; have HCi4 := Aside0.mk (Kd.C_below HCi3.out h8); have HBi4 := Aside0.mk (below_step HBi3.out h8); clear h8)
                    | fail)
                  go_roundw
                  case rel => exact ⟨m, hi, rfl, rfl, hm1.2, hh, hHI, HBi4, HCi4⟩
                  case measure => simp [intOf]; omega
                · have hcm : 0 < cmp (b * m) S := by rw [cmp, if_neg (by omega), if_pos (by omega)]; decide
                  have hHI : Aside0 (lo * b ≤ S ∧ S < m * b) := ⟨HI.out.1, by rw [Nat.mul_comm m b]; omega⟩
                  clear hle
                  go_wp2_with (first
                    | (go_at_call 45; (with_reducible refine (rsmall_calls _ n1 c1 b HN1.out m (by omega) _ hCb.out hc1 (by omega)).mono ?_); rintro e w3 ⟨A3, c3, rfl, h5, h6, h7⟩; have HM := Aside0.mk h6; have HCi3 := Aside0.mk (Kd.C_below HCi.out h7); have HBi3 := Aside0.mk (below_step HBi.out h7); clear h6 h7)
                    | (go_at_call 26; (with_reducible refine (rcmp_calls A3 _ c3 (b * m) rfl (some ad2) _ c2 S rfl _ HM.out h5 HCi3.out h2 (by omega)).mono ?_); rintro e w4 ⟨rfl, h8⟩; have HCi4 := Aside0.mk (Kd.C_below HCi3.out h8); have HBi4 := Aside0.mk (below_step HBi3.out h8); clear h8)
                    | fail)
                  go_roundw
                  case rel => exact ⟨lo, m, rfl, rfl, hm1.1, by omega, hHI, HBi4, HCi4⟩
                  case measure => simp [intOf]; omega
              · obtain rfl : hi = lo + 1 := by omega
                have elo : Q = lo := by
                  have h1 := HI.out
                  rw [← HQQ.out]
                  exact ((Nat.div_eq_iff hb0).2 ⟨h1.1, by rw [Nat.add_mul, Nat.one_mul] at h1; omega⟩)
                subst elo
                have emod : S - b * Q = M := by have := HDM.out; omega
                have hle : b * Q ≤ S := by have := HDM.out; omega
                have HOi := Aside0.mk (R_stay HO.out HBi.out)
                obtain ⟨hcl, hfz⟩ := Kd.R_celln 0 HOi.out (k : Int) (by omega) (by omega)
                rw [Int.toNat_natCast] at hcl hfz
                have hHR := (Kd.R_putg HOi.out (k : Int) ((Q : Nat) : Int)).1
                rw [Int.toNat_natCast, set_back k q _] at hHR
                have HR2 := Aside0.mk hHR
                clear hHR
                have hbl : w.heap.size < wr.heap.size := by have := HBi.out.size; omega
                have HBw : Aside0 (Below w.heap.size w (wr.setCell ⟨w.heap.size, k, none⟩ (.int .i64 ((Q : Nat) : Int)))) := ⟨(below_step HB.out HBi.out).setCell (Nat.le_refl _) _⟩
                have hkeep : ∀ {A : Option Addr} {n : Nat} {xs : List Int}, Kd.C (Kd.int .i64) w A n xs → Kd.C (Kd.int .i64) (wr.setCell ⟨w.heap.size, k, none⟩ (.int .i64 ((Q : Nat) : Int))) A n xs := fun h => Kd.C_below h HBw.out
                have HSc : Aside0 (Kd.C (Kd.int .i64) (wr.setCell ⟨w.heap.size, k, none⟩ (.int .i64 ((Q : Nat) : Int))) (some ad2) (dg S).length (dg S)) := ⟨C_but HCi.out HF2.out (Kept.setCell (S := fun k => k = w.heap.size) (Kept.refl _ _) (.inl rfl) _)⟩
                have hCb := Aside0.mk (hkeep HR1.out)
                have hlen : (dg (b * Q)).length ≤ n1 + 1 := Nat.le_trans (dg_len_mono hle) hdl
                have HEM := Aside0.mk emod
                have HLE := Aside0.mk hle
                clear emod hle hkeep
                go_wp2_with (first
                  | (go_at_call 45; (with_reducible refine (rsmall_calls _ n1 c1 b HN1.out Q (by omega) _ hCb.out hc1 (by omega)).mono ?_); rintro e w3 ⟨A3, c3, rfl, h5, h6, h7⟩; have HM := Aside0.mk h6; have HSc3 := Aside0.mk (Kd.C_below HSc.out h7); have HBw3 := Aside0.mk (below_step HBw.out h7); have HR3 := Aside0.mk (R_stay HR2.out h7); have hsz3 := h7.size; clear h6 h7)
                  | (go_at_call 27; (with_reducible refine (rsubf_calls (some ad2) _ c2 S rfl A3 _ c3 (b * Q) rfl HLE.out _ HSc3.out h2 HM.out h5 (by omega)).mono ?_); rw [HEM.out]; rintro e w4 ⟨A4, c4, rfl, h8, h9, hf4, h10⟩; have HN : Aside0 (Kd.C (Kd.int .i64) w4 A4 (dg M).length (dg M) ∧ ∀ ad, A4 = some ad → 0 < (dg M).length → ad.block ≠ w.heap.size) := ⟨h9, fun ad he _ => by have := hf4 ad he; simp [World.setCell] at hsz3; omega⟩; clear hf4; have HBw4 := Aside0.mk (below_step HBw3.out h10); have HR4 := Aside0.mk (R_stay HR3.out h10); have hsz4 := h10.size; clear h9 h10)
                  | fail)
                go_roundw
                case rel => exact ⟨k, M, ((Q : Nat) : Int) :: q, A4, c4, by simp; omega, rfl, rfl, h8, hmod, by simp [World.setCell] at hsz3; omega, HST, HR4, HN, HBw4⟩
                case measure => simp [intOf]
          · have hdec : decide (16777216 < (h1 : Int)) = false := decide_eq_false hcap
            have HCAP : Aside0 (h1 ≤ 16777216) := ⟨by omega⟩
            clear hcap
            go_wp2_with (first
              | (at_builtin; refine print_append_row (w0 := wo) wo.heap.size rfl _ _ 28 3 .i64 8 rfl Try.underlying28 info3 (by decide) _ [(a : Int)] (dg R) A6 (dg R).length c6 rfl rfl HOL.out HRI.out HBr0.out (by simp) (by simp; omega) ?_; intro v1 w1 ho1 hb1 hg1 hat1; have HO1 := Aside0.mk (Kd.R_of_own (enc := Value.int .i64) (h1 := fun _ => rfl) (ok := fun _ => True) ho1 (fun _ _ => trivial)); have HB1 := Aside0.mk hb1; clear ho1 hb1 hg1 hat1; obtain ⟨AX, cX, eX⟩ := Kd.R_slice HO1.out; subst eX; have HO2 : Aside0 (Kd.R (Kd.int .i64) 3 w1 wo.heap.size (fun _ => True) (.slice AX ((dg R).length + 1) cX) ((a : Int) :: dg R)) := ⟨HO1.out⟩; clear HO1)
              | (go_at_call 48; (with_reducible refine (rtrim_calls _ ((a : Int) :: dg R) HDG.out (by simp; omega) wo w1 HB1.out HO2.out).mono ?_); rw [HVN.out]; rintro e w2 ⟨A2, c2, rfl, h2, h3, hf2, h4⟩; have HS := Aside0.mk h3; have HF2 : Aside0 (∀ ad, A2 = some ad → 0 < (dg S).length → ad.block ≠ w.heap.size) := ⟨fun ad he _ => by have := hf2 ad he; omega⟩; clear hf2; have HB2 := Aside0.mk h4; have hxb2 := (h4.cell (World.block_lt_of_cell? _ _ hxb)).trans hxb; clear h3 h4; obtain ⟨ad2, e2, hx2⟩ := Kd.at_int HS.out (((dg S).length - 1 : Nat) : Int) (by omega) (by omega); subst e2; rw [Int.toNat_natCast, HT.out] at hx2)
              | fail)
            go_loopw [10, 11] (fun v10 v11 wr => ∃ (lo hi : Nat), v10 = .int .i64 lo ∧ v11 = .int .i64 hi ∧ lo < hi ∧ hi ≤ 16777216 ∧ Aside0 (lo * b ≤ S ∧ S < hi * b) ∧ Aside0 (Below wo.heap.size wo wr) ∧ Aside0 (Kd.C (Kd.int .i64) wr (some ad2) (dg S).length (dg S)))
              (fun v10 v11 _ => (intOf v11 - intOf v10).toNat)
            case atStart => exact ⟨g1, h1, rfl, rfl, hgh, HCAP.out, HG2, HB2, HS⟩
            case round =>
              obtain ⟨lo, hi, rfl, rfl, hlh, hh, HI, HBi, HCi⟩ := hrel
              by_cases hgo : lo + 1 < hi
              · obtain ⟨m, hm⟩ : ∃ m : Nat, m = (lo + hi) / 2 := ⟨_, rfl⟩
                have em : ((lo : Int) + (hi : Int)) / 2 = (m : Int) := by omega
                have hm1 : lo < m ∧ m < hi := by omega
                clear hm
                have hCb := Aside0.mk (Kd.C_below hC1.out HBi.out)
                have hlen : (dg (b * m)).length ≤ n1 + 1 := by
                  have := digits_len (R := b * m) HBn.out (Nat.mul_lt_mul_of_pos_left (by omega) hb0)
                  have := HN1.out
                  omega
                by_cases hle : b * m ≤ S
                · have hcm : cmp (b * m) S ≤ 0 := by rw [cmp]; split <;> (try split) <;> omega
                  have hHI : Aside0 (m * b ≤ S ∧ S < hi * b) := ⟨by rw [Nat.mul_comm]; exact hle, HI.out.2⟩
                  clear hle
                  go_wp2_with (first
                    | (go_at_call 45; (with_reducible refine (rsmall_calls _ n1 c1 b HN1.out m (by omega) _ hCb.out hc1 (by omega)).mono ?_); rintro e w3 ⟨A3, c3, rfl, h5, h6, h7⟩; have HM := Aside0.mk h6; have HCi3 := Aside0.mk (Kd.C_below HCi.out h7); have HBi3 := Aside0.mk (below_step HBi.out h7); clear h6 h7)
                    | (go_at_call 26; (with_reducible refine (rcmp_calls A3 _ c3 (b * m) rfl (some ad2) _ c2 S rfl _ HM.out h5 HCi3.out h2 (by omega)).mono ?_); rintro e w4 ⟨rfl, h8⟩; have HCi4 := Aside0.mk (Kd.C_below HCi3.out h8); have HBi4 := Aside0.mk (below_step HBi3.out h8); clear h8)
                    | fail)
                  go_roundw
                  case rel => exact ⟨m, hi, rfl, rfl, hm1.2, hh, hHI, HBi4, HCi4⟩
                  case measure => simp [intOf]; omega
                · have hcm : 0 < cmp (b * m) S := by rw [cmp, if_neg (by omega), if_pos (by omega)]; decide
                  have hHI : Aside0 (lo * b ≤ S ∧ S < m * b) := ⟨HI.out.1, by rw [Nat.mul_comm m b]; omega⟩
                  clear hle
                  go_wp2_with (first
                    | (go_at_call 45; (with_reducible refine (rsmall_calls _ n1 c1 b HN1.out m (by omega) _ hCb.out hc1 (by omega)).mono ?_); rintro e w3 ⟨A3, c3, rfl, h5, h6, h7⟩; have HM := Aside0.mk h6; have HCi3 := Aside0.mk (Kd.C_below HCi.out h7); have HBi3 := Aside0.mk (below_step HBi.out h7); clear h6 h7)
                    | (go_at_call 26; (with_reducible refine (rcmp_calls A3 _ c3 (b * m) rfl (some ad2) _ c2 S rfl _ HM.out h5 HCi3.out h2 (by omega)).mono ?_); rintro e w4 ⟨rfl, h8⟩; have HCi4 := Aside0.mk (Kd.C_below HCi3.out h8); have HBi4 := Aside0.mk (below_step HBi3.out h8); clear h8)
                    | fail)
                  go_roundw
                  case rel => exact ⟨lo, m, rfl, rfl, hm1.1, by omega, hHI, HBi4, HCi4⟩
                  case measure => simp [intOf]; omega
              · obtain rfl : hi = lo + 1 := by omega
                have elo : Q = lo := by
                  have h1 := HI.out
                  rw [← HQQ.out]
                  exact ((Nat.div_eq_iff hb0).2 ⟨h1.1, by rw [Nat.add_mul, Nat.one_mul] at h1; omega⟩)
                subst elo
                have emod : S - b * Q = M := by have := HDM.out; omega
                have hle : b * Q ≤ S := by have := HDM.out; omega
                have HOi := Aside0.mk (R_stay HO.out HBi.out)
                obtain ⟨hcl, hfz⟩ := Kd.R_celln 0 HOi.out (k : Int) (by omega) (by omega)
                rw [Int.toNat_natCast] at hcl hfz
                have hHR := (Kd.R_putg HOi.out (k : Int) ((Q : Nat) : Int)).1
                rw [Int.toNat_natCast, set_back k q _] at hHR
                have HR2 := Aside0.mk hHR
                clear hHR
                have hbl : w.heap.size < wr.heap.size := by have := HBi.out.size; omega
                have HBw : Aside0 (Below w.heap.size w (wr.setCell ⟨w.heap.size, k, none⟩ (.int .i64 ((Q : Nat) : Int)))) := ⟨(below_step HB.out HBi.out).setCell (Nat.le_refl _) _⟩
                have hkeep : ∀ {A : Option Addr} {n : Nat} {xs : List Int}, Kd.C (Kd.int .i64) w A n xs → Kd.C (Kd.int .i64) (wr.setCell ⟨w.heap.size, k, none⟩ (.int .i64 ((Q : Nat) : Int))) A n xs := fun h => Kd.C_below h HBw.out
                have HSc : Aside0 (Kd.C (Kd.int .i64) (wr.setCell ⟨w.heap.size, k, none⟩ (.int .i64 ((Q : Nat) : Int))) (some ad2) (dg S).length (dg S)) := ⟨C_but HCi.out HF2.out (Kept.setCell (S := fun k => k = w.heap.size) (Kept.refl _ _) (.inl rfl) _)⟩
                have hCb := Aside0.mk (hkeep HR1.out)
                have hlen : (dg (b * Q)).length ≤ n1 + 1 := Nat.le_trans (dg_len_mono hle) hdl
                have HEM := Aside0.mk emod
                have HLE := Aside0.mk hle
                clear emod hle hkeep
                go_wp2_with (first
                  | (go_at_call 45; (with_reducible refine (rsmall_calls _ n1 c1 b HN1.out Q (by omega) _ hCb.out hc1 (by omega)).mono ?_); rintro e w3 ⟨A3, c3, rfl, h5, h6, h7⟩; have HM := Aside0.mk h6; have HSc3 := Aside0.mk (Kd.C_below HSc.out h7); have HBw3 := Aside0.mk (below_step HBw.out h7); have HR3 := Aside0.mk (R_stay HR2.out h7); have hsz3 := h7.size; clear h6 h7)
                  | (go_at_call 27; (with_reducible refine (rsubf_calls (some ad2) _ c2 S rfl A3 _ c3 (b * Q) rfl HLE.out _ HSc3.out h2 HM.out h5 (by omega)).mono ?_); rw [HEM.out]; rintro e w4 ⟨A4, c4, rfl, h8, h9, hf4, h10⟩; have HN : Aside0 (Kd.C (Kd.int .i64) w4 A4 (dg M).length (dg M) ∧ ∀ ad, A4 = some ad → 0 < (dg M).length → ad.block ≠ w.heap.size) := ⟨h9, fun ad he _ => by have := hf4 ad he; simp [World.setCell] at hsz3; omega⟩; clear hf4; have HBw4 := Aside0.mk (below_step HBw3.out h10); have HR4 := Aside0.mk (R_stay HR3.out h10); have hsz4 := h10.size; clear h9 h10)
                  | fail)
                go_roundw
                case rel => exact ⟨k, M, ((Q : Nat) : Int) :: q, A4, c4, by simp; omega, rfl, rfl, h8, hmod, by simp [World.setCell] at hsz3; omega, HST, HR4, HN, HBw4⟩
                case measure => simp [intOf]
    · obtain rfl : k = 0 := by omega
      have hql : q.length = n0 := by omega
      have hHO := HO.out
      rw [List.replicate_zero, List.nil_append] at hHO
      have HF : Aside0 (vn q = vn l0 / b ∧ R = vn l0 % b) := ⟨by
        have h1 := HV.out.2
        rw [List.drop_zero] at h1
        have h2 := (Nat.div_mod_unique hb0).2 ⟨show R + b * vn q = vn l0 by rw [h1, Nat.mul_comm]; omega, hRb⟩
        exact ⟨h2.1.symm, h2.2.symm⟩⟩
      have HQ := Aside0.mk hHO
      clear hHO
      go_wp2_with (first
        | (go_at_call 48; (with_reducible refine (rtrim_own _ _ _ q HV.out.1 (by omega) w wo HB.out HQ.out).mono ?_); rw [HF.out.1]; rintro e w2 ⟨⟨A2, c2, rfl, h2, h3, hf2, h4⟩, hk⟩; have HK := Aside0.mk hk; clear hk hf2)
        | fail)
      go_ret2
      exact ⟨A2, c2, A6, c6, by rw [← HF.out.2]; rfl, h2, by rw [← HF.out.2]; exact hc6, h3, by rw [← HF.out.2]; exact C_but HCF.out.1 HCF.out.2 HK.out, h4⟩
end Go.Proofs.Ytjkelnnjfpcapaa.Num
end
section
/- The document's division. -/
namespace Go.Proofs.Ytjkelnnjfpcapaa.Num
set_option linter.unusedVariables false
open Go.RowKit Go.Shelf Go.Proofs.Ytjkelnnjfpcapaa.PNat Go.Proofs.YtjkelnnjfpcapaaW Go.Proofs.YtjkelnnjfpcapaaW.PrintWords Go.Proofs.YtjkelnnjfpcapaaW.PrintLast Go.Proofs.YtjkelnnjfpcapaaW.PrintMore

theorem digits_v (A0 : Option Addr) (n0 c0 : Nat) (m : Nat) (hn0 : (dg m).length = n0) (A1 : Option Addr) (n1 c1 : Nat) (b : Nat) (hb : b ≠ 0) (hn1 : (dg b).length = n1) (w : World) (hr0 : Kd.C (Kd.int .i64) w A0 (dg m).length (dg m)) (hr1 : Kd.C (Kd.int .i64) w A1 (dg b).length (dg b)) (hc0 : n0 ≤ c0) (hc1 : n1 ≤ c1) (hl0 : n0 ≤ 100000) (hl1 : n1 ≤ 100000) (q r : Nat) (hq : m / b = q) (hr : m % b = r) :
    Calls Try.prog 55 #[.slice A0 n0 c0, .slice A1 n1 c1] w (GotQR w q r) := by
  have h := digits_calls A0 n0 c0 (dg m) hn0 (dg_Dg m) A1 n1 c1 b hb hn1 w hr0 hr1 hc0 hc1 hl0 hl1
  rw [vn_dg, hq, hr] at h
  exact h
theorem dg_small {n : Nat} (h0 : n ≠ 0) (h : n < 16777216) : dg n = [(n : Int)] := by
  rw [dg_pos h0, Nat.mod_eq_of_lt h, Nat.div_eq_of_lt h, dg_zero]
theorem lit1_CI (W : World) (x : Int) : Kd.C (Kd.int .i64) (W.alloc (.cells #[.int .i64 x] 3)) (some ⟨W.heap.size, 0, none⟩) [x].length [x] :=
  (Kd.R_reads' (Kd.R_of_own (enc := Value.int .i64) (h1 := fun _ => rfl) (ok := fun _ => True) (lit1_own W W.heap.size (Nat.le_refl _) x) (fun _ _ => trivial))).2.2
set_option maxHeartbeats 3200000 in
set_option maxRecDepth 100000 in
theorem rdiv_calls (A0 : Option Addr) (n0 c0 : Nat) (m : Nat) (hn0 : (dg m).length = n0) (A1 : Option Addr) (n1 c1 : Nat) (b : Nat) (hb : b ≠ 0) (hn1 : (dg b).length = n1) (w : World) (hr0 : Kd.C (Kd.int .i64) w A0 (dg m).length (dg m)) (hr1 : Kd.C (Kd.int .i64) w A1 (dg b).length (dg b)) (hc0 : n0 ≤ c0) (hc1 : n1 ≤ c1) (hl0 : n0 ≤ 50000) (hl1 : n1 ≤ 50000) :
    Calls Try.prog 34 #[.slice A0 n0 c0, .slice A1 n1 c1] w (GotQR w (m / b) (m % b)) := by
  obtain ⟨t, ht0, ht1, hrt, _⟩ := lead b hb
  have hpos : 0 < n1 := by rw [← hn1]; exact len_of hb
  obtain ⟨ad, e, hx⟩ := Kd.at_int hr1 (((dg b).length - 1 : Nat) : Int) (by omega) (by omega)
  subst e
  rw [Int.toNat_natCast, hrt, hn1] at hx
  clear hrt
  obtain ⟨f, hf⟩ : ∃ f : Nat, f = 16777216 / (t + 1) := ⟨_, rfl⟩
  have ef : (16777216 : Int) / ((t : Int) + 1) = (f : Int) := by rw [hf, Int.natCast_ediv]; rfl
  have hf1 : 0 < f := by rw [hf]; exact Nat.div_pos (by omega) (by omega)
  have hf2 : f ≤ 8388608 := by rw [hf]; exact Nat.le_trans (Nat.div_le_div_left (show 2 ≤ t + 1 by omega) (by omega)) (by decide)
  have hlen : ∀ x n : Nat, (dg x).length = n → (dg (x * f)).length ≤ n + 1 := fun x n hx => by
    refine dg_len_le _ _ ?_
    have h1 := vn_lt (dg_Dg x)
    rw [vn_dg, hx] at h1
    rw [Nat.pow_succ]
    exact Nat.mul_lt_mul'' h1 (by omega)
  have hl2 := hlen m n0 hn0
  have hl3 := hlen b n1 hn1
  have e1 : m * f / (b * f) = m / b := Nat.mul_div_mul_right _ _ hf1
  have e2 : m * f % (b * f) = m % b * f := Nat.mul_mod_mul_right _ _ _
  have hl4 : (dg (m % b * f)).length ≤ n1 + 1 := by
    have h1 := dg_len_mono (Nat.le_of_lt (Nat.mod_lt m (show 0 < b by omega)))
    have h2 := hlen (m % b) _ rfl
    omega
  have hbf : b * f ≠ 0 := Nat.mul_ne_zero hb (by omega)
  obtain ⟨q, hq⟩ : ∃ q, m / b = q := ⟨_, rfl⟩
  obtain ⟨r, hr⟩ : ∃ r, m % b = r := ⟨_, rfl⟩
  rw [hq] at e1 ⊢
  rw [hr] at e2 hl4 ⊢
  have E1 := Aside0.mk e1
  have E2 := Aside0.mk e2
  have HBF := Aside0.mk hbf
  have H0 := Aside0.mk hr0
  have H1 := Aside0.mk hr1
  have HN0 := Aside0.mk hn0
  have HN1 := Aside0.mk hn1
  have HFF : Aside0 (f ≠ 0) := ⟨by omega⟩
  have HDF : Aside0 (dg f = [(f : Int)]) := ⟨dg_small (by omega) (by omega)⟩
  have E3 : Aside0 (r * f / f = r ∧ r * f % f = 0) := ⟨Nat.mul_div_cancel _ hf1, Nat.mul_mod_left _ _⟩
  clear hf hlen e1 e2 hbf hr0 hr1 hn0 hn1 hq hr hb
  by_cases hone : f = 1
  · have hle : f ≤ 1 := by omega
    have hrf : Aside0 (r * f = r) := ⟨by rw [hone, Nat.mul_one]⟩
    clear hone hf2
    go_enter Try.func34, Try.ntmps34
    go_wp2_with (first
      | (go_at_call 45; (with_reducible refine (rsmall_calls A0 n0 c0 m HN0.out f (by omega) _ H0.out hc0 (by omega)).mono ?_); rintro e w1 ⟨B1, d1, rfl, h1, h2, hb⟩; have HB := Aside0.mk hb; have HX := Aside0.mk h2; replace H1 := Aside0.mk (Kd.C_below H1.out hb); clear h2 hb)
      | (go_at_call 45; (with_reducible refine (rsmall_calls _ n1 c1 b HN1.out f (by omega) _ H1.out hc1 (by omega)).mono ?_); rintro e w2 ⟨B2, d2, rfl, h3, h4, hb⟩; have HB2 := Aside0.mk (below_step HB.out hb); have HX2 := Aside0.mk (Kd.C_below HX.out hb); have HY := Aside0.mk h4; clear h4 hb)
      | (go_at_call 55; (with_reducible refine (digits_v B1 _ d1 (m * f) rfl B2 _ d2 (b * f) HBF.out rfl _ HX2.out HY.out h1 h3 (by omega) (by omega) q (r * f) E1.out E2.out).mono ?_); rintro e w3 ⟨B3, d3, B4, d4, rfl, h5, h6, h7, h8, hb⟩; have HB3 := Aside0.mk (below_step HB2.out hb); have HQ := Aside0.mk h7; have HRr := Aside0.mk h8; clear h7 h8 hb)
      | fail)
    go_ret2
    have e := hrf.out
    rw [e] at h6
    exact ⟨B3, d3, B4, d4, by rw [show (dg r).length = (dg (r * f)).length from by rw [e]]; rfl, h5, h6, HQ.out, by have := HRr.out; rwa [e] at this, HB3.out⟩
  · have hgt : 1 < f := by omega
    go_enter Try.func34, Try.ntmps34
    go_wp2_with (first
      | (go_at_call 45; (with_reducible refine (rsmall_calls A0 n0 c0 m HN0.out f (by omega) _ H0.out hc0 (by omega)).mono ?_); rintro e w1 ⟨B1, d1, rfl, h1, h2, hb⟩; have HB := Aside0.mk hb; have HX := Aside0.mk h2; replace H1 := Aside0.mk (Kd.C_below H1.out hb); clear h2 hb)
      | (go_at_call 45; (with_reducible refine (rsmall_calls _ n1 c1 b HN1.out f (by omega) _ H1.out hc1 (by omega)).mono ?_); rintro e w2 ⟨B2, d2, rfl, h3, h4, hb⟩; have HB2 := Aside0.mk (below_step HB.out hb); have HX2 := Aside0.mk (Kd.C_below HX.out hb); have HY := Aside0.mk h4; clear h4 hb)
      | (go_at_call 55; (with_reducible refine (digits_v B1 _ d1 (m * f) rfl B2 _ d2 (b * f) HBF.out rfl _ HX2.out HY.out h1 h3 (by omega) (by omega) q (r * f) E1.out E2.out).mono ?_); rintro e w3 ⟨B3, d3, B4, d4, rfl, h5, h6, h7, h8, hb⟩; have HB3 := Aside0.mk (below_step HB2.out hb); have HQ := Aside0.mk h7; have HRr := Aside0.mk h8; clear h7 h8 hb)
      | (go_at_call 55; (with_reducible refine (digits_v B4 _ d4 (r * f) rfl _ 1 1 f HFF.out (by rw [HDF.out]; simp) _ (Kd.C_alloc HRr.out _) (by rw [HDF.out]; exact lit1_CI _ _) h6 (Nat.le_refl _) (by omega) (by omega) r 0 E3.out.1 E3.out.2).mono ?_); rintro e w4 ⟨B5, d5, B6, d6, rfl, h7, h8, h9, h10, hb⟩; have HB4 := Aside0.mk (below_step (below_alloc HB3.out _) hb); have HQ2 := Aside0.mk (Kd.C_below (Kd.C_alloc HQ.out _) hb); have HR2 := Aside0.mk h9; clear h9 h10 hb)
      | fail)
    go_ret2
    exact ⟨B3, d3, B5, d5, rfl, h5, h7, HQ2.out, HR2.out, HB4.out⟩
end Go.Proofs.Ytjkelnnjfpcapaa.Num
end
section
/- nat: the law of products (laid by wip/gen/products.py). -/
namespace Go.Proofs.Ytjkelnnjfpcapaa.Num
set_option linter.unusedVariables false
open Go.RowKit Go.Shelf Go.Proofs.Ytjkelnnjfpcapaa.PNat Go.Proofs.YtjkelnnjfpcapaaW Go.Proofs.YtjkelnnjfpcapaaW.PrintWords Go.Proofs.YtjkelnnjfpcapaaW.PrintLast Go.Proofs.YtjkelnnjfpcapaaW.PrintMore

theorem rtowords_calls (A0 : Option Addr) (n0 c0 : Nat) (n : Nat) (hn0 : (dg n).length = n0) (hn : n < 18446744073709551616) (w : World) (hr0 : Kd.C (Kd.int .i64) w A0 (dg n).length (dg n)) (hc0 : n0 ≤ c0) (hl : n0 ≤ 1000000) :
    Calls Try.prog 35 #[.slice A0 n0 c0, .int .i64 1] w (Got .u64 w [(n : Int)]) := by
  subst hn0
  obtain ⟨K, hK⟩ := towords_ev (dg n) (dg_Dg n) hl 1 (by omega)
  rw [vn_dg, wl, wl, Nat.mod_eq_of_lt hn] at hK
  exact (cleromancyref01_ToWords.calls K A0 c0 _ _ _ w hr0 hc0 (hK K (Nat.le_refl _))).mono fun e w' h => Got.of h
theorem rmul_v (A0 : Option Addr) (n0 c0 : Nat) (m : Nat) (hn0 : (dg m).length = n0) (A1 : Option Addr) (n1 c1 : Nat) (n : Nat) (hn1 : (dg n).length = n1) (w : World) (hr0 : Kd.C (Kd.int .i64) w A0 (dg m).length (dg m)) (hc0 : n0 ≤ c0) (hr1 : Kd.C (Kd.int .i64) w A1 (dg n).length (dg n)) (hc1 : n1 ≤ c1) (hl : n0 ≤ 10000) (hl1 : n1 ≤ 10000) :
    Calls Try.prog 37 #[.slice A0 n0 c0, .slice A1 n1 c1] w (Got .i64 w (dg (m * n))) := by
  subst hn0 hn1
  obtain ⟨K, hK⟩ := mul_ev (dg m) (dg n) (dg_Dg _) (dg_Dg _) (by omega)
  rw [vn_dg, vn_dg] at hK
  exact (cleromancyref01_Mul.calls K A0 c0 _ A1 c1 _ _ w hr0 hc0 hr1 hc1 (hK K (Nat.le_refl _))).mono fun e w' h => Got.of h
theorem rdiv_v (A0 : Option Addr) (n0 c0 : Nat) (m : Nat) (hn0 : (dg m).length = n0) (A1 : Option Addr) (n1 c1 : Nat) (b : Nat) (hb : b ≠ 0) (hn1 : (dg b).length = n1) (w : World) (hr0 : Kd.C (Kd.int .i64) w A0 (dg m).length (dg m)) (hr1 : Kd.C (Kd.int .i64) w A1 (dg b).length (dg b)) (hc0 : n0 ≤ c0) (hc1 : n1 ≤ c1) (hl0 : n0 ≤ 50000) (hl1 : n1 ≤ 50000) (q r : Nat) (hq : m / b = q) (hr : m % b = r) :
    Calls Try.prog 34 #[.slice A0 n0 c0, .slice A1 n1 c1] w (GotQR w q r) := hr ▸ hq ▸ rdiv_calls A0 n0 c0 m hn0 A1 n1 c1 b hb hn1 w hr0 hr1 hc0 hc1 hl0 hl1
theorem words_v (A0 : Option Addr) (n0 c0 : Nat) (l0 : List Int) (hn0 : l0.length = n0) (w : World) (hr0 : Kd.C (Kd.int .u64) w A0 l0.length l0) (hc0 : n0 ≤ c0) (hw : Wd l0) (hl : n0 ≤ 1000) (v : Nat) (hv : wv l0 = v) :
    Calls Try.prog 19 #[.slice A0 n0 c0] w (Got .i64 w (dg v)) := hv ▸ words_calls A0 n0 c0 l0 hn0 w hr0 hc0 hw hl
set_option maxHeartbeats 1600000 in
set_option maxRecDepth 100000 in
theorem natProducts_big (A0 : Option Addr) (n0 c0 : Nat) (A1 : Option Addr) (n1 c1 : Nat) (y : Int) (w : World) (h0 : (n0 : Int) ≤ 9223372036854775807) (h1 : (n1 : Int) ≤ 9223372036854775807) (hbig : 40 < n0 ∨ 40 < n1) :
    Calls Try.prog 6 #[.slice A0 n0 c0, .slice A1 n1 c1, .int .u64 y] w (Tells (.bool true) w) := by
  go_enter Try.func6, Try.ntmps6
  go_wp2_with (first
    | (go_at_call 11; (with_reducible refine (awake_calls _).mono ?_); rintro e w1 ⟨rfl, hb⟩; have HB1 := Aside0.mk hb; clear hb)
    | fail)
  all_goals first
    | (go_ret; exact ⟨rfl, HB1.out⟩)
    | (exfalso; omega)

set_option maxHeartbeats 6400000 in
set_option maxRecDepth 100000 in
theorem natProducts_Pos (A0 : Option Addr) (n0 c0 : Nat) (l0 : List Int) (hn0 : l0.length = n0) (A1 : Option Addr) (n1 c1 : Nat) (l1 : List Int) (hn1 : l1.length = n1) (y : Int) (hy : 0 < y ∧ y < 18446744073709551616) (w : World) (hr0 : Kd.C (Kd.int .u64) w A0 l0.length l0) (hc0 : n0 ≤ c0) (hr1 : Kd.C (Kd.int .u64) w A1 l1.length l1) (hc1 : n1 ≤ c1) (hw0 : Wd l0) (hw1 : Wd l1) (hl0 : n0 ≤ 40) (hl1 : n1 ≤ 40) :
    Calls Try.prog 6 #[.slice A0 n0 c0, .slice A1 n1 c1, .int .u64 y] w (Tells (.bool true) w) := by
  obtain ⟨u, hu⟩ : ∃ x, wv l0 = x := ⟨_, rfl⟩
  obtain ⟨v, hv⟩ : ∃ x, wv l1 = x := ⟨_, rfl⟩
  obtain ⟨Z, hZ⟩ : ∃ Z, y.toNat = Z := ⟨_, rfl⟩
  have hu1 : u < 2 ^ (64 * n0) := by rw [← hu, ← hn0]; exact wv_lt hw0
  have hv1 : v < 2 ^ (64 * n1) := by rw [← hv, ← hn1]; exact wv_lt hw1
  have hZ1 : Z < 2 ^ 64 := by omega
  have l1' : (dg u).length ≤ 1000 := dg_len_bits _ _ hu1 _ (by omega)
  have l2 : (dg v).length ≤ 1000 := dg_len_bits _ _ hv1 _ (by omega)
  have l3 : (dg Z).length ≤ 1000 := dg_len_bits _ _ hZ1 _ (by omega)
  have l4 : (dg (u * v)).length ≤ 1000 := dg_len_bits _ _ (mul_lt_pow hu1 hv1) _ (by omega)
  have l5 : (dg (u * Z)).length ≤ 1000 := dg_len_bits _ _ (mul_lt_pow hu1 hZ1) _ (by omega)
  have l6 : (nw (u * v)).length ≤ 1000 := nw_len_le (mul_lt_pow hu1 hv1) (by omega)
  have l7 : (nw (u * Z)).length ≤ 1000 := nw_len_le (mul_lt_pow hu1 hZ1) (by omega)
  have l8 : (dg (u / Z)).length ≤ 1000 := Nat.le_trans (dg_len_mono (Nat.div_le_self _ _)) l1'
  have l9 : (nw (u / Z)).length ≤ 1000 := nw_len_le (Nat.lt_of_le_of_lt (Nat.div_le_self _ _) hu1) (by omega)
  have hZ0 : Z ≠ 0 := by omega
  obtain ⟨q, hq⟩ : ∃ q, u / Z = q := ⟨_, rfl⟩
  obtain ⟨r, hr⟩ : ∃ r, u % Z = r := ⟨_, rfl⟩
  have hrlt : r < 18446744073709551616 := by rw [← hr]; exact Nat.lt_trans (Nat.mod_lt u (by omega)) (by omega)
  have l10 : (dg r).length ≤ 1000 := by rw [← hr]; exact Nat.le_trans (dg_len_mono (Nat.mod_le _ _)) l1'
  rw [hq] at l8 l9
  have HQ := Aside0.mk hq
  have HR := Aside0.mk hr
  have HZ0 := Aside0.mk hZ0
  clear hq hr hZ0
  have HU := Aside0.mk hu
  have HV := Aside0.mk hv
  have HZ := Aside0.mk hZ
  have HW0 := Aside0.mk hw0
  have HW1 := Aside0.mk hw1
  have HN0 := Aside0.mk hn0
  have HN1 := Aside0.mk hn1
  have HY := Aside0.mk hy
  have HA := Aside0.mk hr0
  have HC := Aside0.mk hr1
  clear hu hv hZ hu1 hv1 hZ1 hr0 hr1 hw0 hw1 hn0 hn1
  go_enter Try.func6, Try.ntmps6
  go_wp2_with (first
    | (go_at_call 11; (with_reducible refine (awake_calls _).mono ?_); rintro e x_1 ⟨rfl, hb⟩; have HB := Aside0.mk hb; replace HA := Aside0.mk (Kd.C_below HA.out hb); replace HC := Aside0.mk (Kd.C_below HC.out hb); clear hb)
    | (go_at_call 19; (with_reducible refine (words_v A0 n0 c0 l0 HN0.out _ HA.out hc0 HW0.out (by omega) u HU.out).mono ?_); rintro e x_2 ⟨B2, d2, rfl, h2, hC, hb⟩; replace HB := Aside0.mk (below_step HB.out hb); replace HA := Aside0.mk (Kd.C_below HA.out hb); replace HC := Aside0.mk (Kd.C_below HC.out hb); have HX := Aside0.mk hC; clear hC; clear hb)
    | (go_at_call 19; (with_reducible refine (words_v A1 n1 c1 l1 HN1.out _ HC.out hc1 HW1.out (by omega) v HV.out).mono ?_); rintro e x_3 ⟨B3, d3, rfl, h3, hC, hb⟩; replace HB := Aside0.mk (below_step HB.out hb); replace HA := Aside0.mk (Kd.C_below HA.out hb); replace HC := Aside0.mk (Kd.C_below HC.out hb); replace HX := Aside0.mk (Kd.C_below HX.out hb); have HXv := Aside0.mk hC; clear hC; clear hb)
    | (go_at_call 19; (with_reducible refine (words_v _ 1 1 [y] rfl _ (lit1_C _ y) (Nat.le_refl _) (Wd.one ⟨by omega, by omega⟩) (by omega) Z (by rw [wv_w1]; exact HZ.out)).mono ?_); rintro e x_4 ⟨B4, d4, rfl, h4, hC, hb⟩; replace HB := Aside0.mk (below_step (below_alloc HB.out _) hb); replace HA := Aside0.mk (Kd.C_below (Kd.C_alloc HA.out _) hb); replace HC := Aside0.mk (Kd.C_below (Kd.C_alloc HC.out _) hb); replace HX := Aside0.mk (Kd.C_below (Kd.C_alloc HX.out _) hb); replace HXv := Aside0.mk (Kd.C_below (Kd.C_alloc HXv.out _) hb); have HXz := Aside0.mk hC; clear hC; clear hb)
    | (go_at_call 33; (with_reducible refine (ndiv_v A0 n0 c0 l0 HN0.out y HY.out _ HA.out HW0.out (by omega) q (r : Int) (by rw [HU.out, HZ.out]; exact HQ.out) (by rw [HU.out, HZ.out, HR.out])).mono ?_); rintro e x_5 ⟨B5, d5, rfl, h5, hC, hb⟩; replace HB := Aside0.mk (below_step HB.out hb); replace HA := Aside0.mk (Kd.C_below HA.out hb); replace HC := Aside0.mk (Kd.C_below HC.out hb); replace HX := Aside0.mk (Kd.C_below HX.out hb); replace HXv := Aside0.mk (Kd.C_below HXv.out hb); replace HXz := Aside0.mk (Kd.C_below HXz.out hb); have HD := Aside0.mk hC; clear hC; clear hb)
    | (go_at_call 34; (with_reducible refine (rdiv_v B2 _ d2 u rfl B4 _ d4 Z HZ0.out rfl _ HX.out HXz.out h2 h4 (by omega) (by omega) q r HQ.out HR.out).mono ?_); rintro e x_6 ⟨B6, d6, E6, f6, rfl, h6, g6, hC, hC2, hb⟩; replace HB := Aside0.mk (below_step HB.out hb); replace HA := Aside0.mk (Kd.C_below HA.out hb); replace HC := Aside0.mk (Kd.C_below HC.out hb); replace HX := Aside0.mk (Kd.C_below HX.out hb); replace HXv := Aside0.mk (Kd.C_below HXv.out hb); replace HXz := Aside0.mk (Kd.C_below HXz.out hb); replace HD := Aside0.mk (Kd.C_below HD.out hb); have HE := Aside0.mk hC; have HF := Aside0.mk hC2; clear hC hC2; clear hb)
    | (go_at_call 14; (with_reducible refine (rwords_calls B6 _ d6 q rfl _ HE.out h6 (by omega)).mono ?_); rintro e x_7 ⟨B7, d7, rfl, h7, hC, hb⟩; replace HB := Aside0.mk (below_step HB.out hb); replace HA := Aside0.mk (Kd.C_below HA.out hb); replace HC := Aside0.mk (Kd.C_below HC.out hb); replace HX := Aside0.mk (Kd.C_below HX.out hb); replace HXv := Aside0.mk (Kd.C_below HXv.out hb); replace HXz := Aside0.mk (Kd.C_below HXz.out hb); replace HD := Aside0.mk (Kd.C_below HD.out hb); replace HE := Aside0.mk (Kd.C_below HE.out hb); replace HF := Aside0.mk (Kd.C_below HF.out hb); have HG := Aside0.mk hC; clear hC; clear hb)
    | (go_at_call 12; (with_reducible refine (wsame_calls B5 _ d5 (nw q) rfl B7 _ d7 (nw q) rfl _ HD.out h5 HG.out h7 (by omega)).mono ?_); rw [decide_eq_true (rfl : nw (q) = nw (q))]; rintro e x_8 ⟨rfl, hb⟩; replace HB := Aside0.mk (below_step HB.out hb); replace HA := Aside0.mk (Kd.C_below HA.out hb); replace HC := Aside0.mk (Kd.C_below HC.out hb); replace HX := Aside0.mk (Kd.C_below HX.out hb); replace HXv := Aside0.mk (Kd.C_below HXv.out hb); replace HXz := Aside0.mk (Kd.C_below HXz.out hb); replace HF := Aside0.mk (Kd.C_below HF.out hb); clear hb)
    | (go_at_call 35; (with_reducible refine (rtowords_calls E6 _ f6 r rfl hrlt _ HF.out g6 (by omega)).mono ?_); rintro e x_9 ⟨B9, d9, rfl, h9, hC, hb⟩; replace HB := Aside0.mk (below_step HB.out hb); replace HA := Aside0.mk (Kd.C_below HA.out hb); replace HC := Aside0.mk (Kd.C_below HC.out hb); replace HX := Aside0.mk (Kd.C_below HX.out hb); replace HXv := Aside0.mk (Kd.C_below HXv.out hb); replace HXz := Aside0.mk (Kd.C_below HXz.out hb); have HTW := Aside0.mk hC; clear hC; obtain ⟨adw, ew, hxw⟩ := Kd.at_int HTW.out 0 (by omega) (by simp); subst ew; rw [show adw.add (Int.toNat 0) = adw from Addr.add_zero' adw] at hxw; replace hxw := hxw.trans (congrArg some (congrArg (Value.int .u64) (show rd [(r : Int)] 0 = (r : Int) from rfl))); clear hb)
    | (go_at_call 36; (with_reducible refine (nmul_v A0 n0 c0 l0 HN0.out A1 n1 c1 l1 HN1.out _ HA.out HC.out HW0.out HW1.out (by omega) (by omega) (u * v) (by rw [HU.out, HV.out])).mono ?_); rintro e x_10 ⟨B10, d10, rfl, h10, hC, hb⟩; replace HB := Aside0.mk (below_step HB.out hb); replace HA := Aside0.mk (Kd.C_below HA.out hb); replace HC := Aside0.mk (Kd.C_below HC.out hb); replace HX := Aside0.mk (Kd.C_below HX.out hb); replace HXv := Aside0.mk (Kd.C_below HXv.out hb); replace HXz := Aside0.mk (Kd.C_below HXz.out hb); have HM := Aside0.mk hC; clear hC; clear hb)
    | (go_at_call 37; (with_reducible refine (rmul_v B2 _ d2 u rfl B3 _ d3 v rfl _ HX.out h2 HXv.out h3 (by omega) (by omega)).mono ?_); rintro e x_11 ⟨B11, d11, rfl, h11, hC, hb⟩; replace HB := Aside0.mk (below_step HB.out hb); replace HA := Aside0.mk (Kd.C_below HA.out hb); replace HC := Aside0.mk (Kd.C_below HC.out hb); replace HX := Aside0.mk (Kd.C_below HX.out hb); replace HXv := Aside0.mk (Kd.C_below HXv.out hb); replace HXz := Aside0.mk (Kd.C_below HXz.out hb); replace HM := Aside0.mk (Kd.C_below HM.out hb); have HM2 := Aside0.mk hC; clear hC; clear hb)
    | (go_at_call 14; (with_reducible refine (rwords_calls B11 _ d11 (u * v) rfl _ HM2.out h11 (by omega)).mono ?_); rintro e x_12 ⟨B12, d12, rfl, h12, hC, hb⟩; replace HB := Aside0.mk (below_step HB.out hb); replace HA := Aside0.mk (Kd.C_below HA.out hb); replace HC := Aside0.mk (Kd.C_below HC.out hb); replace HX := Aside0.mk (Kd.C_below HX.out hb); replace HXv := Aside0.mk (Kd.C_below HXv.out hb); replace HXz := Aside0.mk (Kd.C_below HXz.out hb); replace HM := Aside0.mk (Kd.C_below HM.out hb); have HM3 := Aside0.mk hC; clear hC; clear hb)
    | (go_at_call 12; (with_reducible refine (wsame_calls B10 _ d10 (nw (u * v)) rfl B12 _ d12 (nw (u * v)) rfl _ HM.out h10 HM3.out h12 (by omega)).mono ?_); rw [decide_eq_true (rfl : nw (u * v) = nw (u * v))]; rintro e x_13 ⟨rfl, hb⟩; replace HB := Aside0.mk (below_step HB.out hb); replace HA := Aside0.mk (Kd.C_below HA.out hb); replace HC := Aside0.mk (Kd.C_below HC.out hb); replace HX := Aside0.mk (Kd.C_below HX.out hb); replace HXv := Aside0.mk (Kd.C_below HXv.out hb); replace HXz := Aside0.mk (Kd.C_below HXz.out hb); clear hb)
    | (go_at_call 38; (with_reducible refine (nmulw_v A0 n0 c0 l0 HN0.out y ⟨by omega, by omega⟩ _ HA.out HW0.out (by omega) (u * Z) (by rw [HU.out, HZ.out])).mono ?_); rintro e x_14 ⟨B14, d14, rfl, h14, hC, hb⟩; replace HB := Aside0.mk (below_step HB.out hb); replace HA := Aside0.mk (Kd.C_below HA.out hb); replace HC := Aside0.mk (Kd.C_below HC.out hb); replace HX := Aside0.mk (Kd.C_below HX.out hb); replace HXv := Aside0.mk (Kd.C_below HXv.out hb); replace HXz := Aside0.mk (Kd.C_below HXz.out hb); have HP := Aside0.mk hC; clear hC; clear hb)
    | (go_at_call 37; (with_reducible refine (rmul_v B2 _ d2 u rfl B4 _ d4 Z rfl _ HX.out h2 HXz.out h4 (by omega) (by omega)).mono ?_); rintro e x_15 ⟨B15, d15, rfl, h15, hC, hb⟩; replace HB := Aside0.mk (below_step HB.out hb); replace HP := Aside0.mk (Kd.C_below HP.out hb); have HP2 := Aside0.mk hC; clear hC; clear hb)
    | (go_at_call 14; (with_reducible refine (rwords_calls B15 _ d15 (u * Z) rfl _ HP2.out h15 (by omega)).mono ?_); rintro e x_16 ⟨B16, d16, rfl, h16, hC, hb⟩; replace HB := Aside0.mk (below_step HB.out hb); replace HP := Aside0.mk (Kd.C_below HP.out hb); have HP3 := Aside0.mk hC; clear hC; clear hb)
    | (go_at_call 12; (with_reducible refine (wsame_calls B14 _ d14 (nw (u * Z)) rfl B16 _ d16 (nw (u * Z)) rfl _ HP.out h14 HP3.out h16 (by omega)).mono ?_); rw [decide_eq_true (rfl : nw (u * Z) = nw (u * Z))]; rintro e x_17 ⟨rfl, hb⟩; replace HB := Aside0.mk (below_step HB.out hb); clear hb)
    | fail)
  go_ret; exact ⟨rfl, HB.out⟩

set_option maxHeartbeats 6400000 in
set_option maxRecDepth 100000 in
theorem natProducts_Nil (A0 : Option Addr) (n0 c0 : Nat) (l0 : List Int) (hn0 : l0.length = n0) (A1 : Option Addr) (n1 c1 : Nat) (l1 : List Int) (hn1 : l1.length = n1) (y : Int) (hy : y = 0) (w : World) (hr0 : Kd.C (Kd.int .u64) w A0 l0.length l0) (hc0 : n0 ≤ c0) (hr1 : Kd.C (Kd.int .u64) w A1 l1.length l1) (hc1 : n1 ≤ c1) (hw0 : Wd l0) (hw1 : Wd l1) (hl0 : n0 ≤ 40) (hl1 : n1 ≤ 40) :
    Calls Try.prog 6 #[.slice A0 n0 c0, .slice A1 n1 c1, .int .u64 y] w (Tells (.bool true) w) := by
  subst hy
  have hy : (0 : Int) ≤ 0 ∧ (0 : Int) < 18446744073709551616 := by decide
  obtain ⟨u, hu⟩ : ∃ x, wv l0 = x := ⟨_, rfl⟩
  obtain ⟨v, hv⟩ : ∃ x, wv l1 = x := ⟨_, rfl⟩
  obtain ⟨Z, hZ⟩ : ∃ Z, (0 : Int).toNat = Z := ⟨_, rfl⟩
  have hu1 : u < 2 ^ (64 * n0) := by rw [← hu, ← hn0]; exact wv_lt hw0
  have hv1 : v < 2 ^ (64 * n1) := by rw [← hv, ← hn1]; exact wv_lt hw1
  have hZ1 : Z < 2 ^ 64 := by omega
  have l1' : (dg u).length ≤ 1000 := dg_len_bits _ _ hu1 _ (by omega)
  have l2 : (dg v).length ≤ 1000 := dg_len_bits _ _ hv1 _ (by omega)
  have l3 : (dg Z).length ≤ 1000 := dg_len_bits _ _ hZ1 _ (by omega)
  have l4 : (dg (u * v)).length ≤ 1000 := dg_len_bits _ _ (mul_lt_pow hu1 hv1) _ (by omega)
  have l5 : (dg (u * Z)).length ≤ 1000 := dg_len_bits _ _ (mul_lt_pow hu1 hZ1) _ (by omega)
  have l6 : (nw (u * v)).length ≤ 1000 := nw_len_le (mul_lt_pow hu1 hv1) (by omega)
  have l7 : (nw (u * Z)).length ≤ 1000 := nw_len_le (mul_lt_pow hu1 hZ1) (by omega)
  have l8 : (dg (u / Z)).length ≤ 1000 := Nat.le_trans (dg_len_mono (Nat.div_le_self _ _)) l1'
  have l9 : (nw (u / Z)).length ≤ 1000 := nw_len_le (Nat.lt_of_le_of_lt (Nat.div_le_self _ _) hu1) (by omega)
  have HU := Aside0.mk hu
  have HV := Aside0.mk hv
  have HZ := Aside0.mk hZ
  have HW0 := Aside0.mk hw0
  have HW1 := Aside0.mk hw1
  have HN0 := Aside0.mk hn0
  have HN1 := Aside0.mk hn1
  have HY := Aside0.mk hy
  have HA := Aside0.mk hr0
  have HC := Aside0.mk hr1
  clear hu hv hZ hu1 hv1 hZ1 hr0 hr1 hw0 hw1 hn0 hn1
  go_enter Try.func6, Try.ntmps6
  go_wp2_with (first
    | (go_at_call 11; (with_reducible refine (awake_calls _).mono ?_); rintro e x_1 ⟨rfl, hb⟩; have HB := Aside0.mk hb; replace HA := Aside0.mk (Kd.C_below HA.out hb); replace HC := Aside0.mk (Kd.C_below HC.out hb); clear hb)
    | (go_at_call 19; (with_reducible refine (words_v A0 n0 c0 l0 HN0.out _ HA.out hc0 HW0.out (by omega) u HU.out).mono ?_); rintro e x_2 ⟨B2, d2, rfl, h2, hC, hb⟩; replace HB := Aside0.mk (below_step HB.out hb); replace HA := Aside0.mk (Kd.C_below HA.out hb); replace HC := Aside0.mk (Kd.C_below HC.out hb); have HX := Aside0.mk hC; clear hC; clear hb)
    | (go_at_call 19; (with_reducible refine (words_v A1 n1 c1 l1 HN1.out _ HC.out hc1 HW1.out (by omega) v HV.out).mono ?_); rintro e x_3 ⟨B3, d3, rfl, h3, hC, hb⟩; replace HB := Aside0.mk (below_step HB.out hb); replace HA := Aside0.mk (Kd.C_below HA.out hb); replace HC := Aside0.mk (Kd.C_below HC.out hb); replace HX := Aside0.mk (Kd.C_below HX.out hb); have HXv := Aside0.mk hC; clear hC; clear hb)
    | (go_at_call 19; (with_reducible refine (words_v _ 1 1 [(0 : Int)] rfl _ (lit1_C _ (0 : Int)) (Nat.le_refl _) (Wd.one ⟨by omega, by omega⟩) (by omega) Z (by rw [wv_w1]; exact HZ.out)).mono ?_); rintro e x_4 ⟨B4, d4, rfl, h4, hC, hb⟩; replace HB := Aside0.mk (below_step (below_alloc HB.out _) hb); replace HA := Aside0.mk (Kd.C_below (Kd.C_alloc HA.out _) hb); replace HC := Aside0.mk (Kd.C_below (Kd.C_alloc HC.out _) hb); replace HX := Aside0.mk (Kd.C_below (Kd.C_alloc HX.out _) hb); replace HXv := Aside0.mk (Kd.C_below (Kd.C_alloc HXv.out _) hb); have HXz := Aside0.mk hC; clear hC; clear hb)
    | (go_at_call 33; (with_reducible refine (ndiv_zero A0 n0 c0 _).mono ?_); rintro e x_d ⟨rfl, rfl⟩)
    | (go_at_call 36; (with_reducible refine (nmul_v A0 n0 c0 l0 HN0.out A1 n1 c1 l1 HN1.out _ HA.out HC.out HW0.out HW1.out (by omega) (by omega) (u * v) (by rw [HU.out, HV.out])).mono ?_); rintro e x_5 ⟨B5, d5, rfl, h5, hC, hb⟩; replace HB := Aside0.mk (below_step HB.out hb); replace HA := Aside0.mk (Kd.C_below HA.out hb); replace HC := Aside0.mk (Kd.C_below HC.out hb); replace HX := Aside0.mk (Kd.C_below HX.out hb); replace HXv := Aside0.mk (Kd.C_below HXv.out hb); replace HXz := Aside0.mk (Kd.C_below HXz.out hb); have HM := Aside0.mk hC; clear hC; clear hb)
    | (go_at_call 37; (with_reducible refine (rmul_v B2 _ d2 u rfl B3 _ d3 v rfl _ HX.out h2 HXv.out h3 (by omega) (by omega)).mono ?_); rintro e x_6 ⟨B6, d6, rfl, h6, hC, hb⟩; replace HB := Aside0.mk (below_step HB.out hb); replace HA := Aside0.mk (Kd.C_below HA.out hb); replace HC := Aside0.mk (Kd.C_below HC.out hb); replace HX := Aside0.mk (Kd.C_below HX.out hb); replace HXv := Aside0.mk (Kd.C_below HXv.out hb); replace HXz := Aside0.mk (Kd.C_below HXz.out hb); replace HM := Aside0.mk (Kd.C_below HM.out hb); have HM2 := Aside0.mk hC; clear hC; clear hb)
    | (go_at_call 14; (with_reducible refine (rwords_calls B6 _ d6 (u * v) rfl _ HM2.out h6 (by omega)).mono ?_); rintro e x_7 ⟨B7, d7, rfl, h7, hC, hb⟩; replace HB := Aside0.mk (below_step HB.out hb); replace HA := Aside0.mk (Kd.C_below HA.out hb); replace HC := Aside0.mk (Kd.C_below HC.out hb); replace HX := Aside0.mk (Kd.C_below HX.out hb); replace HXv := Aside0.mk (Kd.C_below HXv.out hb); replace HXz := Aside0.mk (Kd.C_below HXz.out hb); replace HM := Aside0.mk (Kd.C_below HM.out hb); have HM3 := Aside0.mk hC; clear hC; clear hb)
    | (go_at_call 12; (with_reducible refine (wsame_calls B5 _ d5 (nw (u * v)) rfl B7 _ d7 (nw (u * v)) rfl _ HM.out h5 HM3.out h7 (by omega)).mono ?_); rw [decide_eq_true (rfl : nw (u * v) = nw (u * v))]; rintro e x_8 ⟨rfl, hb⟩; replace HB := Aside0.mk (below_step HB.out hb); replace HA := Aside0.mk (Kd.C_below HA.out hb); replace HC := Aside0.mk (Kd.C_below HC.out hb); replace HX := Aside0.mk (Kd.C_below HX.out hb); replace HXv := Aside0.mk (Kd.C_below HXv.out hb); replace HXz := Aside0.mk (Kd.C_below HXz.out hb); clear hb)
    | (go_at_call 38; (with_reducible refine (nmulw_v A0 n0 c0 l0 HN0.out (0 : Int) ⟨by omega, by omega⟩ _ HA.out HW0.out (by omega) (u * Z) (by rw [HU.out, HZ.out])).mono ?_); rintro e x_9 ⟨B9, d9, rfl, h9, hC, hb⟩; replace HB := Aside0.mk (below_step HB.out hb); replace HA := Aside0.mk (Kd.C_below HA.out hb); replace HC := Aside0.mk (Kd.C_below HC.out hb); replace HX := Aside0.mk (Kd.C_below HX.out hb); replace HXv := Aside0.mk (Kd.C_below HXv.out hb); replace HXz := Aside0.mk (Kd.C_below HXz.out hb); have HP := Aside0.mk hC; clear hC; clear hb)
    | (go_at_call 37; (with_reducible refine (rmul_v B2 _ d2 u rfl B4 _ d4 Z rfl _ HX.out h2 HXz.out h4 (by omega) (by omega)).mono ?_); rintro e x_10 ⟨B10, d10, rfl, h10, hC, hb⟩; replace HB := Aside0.mk (below_step HB.out hb); replace HP := Aside0.mk (Kd.C_below HP.out hb); have HP2 := Aside0.mk hC; clear hC; clear hb)
    | (go_at_call 14; (with_reducible refine (rwords_calls B10 _ d10 (u * Z) rfl _ HP2.out h10 (by omega)).mono ?_); rintro e x_11 ⟨B11, d11, rfl, h11, hC, hb⟩; replace HB := Aside0.mk (below_step HB.out hb); replace HP := Aside0.mk (Kd.C_below HP.out hb); have HP3 := Aside0.mk hC; clear hC; clear hb)
    | (go_at_call 12; (with_reducible refine (wsame_calls B9 _ d9 (nw (u * Z)) rfl B11 _ d11 (nw (u * Z)) rfl _ HP.out h9 HP3.out h11 (by omega)).mono ?_); rw [decide_eq_true (rfl : nw (u * Z) = nw (u * Z))]; rintro e x_12 ⟨rfl, hb⟩; replace HB := Aside0.mk (below_step HB.out hb); clear hb)
    | fail)
  go_ret; exact ⟨rfl, HB.out⟩

theorem natProducts_walk (a0 : Option Addr) (len0 cap0 : Nat) (z0 : List Int) (a1 : Option Addr) (len1 cap1 : Nat) (z1 : List Int) (y : Int) (w : World) (w0 : (a0 = none ∧ len0 = 0 ∧ cap0 = 0 ∧ z0 = []) ∨ ∃ x, a0 = some x ∧ len0 ≤ cap0 ∧ cap0 ≤ maxLen ∧ z0.length = cap0 ∧ (∀ i, i < z0.length → w.cell? (x.add i) = some (.int .u64 (z0.getD i 0))) ∧ ∀ n ∈ z0, (Lit.int .u64 n).wf = true) (y0 : len0 * 8 ≤ 140737488351232) (w1 : (a1 = none ∧ len1 = 0 ∧ cap1 = 0 ∧ z1 = []) ∨ ∃ x, a1 = some x ∧ len1 ≤ cap1 ∧ cap1 ≤ maxLen ∧ z1.length = cap1 ∧ (∀ i, i < z1.length → w.cell? (x.add i) = some (.int .u64 (z1.getD i 0))) ∧ ∀ n ∈ z1, (Lit.int .u64 n).wf = true) (y1 : len1 * 8 ≤ 140737488351232) (w2 : (Lit.int .u64 y).wf = true) :
    Calls Try.prog 6 #[.slice a0 len0 cap0, .slice a1 len1 cap1, .int .u64 y] w fun e w' => e = .returned (.bool true) ∧ Below w.heap.size w w' := by
  obtain ⟨l0, rfl, hr0, hm0, hw0, hc0⟩ := ReadsInt.ofRowC w0
  obtain ⟨l1, rfl, hr1, hm1, hw1, hc1⟩ := ReadsInt.ofRowC w1
  have hy := wf_u64 w2
  by_cases hbig : 40 < l0.length ∨ 40 < l1.length
  · exact natProducts_big a0 _ cap0 a1 _ cap1 y w (by omega) (by omega) hbig
  have h0 := Kd.C_of_reads (d := (0 : Int)) (h1 := fun _ => rfl) hr0
  have h1 := Kd.C_of_reads (d := (0 : Int)) (h1 := fun _ => rfl) hr1
  by_cases hz : y = 0
  · subst hz
    exact natProducts_Nil a0 _ cap0 l0 rfl a1 _ cap1 l1 rfl 0 rfl w h0 hc0 h1 hc1 (fun x hx => wf_u64 (hw0 x hx)) (fun x hx => wf_u64 (hw1 x hx)) (by omega) (by omega)
  · exact natProducts_Pos a0 _ cap0 l0 rfl a1 _ cap1 l1 rfl y (by omega) w h0 hc0 h1 hc1 (fun x hx => wf_u64 (hw0 x hx)) (fun x hx => wf_u64 (hw1 x hx)) (by omega) (by omega)
end Go.Proofs.Ytjkelnnjfpcapaa.Num
end
