/- nat: Bytes, Of, Left: the calls do what numbers do. -/
import Derived.Test.YtjkelnnjfpcapaaNatD
import Derived.Laws.Bits64b
namespace Go.Proofs.Ytjkelnnjfpcapaa.Num
open Go.RowKit Go.Shelf Go.Proofs.Ytjkelnnjfpcapaa.PNat Go.Proofs.YtjkelnnjfpcapaaW Go.Proofs.YtjkelnnjfpcapaaW.PrintWords Go.Proofs.YtjkelnnjfpcapaaW.PrintLast Go.Proofs.YtjkelnnjfpcapaaW.PrintMore

/-- What comes back: a slice that reads as these bytes. -/
def ResB (w : World) (l : List Int) (e : Ending) (w' : World) : Prop :=
  ∃ A c, e = .returned (.slice A l.length c) ∧ l.length ≤ c ∧ Kd.C (Kd.int .u8) w' A l.length l ∧ Below w.heap.size w w'
theorem made_RB (W : World) (base m : Nat) (hb : base ≤ W.heap.size) (hm : m ≤ 9223372036854775807) :
    (Kd.int .u8).R 5 (W.alloc (.cells (madeCells #[.int .u8 0] m) 5)) base (fun _ => True) (.slice (some ⟨W.heap.size, 0, none⟩) m m) (List.replicate m 0) :=
  Kd.R_of_own (by rw [List.length_replicate]; exact own_made W base 5 .u8 m hb hm) (fun _ _ => trivial)

theorem le_succ : ∀ k v, le (k + 1) v = le k v ++ [((v / 256 ^ k % 256 : Nat) : Int)]
  | 0, v => by simp [le]
  | k + 1, v => by
    rw [le, le_succ k (v / 256), le, Nat.div_div_eq_div_mul, show 256 * 256 ^ k = 256 ^ (k + 1) from by rw [Nat.pow_succ, Nat.mul_comm]]
    rfl
theorem le_rev (k v : Nat) : (le (k + 1) v).reverse = ((v / 256 ^ k % 256 : Nat) : Int) :: (le k v).reverse := by rw [le_succ, List.reverse_append]; rfl
theorem wv_div (l : List Int) (h : Wd l) (j : Nat) : wv l / 2 ^ (64 * j) = wv (l.drop j) := by
  have e1 : wv l = wv (l.take j) + 2 ^ (64 * (l.take j).length) * wv (l.drop j) := by rw [← wv_append, List.take_append_drop]
  have l1 : wv (l.take j) < 2 ^ (64 * (l.take j).length) := wv_lt (fun x hx => h x (List.mem_of_mem_take hx))
  by_cases hj : j ≤ l.length
  · rw [show (l.take j).length = j from by simp; omega] at e1 l1
    rw [e1, Nat.add_comm, Nat.mul_add_div (Nat.pow_pos (by omega)), Nat.div_eq_of_lt l1, Nat.add_zero]
  · have hlt : wv l < 2 ^ (64 * j) := Nat.lt_of_lt_of_le (wv_lt h) (Nat.pow_le_pow_right (by omega) (by omega))
    rw [Nat.div_eq_of_lt hlt, List.drop_of_length_le (by omega)]; rfl
theorem word_byte (l : List Int) (h : Wd l) (k : Nat) : rd l ((k / 8 : Nat) : Int) / 2 ^ (8 * (k % 8)) % 256 = ((wv l / 256 ^ k % 256 : Nat) : Int) := by
  have hx := h.rd ((k / 8 : Nat) : Int)
  have e1 : (256 : Nat) ^ k = 2 ^ (64 * (k / 8)) * 2 ^ (8 * (k % 8)) := by
    rw [← Nat.pow_add, show (256 : Nat) = 2 ^ 8 from rfl, ← Nat.pow_mul]; congr 1; omega
  rw [e1, ← Nat.div_div_eq_div_mul, wv_div l h, wv_drop]
  generalize rd l ((k / 8 : Nat) : Int) = x at hx ⊢
  generalize wv (l.drop (k / 8 + 1)) = y
  obtain ⟨x, rfl⟩ : ∃ n : Nat, x = n := ⟨x.toNat, by omega⟩
  rw [Int.toNat_natCast]
  have : k % 8 = 0 ∨ k % 8 = 1 ∨ k % 8 = 2 ∨ k % 8 = 3 ∨ k % 8 = 4 ∨ k % 8 = 5 ∨ k % 8 = 6 ∨ k % 8 = 7 := by omega
  rcases this with e | e | e | e | e | e | e | e <;> rw [e] <;> simp only [Nat.mul_zero, Nat.reduceMul, Nat.reducePow, Int.reducePow] <;> omega
theorem set_back (r : Nat) (t : List Int) (x : Int) : (List.replicate (r + 1) 0 ++ t).set r x = List.replicate r 0 ++ x :: t := by
  rw [show List.replicate (r + 1) (0 : Int) = List.replicate r 0 ++ [0] from List.replicate_succ', List.append_assoc, List.set_append_right _ _ (by simp)]
  simp

set_option maxHeartbeats 1600000 in
set_option maxRecDepth 100000 in
theorem nbytes_calls (A0 : Option Addr) (n0 c0 : Nat) (l0 : List Int) (hn0 : l0.length = n0) (w : World) (hr0 : Kd.C (Kd.int .u64) w A0 l0.length l0) (hc0 : n0 ≤ c0) (hw0 : Wd l0) (hl0 : n0 ≤ 100000) :
    Calls Try.prog 17 #[.slice A0 n0 c0] w (ResB w (nb (wv l0))) := by
  have HB0 := Aside0.mk (nbits_calls A0 n0 c0 l0 hn0 w hr0 hc0 hw0 (by omega))
  have HR0 := Aside0.mk hr0
  have HW0 := Aside0.mk hw0
  have hbl : bl (wv l0) ≤ 64 * n0 := by rw [← hn0]; exact (bl_le _ _).2 (wv_lt hw0)
  clear hr0 hw0
  obtain ⟨m, hm⟩ : ∃ m : Nat, m = (bl (wv l0) + 7) / 8 := ⟨_, rfl⟩
  have hmi : ((bl (wv l0) : Int) + 7) / 8 = (m : Int) := by omega
  have hm8 : m ≤ 8 * n0 := by omega
  have HM := Aside0.mk hm
  have HNB := Aside0.mk hm
  clear hm
  generalize bl (wv l0) = B at HB0 HM hbl hmi
  have hmk := print_make (P := Try.prog) 22 5 .u8 1 Try.underlying22 info5 (by decide) m (by omega)
  go_enter Try.func17, Try.ntmps17
  go_wp2_with (go_at_call 32; (with_reducible refine HB0.out.mono ?_); rintro e w' ⟨rfl, rfl⟩)
  go_loopw [13] (fun v13 wr => ∃ (k r : Nat), k + r = m ∧ v13 = .int .i64 k ∧ w.heap.size < wr.heap.size ∧ Aside0 ((Kd.int .u8).R 5 wr w.heap.size (fun _ => True) (.slice (some ⟨w.heap.size, 0, none⟩) m m) (List.replicate r 0 ++ (le k (wv l0)).reverse)) ∧ Aside0 (Below w.heap.size w wr))
    (fun v13 _ => m - (intOf v13).toNat)
  case atStart => exact ⟨0, m, by omega, rfl, by simp, ⟨by rw [le]; simpa using made_RB w _ _ (Nat.le_refl _) (by omega)⟩, ⟨below_alloc (Below.refl _ _) _⟩⟩
  case round =>
    obtain ⟨k, r, hkr, rfl, hhs, HO, HB⟩ := hrel
    by_cases hlt : k < m
    · obtain ⟨r, rfl⟩ : ∃ j, r = j + 1 := ⟨r - 1, by omega⟩
      obtain ⟨ad0, e0, hx0⟩ := Kd.at_int (Kd.C_below HR0.out HB.out) ((k / 8 : Nat) : Int) (by omega) (by omega)
      rw [Int.toNat_natCast] at hx0
      subst e0
      have hx := HW0.out.rd ((k / 8 : Nat) : Int)
      obtain ⟨x, Ex⟩ : ∃ x, Aside0 (x = rd l0 ((k / 8 : Nat) : Int)) := ⟨_, ⟨rfl⟩⟩
      rw [← Ex.out] at hx0 hx
      have HX := Aside0.mk hx
      clear hx
      obtain ⟨hcl, hfz⟩ := Kd.R_celln 0 HO.out ((m - 1 - k : Nat) : Int) (by omega) (by omega)
      rw [Int.toNat_natCast] at hcl hfz
      have hHR := (Kd.R_putg HO.out ((m - 1 - k : Nat) : Int) (x / 2 ^ (8 * (k % 8)) % 256)).1
      rw [Int.toNat_natCast] at hHR
      have e : (List.replicate (r + 1) 0 ++ (le k (wv l0)).reverse).set (m - 1 - k) (x / 2 ^ (8 * (k % 8)) % 256) = List.replicate r 0 ++ (le (k + 1) (wv l0)).reverse := by
        rw [show m - 1 - k = r from by omega, set_back, le_rev, ← word_byte l0 HW0.out k, ← Ex.out]
      rw [e] at hHR
      have HR := Aside0.mk hHR
      clear hHR e
      go_wp2
      go_roundw
      case rel => exact ⟨k + 1, r, by omega, by go_num, by simp [World.setCell]; omega, HR, ⟨HB.out.setCell (Nat.le_refl _) _⟩⟩
      case measure => simp [intOf]; omega
    · have hkm : k = m := by omega
      obtain rfl : r = 0 := by omega
      subst hkm
      have e : List.replicate 0 0 ++ (le k (wv l0)).reverse = nb (wv l0) := by rw [nb, ← HNB.out]; rfl
      rw [e] at HO
      have hl : (nb (wv l0)).length = k := by rw [nb, be_len, ← HNB.out]
      have HL := Aside0.mk hl
      clear hl e
      go_wp2
      go_ret
      have h := Kd.R_reads' HO.out
      rw [← HL.out]
      exact ⟨_, _, rfl, Nat.le_refl _, h.2.2, HB.out⟩

theorem or_u64 (z x : Int) (s : Nat) (hs : s ≤ 56) (hz : 0 ≤ z ∧ z < 18446744073709551616) (hd : z.toNat % 2 ^ (s + 8) = 0) (hx : 0 ≤ x ∧ x < 256) :
    bits .or .u64 z (IntKind.u64.wrap (x * 2 ^ s)) = z + x * 2 ^ s ∧ 0 ≤ z + x * 2 ^ s ∧ z + x * 2 ^ s < 18446744073709551616 := by
  obtain ⟨z, rfl⟩ : ∃ n : Nat, z = n := ⟨z.toNat, by omega⟩
  obtain ⟨x, rfl⟩ : ∃ n : Nat, x = n := ⟨x.toNat, by omega⟩
  rw [Int.toNat_natCast] at hd
  have h1 : x * 2 ^ s < 2 ^ (s + 8) := by rw [Nat.pow_add, Nat.mul_comm]; exact Nat.mul_lt_mul_of_pos_left (by omega) (Nat.pow_pos (by omega))
  have h2 : 2 ^ (s + 8) ≤ 2 ^ 64 := Nat.pow_le_pow_right (by omega) (by omega)
  have e : (x : Int) * 2 ^ s = ((x * 2 ^ s : Nat) : Int) := by push_cast; rfl
  have e2 : z = 2 ^ (s + 8) * (z / 2 ^ (s + 8)) := by have := Nat.div_add_mod z (2 ^ (s + 8)); omega
  have e3 : z + x * 2 ^ s = z ||| x * 2 ^ s := by
    conv => lhs; rw [e2]
    conv => rhs; rw [e2]
    exact Nat.two_pow_add_eq_or_of_lt h1 _
  have h3 : z + x * 2 ^ s < 2 ^ 64 := by
    rw [e3]; exact Nat.or_lt_two_pow (by omega) (Nat.lt_of_lt_of_le h1 h2)
  rw [e, IntWalk.u64_in _ (by omega), bits_or_u64_nat z (x * 2 ^ s) (by omega) (by omega), ← e3]
  omega
theorem of_step (n0 k : Nat) (out : List Int) (V x : Nat) (hk : k < n0) (ho : Wd out) (hl : (n0 - 1 - k) / 8 < out.length) (hv : wv out = V * 256 ^ (n0 - k)) :
    (rd out (((n0 - 1 - k) / 8 : Nat) : Int)).toNat % 2 ^ (8 * ((n0 - 1 - k) % 8) + 8) = 0 ∧
    wv (out.set ((n0 - 1 - k) / 8) (rd out (((n0 - 1 - k) / 8 : Nat) : Int) + (x : Int) * 2 ^ (8 * ((n0 - 1 - k) % 8)))) = (256 * V + x) * 256 ^ (n0 - (k + 1)) := by
  obtain ⟨K, hK⟩ : ∃ K, K = n0 - 1 - k := ⟨_, rfl⟩
  rw [show n0 - k = K + 1 from by omega] at hv
  rw [← hK] at hl ⊢
  rw [show n0 - (k + 1) = K from by omega]
  have hz := ho.rd ((K / 8 : Nat) : Int)
  have e1 : (256 : Nat) ^ K = 2 ^ (64 * (K / 8)) * 2 ^ (8 * (K % 8)) := by
    rw [← Nat.pow_add, show (256 : Nat) = 2 ^ 8 from rfl, ← Nat.pow_mul]; congr 1; omega
  have e2 : (256 : Nat) ^ (K + 1) = 2 ^ (64 * (K / 8)) * 2 ^ (8 * (K % 8) + 8) := by
    rw [← Nat.pow_add, show (256 : Nat) = 2 ^ 8 from rfl, ← Nat.pow_mul]; congr 1; omega
  have e3 := wv_div out ho (K / 8)
  rw [hv, e2, Nat.mul_comm V, Nat.mul_assoc, Nat.mul_div_cancel_left _ (Nat.pow_pos (by omega)), wv_drop] at e3
  constructor
  · have h64 : 18446744073709551616 = 2 ^ (8 * (K % 8) + 8) * 2 ^ (56 - 8 * (K % 8)) := by rw [← Nat.pow_add, show 8 * (K % 8) + 8 + (56 - 8 * (K % 8)) = 64 from by omega]
    have h5 : (rd out ((K / 8 : Nat) : Int)).toNat + 2 ^ (8 * (K % 8) + 8) * (2 ^ (56 - 8 * (K % 8)) * wv (out.drop (K / 8 + 1))) = 2 ^ (8 * (K % 8) + 8) * V := by rw [← Nat.mul_assoc, ← h64]; exact e3.symm
    have h6 : ((rd out ((K / 8 : Nat) : Int)).toNat + 2 ^ (8 * (K % 8) + 8) * (2 ^ (56 - 8 * (K % 8)) * wv (out.drop (K / 8 + 1)))) % 2 ^ (8 * (K % 8) + 8) = 0 := by rw [h5]; exact Nat.mul_mod_right _ _
    rwa [Nat.add_mul_mod_self_left] at h6
  · have h := wv_set out (K / 8) (rd out ((K / 8 : Nat) : Int) + (x : Int) * 2 ^ (8 * (K % 8))) hl
    have e5 : (rd out ((K / 8 : Nat) : Int) + (x : Int) * 2 ^ (8 * (K % 8))).toNat = (rd out ((K / 8 : Nat) : Int)).toNat + x * 2 ^ (8 * (K % 8)) := by
      have : (x : Int) * 2 ^ (8 * (K % 8)) = ((x * 2 ^ (8 * (K % 8)) : Nat) : Int) := by push_cast; rfl
      rw [this]; omega
    rw [e5, Nat.mul_add, hv] at h
    have e6 : 2 ^ (64 * (K / 8)) * (x * 2 ^ (8 * (K % 8))) = x * 256 ^ K := by rw [e1]; grind
    have e7 : V * 256 ^ (K + 1) = 256 * V * 256 ^ K := by rw [Nat.pow_succ]; grind
    rw [e6, e7] at h
    rw [Nat.add_mul]
    omega

set_option maxHeartbeats 1600000 in
set_option maxRecDepth 100000 in
theorem nof_calls (A0 : Option Addr) (n0 c0 : Nat) (l0 : List Int) (hn0 : l0.length = n0) (w : World) (hr0 : Kd.C (Kd.int .u8) w A0 l0.length l0) (hb0 : By l0) (hl0 : n0 ≤ 100000) :
    Calls Try.prog 13 #[.slice A0 n0 c0] w (Res w (bv l0)) := by
  have HR0 := Aside0.mk hr0
  have HB0 := Aside0.mk hb0
  clear hr0 hb0
  obtain ⟨m, hm⟩ : ∃ m : Nat, m = n0 / 8 + 1 := ⟨_, rfl⟩
  have hmk := print_make (P := Try.prog) 23 35 .u64 8 Try.underlying23 info35 (by decide) m (by omega)
  rw [show (m : Int) = (n0 : Int) / 8 + 1 from by omega] at hmk
  have hm1 : n0 < 8 * m := by omega
  have hm2 : m ≤ 100001 := by omega
  clear hm
  go_enter Try.func13, Try.ntmps13
  go_wp2
  go_loopw [14] (fun v14 wr => ∃ (k : Nat) (out : List Int), k ≤ n0 ∧ v14 = .int .i64 k ∧ out.length = m ∧ w.heap.size < wr.heap.size ∧ Aside0 (Wd out ∧ wv out = bv (l0.take k) * 256 ^ (n0 - k)) ∧ Aside0 ((Kd.int .u64).R 35 wr w.heap.size (fun _ => True) (.slice (some ⟨w.heap.size, 0, none⟩) m m) out) ∧ Aside0 (Below w.heap.size w wr))
    (fun v14 _ => n0 - (intOf v14).toNat)
  case atStart => exact ⟨0, List.replicate m 0, by omega, rfl, by simp, by simp, ⟨Wd.zeros _, by simp [wv_zeros, bv]⟩, ⟨made_R w _ m (Nat.le_refl _) (by omega)⟩, ⟨below_alloc (Below.refl _ _) _⟩⟩
  case round =>
    obtain ⟨k, out, hk, rfl, hol, hhs, HV, HO, HB⟩ := hrel
    by_cases hlt : k < n0
    · obtain ⟨ad0, e0, hx0⟩ := Kd.at_int (Kd.C_below HR0.out HB.out) (k : Int) (by omega) (by omega)
      rw [Int.toNat_natCast] at hx0
      subst e0
      have hx := HB0.out.rd (k : Int)
      obtain ⟨x, Ex⟩ : ∃ x, Aside0 (x = rd l0 (k : Int)) := ⟨_, ⟨rfl⟩⟩
      rw [← Ex.out] at hx0 hx
      obtain ⟨hcl, hfz⟩ := Kd.R_celln 0 HO.out (((n0 - 1 - k) / 8 : Nat) : Int) (by omega) (by omega)
      rw [Int.toNat_natCast] at hcl hfz
      change wr.cell? _ = some (.int .u64 (rd out (((n0 - 1 - k) / 8 : Nat) : Int))) at hcl
      have hz := HV.out.1.rd (((n0 - 1 - k) / 8 : Nat) : Int)
      obtain ⟨z, Ez⟩ : ∃ z, Aside0 (z = rd out (((n0 - 1 - k) / 8 : Nat) : Int)) := ⟨_, ⟨rfl⟩⟩
      rw [← Ez.out] at hcl hz
      have HZ := Aside0.mk hz
      have hst := of_step n0 k out (bv (l0.take k)) x.toNat hlt HV.out.1 (by omega) HV.out.2
      rw [← Ez.out, show ((x.toNat : Nat) : Int) = x from by omega] at hst
      have hor := or_u64 z x (8 * ((n0 - 1 - k) % 8)) (by omega) hz hst.1 hx
      have hHR := (Kd.R_putg HO.out (((n0 - 1 - k) / 8 : Nat) : Int) (z + x * 2 ^ (8 * ((n0 - 1 - k) % 8)))).1
      rw [Int.toNat_natCast] at hHR
      have HR := Aside0.mk hHR
      have HN : Aside0 (Wd (out.set ((n0 - 1 - k) / 8) (z + x * 2 ^ (8 * ((n0 - 1 - k) % 8)))) ∧ wv (out.set ((n0 - 1 - k) / 8) (z + x * 2 ^ (8 * ((n0 - 1 - k) % 8)))) = bv (l0.take (k + 1)) * 256 ^ (n0 - (k + 1))) := ⟨HV.out.1.set _ hor.2, by rw [hst.2, bv_take l0 k (by omega), Ex.out]⟩
      have hor1 := hor.1
      rw [← hor1] at HR
      have HOR := Aside0.mk hor1
      clear hz hst hor hHR hor1
      go_wp2
      go_roundw
      case rel => exact ⟨k + 1, _, by omega, by go_num, by rw [List.length_set]; exact hol, by simp [World.setCell]; omega, by rw [HOR.out]; exact HN, HR, ⟨HB.out.setCell (Nat.le_refl _) _⟩⟩
      case measure => simp [intOf]; omega
    · have hkn : k = n0 := by omega
      have HF : Aside0 (Wd out ∧ wv out = bv l0) := ⟨HV.out.1, by have := HV.out.2; rwa [hkn, List.take_of_length_le (by omega), Nat.sub_self, Nat.pow_zero, Nat.mul_one] at this⟩
      have HCC : Aside0 (Kd.C (Kd.int .u64) wr (some ⟨w.heap.size, 0, none⟩) out.length out) := ⟨(Kd.R_reads' HO.out).2.2⟩
      have HL := Aside0.mk hol
      clear hol
      go_wp2_with (go_at_call 31; (with_reducible refine (trim_of _ _ _ _ HL.out _ HCC.out (Nat.le_refl _) (by omega)).mono ?_); rintro e w' ⟨rfl, rfl⟩)
      go_ret
      have := trim_Res (w := w) HCC.out HF.out.1 HB.out
      rw [HF.out.2] at this
      exact this
end Go.Proofs.Ytjkelnnjfpcapaa.Num
