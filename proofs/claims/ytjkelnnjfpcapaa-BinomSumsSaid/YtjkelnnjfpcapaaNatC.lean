/- nat: Mul, MulWord: the calls do what numbers do. -/
import Derived.Test.YtjkelnnjfpcapaaNatB
namespace Go.Proofs.Ytjkelnnjfpcapaa.Num
open Go.RowKit Go.Shelf Go.Proofs.Ytjkelnnjfpcapaa.PNat Go.Proofs.YtjkelnnjfpcapaaW Go.Proofs.YtjkelnnjfpcapaaW.PrintWords Go.Proofs.YtjkelnnjfpcapaaW.PrintLast Go.Proofs.YtjkelnnjfpcapaaW.PrintMore

theorem mul64_calls (x y : Int) (hx : 0 ≤ x ∧ x < 18446744073709551616) (hy : 0 ≤ y ∧ y < 18446744073709551616) : ∃ hi lo : Int, Aside0 (lo + 18446744073709551616 * hi = x * y ∧ 0 ≤ lo ∧ lo < 18446744073709551616 ∧ 0 ≤ hi ∧ hi < 18446744073709551616) ∧
    ∀ W, Calls Try.prog 56 #[.int .u64 x, .int .u64 y] W fun e w' => e = .returned (.tuple #[.int .u64 hi, .int .u64 lo]) ∧ W = w' := by
  obtain ⟨x, rfl⟩ : ∃ n : Nat, x = n := ⟨x.toNat, by omega⟩
  obtain ⟨y, rfl⟩ : ∃ n : Nat, y = n := ⟨y.toNat, by omega⟩
  have h1 : x * y ≤ 18446744073709551615 * 18446744073709551615 := Nat.mul_le_mul (by omega) (by omega)
  refine ⟨((x * y / 18446744073709551616 : Nat) : Int), ((x * y % 18446744073709551616 : Nat) : Int), ⟨?_⟩, fun W => (Go.Proofs.Try.bits_Mul64 x y (by omega) (by omega) W).mono fun e w' h => ⟨h.1, h.2.symm⟩⟩
  rw [← Int.natCast_mul]
  generalize x * y = z at h1 ⊢
  omega
theorem wv_set : ∀ (l : List Int) (p : Nat) (v : Int), p < l.length → wv (l.set p v) + 2 ^ (64 * p) * (rd l (p : Int)).toNat = wv l + 2 ^ (64 * p) * v.toNat
  | [], p, v, h => by simp at h
  | x :: r, 0, v, _ => by simp [wv, rd]; omega
  | x :: r, p + 1, v, h => by
    have ih := wv_set r p v (by simpa using h)
    have e : rd (x :: r) ((p + 1 : Nat) : Int) = rd r (p : Int) := by simp [rd]
    rw [List.set_cons_succ, wv, wv, e, show 64 * (p + 1) = 64 * p + 64 from by omega, Nat.pow_add, Nat.mul_comm (2 ^ (64 * p)) (2 ^ 64), Nat.mul_assoc, Nat.mul_assoc]
    generalize 2 ^ (64 * p) * (rd r (p : Int)).toNat = A at ih ⊢
    generalize 2 ^ (64 * p) * v.toNat = C at ih ⊢
    omega
theorem Wd.set {l : List Int} (h : Wd l) (p : Nat) {v : Int} (hv : 0 ≤ v ∧ v < 18446744073709551616) : Wd (l.set p v) := fun x hx => by
  rcases List.mem_or_eq_of_mem_set hx with h1 | rfl
  · exact h x h1
  · exact hv
theorem Wd.zeros (n : Nat) : Wd (List.replicate n 0) := fun x hx => by rw [(List.mem_replicate.1 hx).2]; decide
theorem wv_zeros : ∀ n : Nat, wv (List.replicate n 0) = 0
  | 0 => rfl
  | n + 1 => by rw [List.replicate_succ, wv, wv_zeros n]; rfl
theorem mul_step {P P' Qi Qj c T x y z s o hi lo V : Nat} (h1 : P + Qi * Qj * c = T + Qi * (x * V)) (h2 : P' + Qi * Qj * z = P + Qi * Qj * s) (h3 : lo + 18446744073709551616 * hi = x * y) (h4 : s + 18446744073709551616 * o = lo + z + c) :
    P' + Qi * Qj * 18446744073709551616 * (hi + o) = T + Qi * (x * (V + Qj * y)) := by
  have h5 : Qi * Qj * (s + 18446744073709551616 * (hi + o)) = Qi * Qj * (x * y + z + c) := by rw [← h3]; congr 1; omega
  have h6 : Qi * (x * (V + Qj * y)) = Qi * (x * V) + Qi * Qj * (x * y) := by grind
  rw [h6]
  generalize Qi * Qj = Q at *
  have a1 : Q * (s + 18446744073709551616 * (hi + o)) = Q * s + Q * 18446744073709551616 * (hi + o) := by rw [Nat.mul_add, Nat.mul_assoc]
  have a2 : Q * (x * y + z + c) = Q * (x * y) + Q * z + Q * c := by rw [Nat.mul_add, Nat.mul_add]
  omega
theorem rd_zeros (n : Nat) (p : Nat) : rd (List.replicate n 0) (p : Int) = 0 := by
  simp only [rd, List.getD_eq_getElem?_getD, List.getElem?_replicate]; split <;> rfl

def MulOut (l0 l1 : List Int) (i : Nat) (out : List Int) : Prop :=
  out.length = l0.length + l1.length ∧ Wd out ∧ (∀ p, i + l1.length ≤ p → rd out ((p : Nat) : Int) = 0) ∧ wv out = wv (l0.take i) * wv l1
def MulIn (l0 l1 : List Int) (i j : Nat) (c : Int) (out : List Int) : Prop :=
  out.length = l0.length + l1.length ∧ Wd out ∧ (∀ p, i + l1.length ≤ p → rd out ((p : Nat) : Int) = 0) ∧ (0 ≤ c ∧ c < 18446744073709551616) ∧
    wv out + 2 ^ (64 * i) * 2 ^ (64 * j) * c.toNat = wv (l0.take i) * wv l1 + 2 ^ (64 * i) * ((rd l0 (i : Int)).toNat * wv (l1.take j))
theorem MulOut.start (l0 l1 : List Int) : MulOut l0 l1 0 (List.replicate (l0.length + l1.length) 0) := ⟨by simp, Wd.zeros _, fun p _ => rd_zeros _ p, by simp [wv_zeros, wv]⟩
theorem MulOut.inn {l0 l1 out : List Int} {i : Nat} (h : MulOut l0 l1 i out) : MulIn l0 l1 i 0 0 out := ⟨h.1, h.2.1, h.2.2.1, by omega, by simp [h.2.2.2, wv]⟩
theorem MulIn.step {l0 l1 out : List Int} {i j : Nat} {c s o hi lo : Int} (h : MulIn l0 l1 i j c out) (hw0 : Wd l0) (hw1 : Wd l1) (hi0 : i < l0.length) (hj : j < l1.length)
    (h3 : lo + 18446744073709551616 * hi = rd l0 (i : Int) * rd l1 (j : Int) ∧ 0 ≤ lo ∧ lo < 18446744073709551616 ∧ 0 ≤ hi ∧ hi < 18446744073709551616) (h4 : s + 18446744073709551616 * o = lo + rd out ((i + j : Nat) : Int) + c ∧ 0 ≤ s ∧ s < 18446744073709551616) (ho : 0 ≤ o) :
    MulIn l0 l1 i (j + 1) (hi + o) (out.set (i + j) s) ∧ hi + o < 18446744073709551616 := by
  obtain ⟨h5, h6, h7, h8, h9⟩ := h
  have dx := hw0.rd (i : Int)
  have dy := hw1.rd (j : Int)
  have dz := h6.rd ((i + j : Nat) : Int)
  have p1 : rd l0 (i : Int) * rd l1 (j : Int) ≤ 18446744073709551615 * 18446744073709551615 := Int.mul_le_mul (by omega) (by omega) dy.1 (by omega)
  have p2 : (rd l0 (i : Int) * rd l1 (j : Int)).toNat = (rd l0 (i : Int)).toNat * (rd l1 (j : Int)).toNat := Int.toNat_mul dx.1 dy.1
  have hlt : hi + o < 18446744073709551616 := by
    generalize rd l0 (i : Int) * rd l1 (j : Int) = z at h3 p1
    omega
  refine ⟨⟨by rw [List.length_set, h5], h6.set _ h4.2, fun p hp => by rw [rd_set _ _ _ _ (by omega), if_neg (by omega)]; exact h7 p hp, ⟨by omega, hlt⟩, ?_⟩, hlt⟩
  have e1 := wv_set out (i + j) s (by omega)
  rw [show 64 * (i + j) = 64 * i + 64 * j from by omega, Nat.pow_add] at e1
  rw [wv_take_succ l1 j, show 64 * (j + 1) = 64 * j + 64 from by omega, Nat.pow_add, ← Nat.mul_assoc, show (hi + o).toNat = hi.toNat + o.toNat from by omega]
  refine mul_step h9 e1 (lo := lo.toNat) ?_ (by omega)
  rw [← p2]
  generalize rd l0 (i : Int) * rd l1 (j : Int) = z at h3
  omega
theorem MulIn.out {l0 l1 out : List Int} {i : Nat} {c : Int} (h : MulIn l0 l1 i l1.length c out) (hi0 : i < l0.length) : MulOut l0 l1 (i + 1) (out.set (i + l1.length) c) := by
  obtain ⟨h5, h6, h7, h8, h9⟩ := h
  have hz := h7 (i + l1.length) (Nat.le_refl _)
  have e1 := wv_set out (i + l1.length) c (by omega)
  rw [hz, show 64 * (i + l1.length) = 64 * i + 64 * l1.length from by omega, Nat.pow_add] at e1
  refine ⟨by rw [List.length_set, h5], h6.set _ h8, fun p hp => by rw [rd_set _ _ _ _ (by omega), if_neg (by omega)]; exact h7 p (by omega), ?_⟩
  rw [List.take_length] at h9
  rw [wv_take_succ, Nat.add_mul, Nat.mul_assoc (2 ^ (64 * i)), ← h9]
  simpa using e1

set_option maxHeartbeats 3200000 in
set_option maxRecDepth 100000 in
theorem nmul_calls (A0 : Option Addr) (c0 : Nat) (l0 : List Int) (A1 : Option Addr) (c1 : Nat) (l1 : List Int) (w : World) (hr0 : Kd.C (Kd.int .u64) w A0 l0.length l0) (hr1 : Kd.C (Kd.int .u64) w A1 l1.length l1) (hw0 : Wd l0) (hw1 : Wd l1) (hl0 : l0.length ≤ 100000) (hl1 : l1.length ≤ 100000) :
    Calls Try.prog 36 #[.slice A0 l0.length c0, .slice A1 l1.length c1] w (Res w (wv l0 * wv l1)) := by
  have HR0 := Aside0.mk hr0
  have HR1 := Aside0.mk hr1
  have HW0 := Aside0.mk hw0
  have HW1 := Aside0.mk hw1
  clear hr0 hr1 hw0 hw1
  have hmk := print_make (P := Try.prog) 23 35 .u64 8 Try.underlying23 info35 (by decide) (l0.length + l1.length) (by omega)
  rw [show ((l0.length + l1.length : Nat) : Int) = (l0.length : Int) + (l1.length : Int) from by push_cast; rfl] at hmk
  go_enter Try.func36, Try.ntmps36
  go_wp2
  go_loopw [23] (fun v23 wr => ∃ (k : Nat) (out : List Int), k ≤ l0.length ∧ v23 = .int .i64 k ∧ w.heap.size < wr.heap.size ∧ Aside0 (MulOut l0 l1 k out) ∧ Aside0 ((Kd.int .u64).R 35 wr w.heap.size (fun _ => True) (.slice (some ⟨w.heap.size, 0, none⟩) (l0.length + l1.length) (l0.length + l1.length)) out) ∧ Aside0 (Below w.heap.size w wr))
    (fun v23 _ => l0.length - (intOf v23).toNat)
  case atStart => exact ⟨0, _, Nat.zero_le _, rfl, by simp, ⟨MulOut.start l0 l1⟩, ⟨made_R w _ _ (Nat.le_refl _) (by omega)⟩, ⟨below_alloc (Below.refl _ _) _⟩⟩
  case round =>
    obtain ⟨k, out, hk, rfl, hhs, HV, HO, HB⟩ := hrel
    by_cases hlt : k < l0.length
    · obtain ⟨ad0, e0, hx0⟩ := Kd.at_int (Kd.C_below HR0.out HB.out) (k : Int) (by omega) (by omega)
      rw [Int.toNat_natCast] at hx0
      subst e0
      have hx := HW0.out.rd (k : Int)
      obtain ⟨x, Ex⟩ : ∃ x, Aside0 (x = rd l0 (k : Int)) := ⟨_, ⟨rfl⟩⟩
      rw [← Ex.out] at hx0 hx
      have HX := Aside0.mk hx
      clear hx
      have HI := Aside0.mk HV.out.inn
      clear HV
      go_wp2
      obtain ⟨wo, rfl⟩ : ∃ wo : World, wo = wr := ⟨_, rfl⟩
      clear hx0
      go_loopw [8, 30] (fun v8 v30 wr => ∃ (j : Nat) (c : Int) (out : List Int), j ≤ l1.length ∧ v30 = .int .i64 j ∧ v8 = .int .u64 c ∧ w.heap.size < wr.heap.size ∧ Aside0 (MulIn l0 l1 k j c out) ∧ Aside0 ((Kd.int .u64).R 35 wr w.heap.size (fun _ => True) (.slice (some ⟨w.heap.size, 0, none⟩) (l0.length + l1.length) (l0.length + l1.length)) out) ∧ Aside0 (Below w.heap.size w wr))
        (fun _ v30 _ => l1.length - (intOf v30).toNat)
      case atStart => exact ⟨0, 0, out, Nat.zero_le _, rfl, rfl, hhs, HI, HO, HB⟩
      case round =>
        obtain ⟨j, c, out, hj, rfl, rfl, hhs, HI, HO, HB⟩ := hrel
        by_cases hlj : j < l1.length
        · obtain ⟨ad1, e1, hx1⟩ := Kd.at_int (Kd.C_below HR1.out HB.out) (j : Int) (by omega) (by omega)
          rw [Int.toNat_natCast] at hx1
          subst e1
          have hy := HW1.out.rd (j : Int)
          obtain ⟨y, Ey⟩ : ∃ y, Aside0 (y = rd l1 (j : Int)) := ⟨_, ⟨rfl⟩⟩
          rw [← Ey.out] at hx1 hy
          have HOl : out.length = l0.length + l1.length := HI.out.1
          obtain ⟨hcl, hfz⟩ := Kd.R_celln 0 HO.out ((k + j : Nat) : Int) (by omega) (by omega)
          rw [Int.toNat_natCast] at hcl hfz
          change wr.cell? _ = some (.int .u64 (rd out ((k + j : Nat) : Int))) at hcl
          have hz := HI.out.2.1.rd ((k + j : Nat) : Int)
          obtain ⟨z, Ez⟩ : ∃ z, Aside0 (z = rd out ((k + j : Nat) : Int)) := ⟨_, ⟨rfl⟩⟩
          rw [← Ez.out] at hcl hz
          have HZ := Aside0.mk hz
          clear hz
          obtain ⟨hi, lo, H3, hmul⟩ := mul64_calls x y HX.out hy
          have HY := Aside0.mk hy
          have HC : Aside0 (0 ≤ c ∧ c < 18446744073709551616) := ⟨HI.out.2.2.2.1⟩
          have HL : Aside0 (0 ≤ lo ∧ lo < 18446744073709551616) := ⟨H3.out.2.1, H3.out.2.2.1⟩
          have hhi : 0 ≤ hi := H3.out.2.2.2.1
          clear hy HOl
          go_wp2_with (first
            | (go_at_call 56; (with_reducible refine (hmul _).mono ?_); rintro e w' ⟨rfl, rfl⟩)
            | (go_at_call 53; (with_reducible refine (sum3_calls lo z c wr HL.out HZ.out HC.out).mono ?_); rintro e w' ⟨s, o, rfl, rfl, hs, ho0, ho3⟩)
            | fail)
          have HN := Aside0.mk (HI.out.step HW0.out HW1.out hlt hlj (by rw [← Ex.out, ← Ey.out]; exact H3.out) (by rw [← Ez.out]; exact hs.out) ho0)
          have hwrap : IntKind.u64.wrap (hi + o) = hi + o := IntWalk.u64_in _ (by have := HN.out.2; omega)
          have hHR := (Kd.R_putg HO.out ((k + j : Nat) : Int) s).1
          rw [Int.toNat_natCast] at hHR
          have HR := Aside0.mk hHR
          clear hHR
          go_roundw
          case rel => exact ⟨j + 1, hi + o, _, by omega, by go_num, by first | rfl | rw [hwrap], by simp [World.setCell]; omega, ⟨HN.out.1⟩, ⟨Kd.R_alloc HR.out _⟩, ⟨(HB.out.setCell (Nat.le_refl _) _).alloc (by simp [World.setCell]; omega) _⟩⟩
          case measure => simp [intOf]; omega
        · obtain rfl : j = l1.length := by omega
          have HOl : out.length = l0.length + l1.length := HI.out.1
          obtain ⟨hcl, hfz⟩ := Kd.R_celln 0 HO.out ((k + l1.length : Nat) : Int) (by omega) (by omega)
          rw [Int.toNat_natCast] at hcl hfz
          have HN := Aside0.mk (HI.out.out hlt)
          have hHR := (Kd.R_putg HO.out ((k + l1.length : Nat) : Int) c).1
          rw [Int.toNat_natCast] at hHR
          have HR := Aside0.mk hHR
          clear hHR HOl
          go_wp2
          go_roundw
          case rel => exact ⟨k + 1, _, by omega, by go_num, by simp [World.setCell]; omega, HN, HR, ⟨HB.out.setCell (Nat.le_refl _) _⟩⟩
          case measure => simp [intOf]; omega
    · have hkl : k = l0.length := by omega
      subst hkl
      have HF : Aside0 (Wd out ∧ wv out = wv l0 * wv l1) := ⟨HV.out.2.1, by have := HV.out.2.2.2; rwa [List.take_length] at this⟩
      have HCC : Aside0 (Kd.C (Kd.int .u64) wr (some ⟨w.heap.size, 0, none⟩) out.length out) := ⟨(Kd.R_reads' HO.out).2.2⟩
      have hlen : out.length = l0.length + l1.length := HV.out.1
      have HL := Aside0.mk hlen
      clear hlen
      go_wp2_with (go_at_call 31; (with_reducible refine (trim_of _ _ _ _ HL.out _ HCC.out (Nat.le_refl _) (by omega)).mono ?_); rintro e w' ⟨rfl, rfl⟩)
      go_ret
      have := trim_Res (w := w) HCC.out HF.out.1 HB.out
      rw [HF.out.2] at this
      exact this
theorem nmul_of (A0 : Option Addr) (n0 c0 : Nat) (l0 : List Int) (hn0 : l0.length = n0) (A1 : Option Addr) (n1 c1 : Nat) (l1 : List Int) (hn1 : l1.length = n1) (w : World) (hr0 : Kd.C (Kd.int .u64) w A0 l0.length l0) (hr1 : Kd.C (Kd.int .u64) w A1 l1.length l1) (hw0 : Wd l0) (hw1 : Wd l1) (hl0 : n0 ≤ 100000) (hl1 : n1 ≤ 100000) :
    Calls Try.prog 36 #[.slice A0 n0 c0, .slice A1 n1 c1] w (Res w (wv l0 * wv l1)) := by
  subst hn0 hn1
  exact nmul_calls A0 c0 l0 A1 c1 l1 w hr0 hr1 hw0 hw1 hl0 hl1
end Go.Proofs.Ytjkelnnjfpcapaa.Num
