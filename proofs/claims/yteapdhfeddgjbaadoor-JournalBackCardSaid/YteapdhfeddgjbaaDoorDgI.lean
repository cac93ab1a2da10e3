/- slices.Grow of nothing, slices.Concat of rows of bytes, by the program's text. -/
import Derived.Test.YteapdhfeddgjbaaDoorDgG
import Derived.Test.YteapdhfeddgjbaaDoorWZeros
namespace Go.Proofs.YteapdhfeddgjbaaDoor.Dg
set_option linter.unusedVariables false
set_option linter.unusedSimpArgs false
open Go.RowKit Go.Proofs.YteapdhfeddgjbaaDoor.PDb Go.Proofs.YteapdhfeddgjbaaDoorW Go.Proofs.YteapdhfeddgjbaaDoorW.PrintWords Go.Proofs.YteapdhfeddgjbaaDoorW.PrintLast Go.Proofs.YteapdhfeddgjbaaDoorW.PrintMore

theorem C_some {k : IntKind} {W : World} {A : Option Addr} {n : Nat} {l : List Int} (h : Kd.C (Kd.int k) W A n l) (hn : 0 < n) : ∃ ad, A = some ad := by
  obtain ⟨-, -, h3⟩ := h
  obtain ⟨ad, e, -⟩ := h3 hn
  exact ⟨ad, e⟩
theorem wrap_succ {i k : Nat} (h : i < k) (hk : k ≤ 1000000000) : wrap64 ((i : Int) + 1) = (i : Int) + 1 := IntWalk.wrap64_in _ (by omega)
theorem meas_succ {i k : Nat} (h : i < k) : ((k : Int) - ((i : Int) + 1)).toNat < ((k : Int) - (i : Int)).toNat := by omega
theorem ad_add0 (ad : Addr) : ad.add 0 = ad := by simp [Addr.add]
set_option maxHeartbeats 4000000 in
set_option maxRecDepth 100000 in
theorem grow_calls (N : Nat) (h0 : 0 < N) (h1 : N ≤ 1000000000) (w : World) :
    Calls Tryd.prog 88 #[.slice none 0 0, .int .i64 (N : Int)] w fun e w' => ∃ v, e = .returned v ∧ Kd.R (Kd.int .u8) 5 w' w.heap.size (fun _ => True) v [] ∧ Below w.heap.size w w' := by
  have hw1 : wrap64 (N : Int) = (N : Int) := IntWalk.wrap64_in _ (by omega)
  have hd1 : ¬ ((N : Int) < 0) := by omega
  have hd2 : (N : Int) > 0 := by omega
  have hd3 : (0 : Int) < (N : Int) := by omega
  have HZ : Aside0 (Kd.M (Kd.int .u8) w w.heap.size (fun _ => False) 0 (Value.int .u8 0).cells.toList) := ⟨by first | exact rfl | exact ⟨rfl, trivial⟩ | simp [Kd.M]⟩
  have HR := Aside0.mk (Kd.R_nil (Kd.int .u8) 5 w w.heap.size (fun _ => True))
  go_enter Tryd.func88, Tryd.ntmps88
  go_wp2_with (first
    | (at_builtin; refine Kd.R_append_zeros (Kd.int .u8) (w0 := w) w.heap.size rfl _ _ 24 3 5 (.int .u8 0) 1 rfl Tryd.underlying24 Tryd.underlying3 info5 rfl (by decide) (by omega) (.slice none 0 0) [] 0 (N : Int) (fun _ => True) rfl rfl HZ.out (fun _ _ => trivial) HR.out (by omega) (Below.refl _ _) (Nat.le_refl _) (by simp; omega) ?_; intro v1 w1 ho hb hg hat; rw [List.nil_append] at ho; obtain ⟨A1, c1, e1⟩ := Kd.R_slice ho; subst e1; have HO := Aside0.mk ho; have HB := Aside0.mk hb; obtain ⟨ad, ea⟩ := C_some (Kd.R_reads' ho).2.2 (by simp; omega); subst ea; have hcc := (Kd.R_reads' ho).2.1; have HE := Aside0.mk (ad_add0 ad); simp only [List.length_replicate, Int.toNat_natCast] at hcc HO ⊢; clear ho hb hg hat)
    | fail)
  go_ret
  exact ⟨_, rfl, by have h := Kd.R_take (m := 0) HO.out (by simp); simpa using h, HB.out⟩

structure Prt where
  A : Option Addr
  c : Nat
  l : List Int
def Prt.v (p : Prt) : Value := .slice p.A p.l.length p.c
def tot : List Prt → List Int
  | [] => []
  | p :: ps => p.l ++ tot ps
theorem tot_append : ∀ a b : List Prt, tot (a ++ b) = tot a ++ tot b
  | [], b => rfl
  | p :: a, b => by rw [List.cons_append, tot, tot, tot_append a b, List.append_assoc]
theorem tot_next (ps : List Prt) (i : Nat) (h : i < ps.length) : tot (ps.take (i + 1)) = tot (ps.take i) ++ ps[i].l := by
  rw [List.take_succ_eq_append_getElem h, tot_append]; simp [tot]
theorem tot_le (ps : List Prt) (i : Nat) : (tot (ps.take i)).length ≤ (tot ps).length := by
  conv => rhs; rw [← List.take_append_drop i ps, tot_append]
  simp
/-- The parts lie in a block. -/
def Parts (w : World) (g : Nat) (ps : List Prt) : Prop := ∀ i (h : i < ps.length), w.cell? ⟨g, i, none⟩ = some (ps[i].v) ∧ Kd.C (Kd.int .u8) w ps[i].A ps[i].l.length ps[i].l ∧ ps[i].l.length ≤ ps[i].c
theorem Parts.below {w w' : World} {g : Nat} {ps : List Prt} (h : Parts w g ps) (hb : Below w.heap.size w w') : Parts w' g ps := fun i hi => by
  obtain ⟨h1, h2, h3⟩ := h i hi
  exact ⟨pw_cell_below hb h1, Kd.C_below h2 hb, h3⟩
set_option maxHeartbeats 4000000 in
set_option maxRecDepth 100000 in
theorem concat_calls (g cc : Nat) (ps : List Prt) (k : Nat) (hk : ps.length = k) (hkc : k ≤ cc) (hkm : k ≤ 1000) (h0 : 0 < (tot ps).length) (h1 : (tot ps).length ≤ 1000000000) (w : World) (hP : Parts w g ps) :
    Calls Tryd.prog 46 #[.slice (some ⟨g, 0, none⟩) k cc] w fun e w' => ∃ v, e = .returned v ∧ Kd.R (Kd.int .u8) 5 w' w.heap.size (fun _ => True) v (tot ps) ∧ Below w.heap.size w w' := by
  have HP := Aside0.mk hP
  have HK := Aside0.mk hk
  have H1 := Aside0.mk h1
  obtain ⟨N, hN⟩ : ∃ N, (tot ps).length = N := ⟨_, rfl⟩
  have HN := Aside0.mk hN
  rw [hN] at h0 h1
  clear hk hP hN
  go_enter Tryd.func46, Tryd.ntmps46
  go_wp2
  go_loopw [3, 5, 11] (fun v3 v5 v11 wr => ∃ i : Nat, i ≤ k ∧ v11 = .int .i64 (i : Int) ∧ v3 = .int .i64 ((tot (ps.take i)).length : Int) ∧ w = wr) (fun _ _ v11 _ => (k - intOf v11).toNat)
  case atStart => exact ⟨0, Nat.zero_le _, rfl, by simp [tot], rfl⟩
  case round =>
    obtain ⟨i, hi, rfl, rfl, rfl⟩ := hrel
    obtain ⟨T, hT⟩ : ∃ T, (tot (ps.take i)).length = T := ⟨_, rfl⟩
    rw [hT]
    by_cases hlt : i < k
    · have hi' : i < ps.length := by rw [HK.out]; exact hlt
      obtain ⟨c1, c2, c3⟩ := HP.out i hi'
      have hnx := tot_next ps i hi'
      obtain ⟨p, hp⟩ : ∃ p, ps[i] = p := ⟨_, rfl⟩
      rw [hp] at c1 c2 c3 hnx
      obtain ⟨A, c, l⟩ := p
      simp only [Prt.v] at c1 c2 c3 hnx
      obtain ⟨m, hm⟩ : ∃ m, l.length = m := ⟨_, rfl⟩
      rw [hm] at c1 c3
      have hle := tot_le ps (i + 1)
      rw [hnx, List.length_append, hT, hm, HN.out] at hle
      have HX := Aside0.mk hnx
      have hT2 := Aside0.mk hT
      have hm2 := Aside0.mk hm
      clear hnx hT hm hp c2
      have w1 : wrap64 ((T : Int) + (m : Int)) = (T : Int) + (m : Int) := IntWalk.wrap64_in _ (by omega)
      have w2 : wrap64 ((i : Int) + 1) = (i : Int) + 1 := IntWalk.wrap64_in _ (by omega)
      have hd : ¬ ((T : Int) + (m : Int) < 0) := by omega
      go_wp2
      go_roundw
      case rel => exact ⟨i + 1, by omega, by simp, by rw [HX.out, List.length_append, hT2.out, hm2.out]; simp, by first | rfl | trivial⟩
      case measure => simp [intOf]; omega
    · obtain rfl : k = i := by omega
      have hall : tot (ps.take k) = tot ps := by rw [List.take_of_length_le (by rw [HK.out]; omega)]
      rw [hall, HN.out] at hT
      subst hT
      clear hall
      have HPb := HP
      go_wp2_with (first
        | (go_at_call 88; (with_reducible refine (grow_calls N h0 h1 _).mono ?_); rintro e w1 ⟨v1, rfl, ho, hb⟩; have HO := Aside0.mk ho; have HB := Aside0.mk hb; clear ho hb)
        | fail)
      go_loopw [6, 8, 27] (fun v6 v8 v27 wr => ∃ i : Nat, i ≤ k ∧ v27 = .int .i64 (i : Int) ∧ Aside0 (Kd.R (Kd.int .u8) 5 wr w.heap.size (fun _ => True) v6 (tot (ps.take i))) ∧ Aside0 (Below w.heap.size w wr)) (fun _ _ v27 _ => (k - intOf v27).toNat)
      case atStart => exact ⟨0, Nat.zero_le _, rfl, HO, HB⟩
      case round =>
        obtain ⟨i, hi, rfl, HO, HB⟩ := hrel
        obtain ⟨A6, c6, e6⟩ := Kd.R_slice HO.out
        obtain ⟨L, hL⟩ : ∃ L, (tot (ps.take i)).length = L := ⟨_, rfl⟩
        have HL := Aside0.mk hL
        rw [hL] at e6
        subst e6
        have hsz := HB.out.size
        by_cases hlt : i < k
        · have hi' : i < ps.length := by rw [HK.out]; exact hlt
          obtain ⟨c1, c2, c3⟩ := (HP.out.below HB.out) i hi'
          have hnx := tot_next ps i hi'
          obtain ⟨p, hp⟩ : ∃ p, ps[i] = p := ⟨_, rfl⟩
          rw [hp] at c1 c2 c3 hnx
          obtain ⟨A, c, l⟩ := p
          simp only [Prt.v] at c1 c2 c3 hnx
          obtain ⟨m, hm⟩ : ∃ m, l.length = m := ⟨_, rfl⟩
          have HC := Aside0.mk c2
          rw [hm] at c1 c3
          have hle := tot_le ps (i + 1)
          rw [hnx, List.length_append, hL, hm, HN.out] at hle
          have HX := Aside0.mk hnx
          have hm2 := Aside0.mk hm
          clear hnx hL hm hp c2
          have hle1 : i + 1 ≤ k := hlt
          have hbig : (L + m) * 1 ≤ 140737488355328 := by omega
          have HLT := Aside0.mk hlt
          have HSZ := Aside0.mk hsz
          have HLE1 := Aside0.mk hle1
          have HBIG : Aside0 (((tot (ps.take i)).length + m) * 1 ≤ 140737488355328) := ⟨by rw [HL.out]; exact hbig⟩
          clear hle hle1 hbig h0 h1 hi'
          have w2 := wrap_succ hlt (Nat.le_trans hkm (by omega))
          go_wp2_with (first
            | (at_builtin; refine Kd.R_append_rows (Kd.int .u8) (w0 := w) w.heap.size rfl _ _ 24 5 (.int .u8 0) 1 rfl Tryd.underlying24 info5 rfl (by decide) (by omega) (.slice A6 L c6) (tot (ps.take i)) l A m c (fun _ => True) (fun _ => False) rfl rfl HO.out (hm2.out ▸ HC.out) (fun _ _ h => h) (fun _ h => h.elim) (fun _ _ => trivial) HB.out HSZ.out HBIG.out ?_; intro v1 w1 ho hb hg hat; have HO2 := Aside0.mk ho; have HB2 := Aside0.mk hb; clear ho hb hg hat)
            | fail)
          go_roundw
          case rel => exact ⟨i + 1, HLE1.out, by simp, ⟨by rw [HX.out]; exact HO2.out⟩, HB2⟩
          case measure => exact meas_succ HLT.out
        · obtain rfl : k = i := by omega
          have hall : tot (ps.take k) = tot ps := by rw [List.take_of_length_le (by rw [HK.out]; omega)]
          rw [hall] at HO
          go_wp2
          go_ret
          exact ⟨_, rfl, HO.out, HB.out⟩
end Go.Proofs.YteapdhfeddgjbaaDoor.Dg
