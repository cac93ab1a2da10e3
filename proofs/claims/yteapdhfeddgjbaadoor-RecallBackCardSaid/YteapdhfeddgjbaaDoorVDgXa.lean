/- Several texts made one. -/
import Derived.Test.YteapdhfeddgjbaaDoorVDgG
import Derived.Test.YteapdhfeddgjbaaDoorVWZeros
import Derived.Test.YteapdhfeddgjbaaDoorVPDex1
import Derived.Lib.Bytes
import Derived.Laws.BitsLemmas
import Derived.Test.YteapdhfeddgjbaaDoorVRng
import Derived.Shelf.Abstract
import Derived.Shelf.RegionOpen
import Derived.OwnWalkIn
import Derived.TacticsInMore
import Derived.LoopNIn
import Derived.LoopIn
import Derived.BigRegionIn
import Derived.Stop.RegionWithIn
import Derived.Test.YteapdhfeddgjbaaDoorVNumD
import Derived.Test.YteapdhfeddgjbaaDoorVPDjx4
import Derived.Deep.RegionHeld3
import Derived.Test.YteapdhfeddgjbaaDoorRows
import Derived.Test.YteapdhfeddgjbaaDoorVOpen
import Derived.LaidMore
import Derived.Lay
import Derived.LaidOnce
section
/- slices.Grow of nothing, slices.Concat of rows of bytes, by the program's text. -/
namespace Go.Proofs.YteapdhfeddgjbaaDoor.Dg
set_option linter.unusedVariables false
set_option linter.unusedSimpArgs false
open Go.RowKit Go.Proofs.YteapdhfeddgjbaaDoor.PDb Go.Proofs.YteapdhfeddgjbaaDoorW Go.Proofs.YteapdhfeddgjbaaDoorW.PrintWords Go.Proofs.YteapdhfeddgjbaaDoorW.PrintLast Go.Proofs.YteapdhfeddgjbaaDoorW.PrintMore

theorem C_some {k : IntKind} {W : World} {A : Option Addr} {n : Nat} {l : List Int} (h : Kd.C (Kd.int k) W A n l) (hn : 0 < n) : ∃ ad, A = some ad := by
  obtain ⟨-, -, h3⟩ := h
  obtain ⟨ad, e, -⟩ := h3 hn
  exact ⟨ad, e⟩
theorem wrap_succ {i k : Nat} (h : i < k) (hk : k ≤ 1000000000) : wrap64 ((i : Int) + 1) = (i : Int) + 1 := IntWalk.wrap64_in _ (by omega)
theorem meas_succ {i k : Nat} (h : i < k) : ((k : Int) - ((i : Int) + 1)).toNat < ((k : Int) - (i : Int)).toNat := by omega
theorem ad_add0 (ad : Addr) : ad.add 0 = ad := by simp [Addr.add]
set_option maxHeartbeats 4000000 in
set_option maxRecDepth 100000 in
theorem grow_calls (N : Nat) (h0 : 0 < N) (h1 : N ≤ 1000000000) (w : World) :
    Calls Tryd.prog 88 #[.slice none 0 0, .int .i64 (N : Int)] w fun e w' => ∃ v, e = .returned v ∧ Kd.R (Kd.int .u8) 5 w' w.heap.size (fun _ => True) v [] ∧ Below w.heap.size w w' := by
  have hw1 : wrap64 (N : Int) = (N : Int) := IntWalk.wrap64_in _ (by omega)
  have hd1 : ¬ ((N : Int) < 0) := by omega
  have hd2 : (N : Int) > 0 := by omega
  have hd3 : (0 : Int) < (N : Int) := by omega
  have HZ : Aside0 (Kd.M (Kd.int .u8) w w.heap.size (fun _ => False) 0 (Value.int .u8 0).cells.toList) := ⟨by first | exact rfl | exact ⟨rfl, trivial⟩ | simp [Kd.M]⟩
  have HR := Aside0.mk (Kd.R_nil (Kd.int .u8) 5 w w.heap.size (fun _ => True))
  go_enter Tryd.func88, Tryd.ntmps88
  go_wp2_with (first
    | (at_builtin; refine Kd.R_append_zeros (Kd.int .u8) (w0 := w) w.heap.size rfl _ _ 24 3 5 (.int .u8 0) 1 rfl Tryd.underlying24 Tryd.underlying3 info5 rfl (by decide) (by omega) (.slice none 0 0) [] 0 (N : Int) (fun _ => True) rfl rfl HZ.out (fun _ _ => trivial) HR.out (by omega) (Below.refl _ _) (Nat.le_refl _) (by simp; omega) ?_; intro v1 w1 ho hb hg hat; rw [List.nil_append] at ho; obtain ⟨A1, c1, e1⟩ := Kd.R_slice ho; subst e1; have HO := Aside0.mk ho; have HB := Aside0.mk hb; obtain ⟨ad, ea⟩ := C_some (Kd.R_reads' ho).2.2 (by simp; omega); subst ea; have hcc := (Kd.R_reads' ho).2.1; have HE := Aside0.mk (ad_add0 ad); simp only [List.length_replicate, Int.toNat_natCast] at hcc HO ⊢; clear ho hb hg hat)
    | fail)
  go_ret
  exact ⟨_, rfl, by have h := Kd.R_take (m := 0) HO.out (by simp); simpa using h, HB.out⟩

structure Prt where
  A : Option Addr
  c : Nat
  l : List Int
def Prt.v (p : Prt) : Value := .slice p.A p.l.length p.c
def tot : List Prt → List Int
  | [] => []
  | p :: ps => p.l ++ tot ps
theorem tot_append : ∀ a b : List Prt, tot (a ++ b) = tot a ++ tot b
  | [], b => rfl
  | p :: a, b => by rw [List.cons_append, tot, tot, tot_append a b, List.append_assoc]
theorem tot_next (ps : List Prt) (i : Nat) (h : i < ps.length) : tot (ps.take (i + 1)) = tot (ps.take i) ++ ps[i].l := by
  rw [List.take_succ_eq_append_getElem h, tot_append]; simp [tot]
theorem tot_le (ps : List Prt) (i : Nat) : (tot (ps.take i)).length ≤ (tot ps).length := by
  conv => rhs; rw [← List.take_append_drop i ps, tot_append]
  simp
/-- The parts lie in a block. -/
def Parts (w : World) (g : Nat) (ps : List Prt) : Prop := ∀ i (h : i < ps.length), w.cell? ⟨g, i, none⟩ = some (ps[i].v) ∧ Kd.C (Kd.int .u8) w ps[i].A ps[i].l.length ps[i].l ∧ ps[i].l.length ≤ ps[i].c
theorem Parts.below {w w' : World} {g : Nat} {ps : List Prt} (h : Parts w g ps) (hb : Below w.heap.size w w') : Parts w' g ps := fun i hi => by
  obtain ⟨h1, h2, h3⟩ := h i hi
  exact ⟨pw_cell_below hb h1, Kd.C_below h2 hb, h3⟩
set_option maxHeartbeats 4000000 in
set_option maxRecDepth 100000 in
theorem concat_calls (g cc : Nat) (ps : List Prt) (k : Nat) (hk : ps.length = k) (hkc : k ≤ cc) (hkm : k ≤ 1000) (h0 : 0 < (tot ps).length) (h1 : (tot ps).length ≤ 1000000000) (w : World) (hP : Parts w g ps) :
    Calls Tryd.prog 46 #[.slice (some ⟨g, 0, none⟩) k cc] w fun e w' => ∃ v, e = .returned v ∧ Kd.R (Kd.int .u8) 5 w' w.heap.size (fun _ => True) v (tot ps) ∧ Below w.heap.size w w' := by
  have HP := Aside0.mk hP
  have HK := Aside0.mk hk
  have H1 := Aside0.mk h1
  obtain ⟨N, hN⟩ : ∃ N, (tot ps).length = N := ⟨_, rfl⟩
  have HN := Aside0.mk hN
  rw [hN] at h0 h1
  clear hk hP hN
  go_enter Tryd.func46, Tryd.ntmps46
  go_wp2
  go_loopw [3, 5, 11] (fun v3 v5 v11 wr => ∃ i : Nat, i ≤ k ∧ v11 = .int .i64 (i : Int) ∧ v3 = .int .i64 ((tot (ps.take i)).length : Int) ∧ w = wr) (fun _ _ v11 _ => (k - intOf v11).toNat)
  case atStart => exact ⟨0, Nat.zero_le _, rfl, by simp [tot], rfl⟩
  case round =>
    obtain ⟨i, hi, rfl, rfl, rfl⟩ := hrel
    obtain ⟨T, hT⟩ : ∃ T, (tot (ps.take i)).length = T := ⟨_, rfl⟩
    rw [hT]
    by_cases hlt : i < k
    · have hi' : i < ps.length := by rw [HK.out]; exact hlt
      obtain ⟨c1, c2, c3⟩ := HP.out i hi'
      have hnx := tot_next ps i hi'
      obtain ⟨p, hp⟩ : ∃ p, ps[i] = p := ⟨_, rfl⟩
      rw [hp] at c1 c2 c3 hnx
      obtain ⟨A, c, l⟩ := p
      simp only [Prt.v] at c1 c2 c3 hnx
      obtain ⟨m, hm⟩ : ∃ m, l.length = m := ⟨_, rfl⟩
      rw [hm] at c1 c3
      have hle := tot_le ps (i + 1)
      rw [hnx, List.length_append, hT, hm, HN.out] at hle
      have HX := Aside0.mk hnx
      have hT2 := Aside0.mk hT
      have hm2 := Aside0.mk hm
      clear hnx hT hm hp c2
      have w1 : wrap64 ((T : Int) + (m : Int)) = (T : Int) + (m : Int) := IntWalk.wrap64_in _ (by omega)
      have w2 : wrap64 ((i : Int) + 1) = (i : Int) + 1 := IntWalk.wrap64_in _ (by omega)
      have hd : ¬ ((T : Int) + (m : Int) < 0) := by omega
      go_wp2
      go_roundw
      case rel => exact ⟨i + 1, by omega, by simp, by rw [HX.out, List.length_append, hT2.out, hm2.out]; simp, by first | rfl | trivial⟩
      case measure => simp [intOf]; omega
    · obtain rfl : k = i := by omega
      have hall : tot (ps.take k) = tot ps := by rw [List.take_of_length_le (by rw [HK.out]; omega)]
      rw [hall, HN.out] at hT
      subst hT
      clear hall
      have HPb := HP
      go_wp2_with (first
        | (go_at_call 88; (with_reducible refine (grow_calls N h0 h1 _).mono ?_); rintro e w1 ⟨v1, rfl, ho, hb⟩; have HO := Aside0.mk ho; have HB := Aside0.mk hb; clear ho hb)
        | fail)
      go_loopw [6, 8, 27] (fun v6 v8 v27 wr => ∃ i : Nat, i ≤ k ∧ v27 = .int .i64 (i : Int) ∧ Aside0 (Kd.R (Kd.int .u8) 5 wr w.heap.size (fun _ => True) v6 (tot (ps.take i))) ∧ Aside0 (Below w.heap.size w wr)) (fun _ _ v27 _ => (k - intOf v27).toNat)
      case atStart => exact ⟨0, Nat.zero_le _, rfl, HO, HB⟩
      case round =>
        obtain ⟨i, hi, rfl, HO, HB⟩ := hrel
        obtain ⟨A6, c6, e6⟩ := Kd.R_slice HO.out
        obtain ⟨L, hL⟩ : ∃ L, (tot (ps.take i)).length = L := ⟨_, rfl⟩
        have HL := Aside0.mk hL
        rw [hL] at e6
        subst e6
        have hsz := HB.out.size
        by_cases hlt : i < k
        · have hi' : i < ps.length := by rw [HK.out]; exact hlt
          obtain ⟨c1, c2, c3⟩ := (HP.out.below HB.out) i hi'
          have hnx := tot_next ps i hi'
          obtain ⟨p, hp⟩ : ∃ p, ps[i] = p := ⟨_, rfl⟩
          rw [hp] at c1 c2 c3 hnx
          obtain ⟨A, c, l⟩ := p
          simp only [Prt.v] at c1 c2 c3 hnx
          obtain ⟨m, hm⟩ : ∃ m, l.length = m := ⟨_, rfl⟩
          have HC := Aside0.mk c2
          rw [hm] at c1 c3
          have hle := tot_le ps (i + 1)
          rw [hnx, List.length_append, hL, hm, HN.out] at hle
          have HX := Aside0.mk hnx
          have hm2 := Aside0.mk hm
          clear hnx hL hm hp c2
          have hle1 : i + 1 ≤ k := hlt
          have hbig : (L + m) * 1 ≤ 140737488355328 := by omega
          have HLT := Aside0.mk hlt
          have HSZ := Aside0.mk hsz
          have HLE1 := Aside0.mk hle1
          have HBIG : Aside0 (((tot (ps.take i)).length + m) * 1 ≤ 140737488355328) := ⟨by rw [HL.out]; exact hbig⟩
          clear hle hle1 hbig h0 h1 hi'
          have w2 := wrap_succ hlt (Nat.le_trans hkm (by omega))
          go_wp2_with (first
            | (at_builtin; refine Kd.R_append_rows (Kd.int .u8) (w0 := w) w.heap.size rfl _ _ 24 5 (.int .u8 0) 1 rfl Tryd.underlying24 info5 rfl (by decide) (by omega) (.slice A6 L c6) (tot (ps.take i)) l A m c (fun _ => True) (fun _ => False) rfl rfl HO.out (hm2.out ▸ HC.out) (fun _ _ h => h) (fun _ h => h.elim) (fun _ _ => trivial) HB.out HSZ.out HBIG.out ?_; intro v1 w1 ho hb hg hat; have HO2 := Aside0.mk ho; have HB2 := Aside0.mk hb; clear ho hb hg hat)
            | fail)
          go_roundw
          case rel => exact ⟨i + 1, HLE1.out, by simp, ⟨by rw [HX.out]; exact HO2.out⟩, HB2⟩
          case measure => exact meas_succ HLT.out
        · obtain rfl : k = i := by omega
          have hall : tot (ps.take k) = tot ps := by rw [List.take_of_length_le (by rw [HK.out]; omega)]
          rw [hall] at HO
          go_wp2
          go_ret
          exact ⟨_, rfl, HO.out, HB.out⟩
end Go.Proofs.YteapdhfeddgjbaaDoor.Dg
end
section
/- journal: check, Frame; slices.Clone, by the program's text. -/
namespace Go.Proofs.YteapdhfeddgjbaaDoor.Dg
set_option linter.unusedVariables false
set_option linter.unusedSimpArgs false
open Go.RowKit Go.Proofs.YteapdhfeddgjbaaDoor.PDb Go.Proofs.YteapdhfeddgjbaaDoorW Go.Proofs.YteapdhfeddgjbaaDoorW.PrintWords Go.Proofs.YteapdhfeddgjbaaDoorW.PrintLast Go.Proofs.YteapdhfeddgjbaaDoorW.PrintMore

/-- Bytes. -/
def Bt (l : List Int) : Prop := ∀ x ∈ l, 0 ≤ x ∧ x < 256
theorem Bt.rd {l : List Int} (h : Bt l) (i : Int) : 0 ≤ PrintWords.rd l i ∧ PrintWords.rd l i < 256 := by
  unfold PrintWords.rd
  rw [List.getD_eq_getElem?_getD]
  by_cases hi : i.toNat < l.length
  · rw [List.getElem?_eq_getElem hi, Option.getD_some]; exact h _ (List.getElem_mem hi)
  · rw [List.getElem?_eq_none (by omega), Option.getD_none]; omega
theorem Bt.append {a b : List Int} (ha : Bt a) (hb : Bt b) : Bt (a ++ b) := fun x hx => by
  rcases List.mem_append.1 hx with h | h
  · exact ha x h
  · exact hb x h
theorem w4_Bt (x : Int) : Bt (w4 x) := fun y hy => by
  rw [w4] at hy
  simp only [List.mem_cons, List.not_mem_nil, or_false] at hy
  rcases hy with h | h | h | h <;> (rw [h]; exact byte_lt _)
theorem outs_Bt : ∀ l, Bt (outs l)
  | [] => fun x hx => by cases hx
  | y :: l => by rw [outs]; exact (w4_Bt y).append (outs_Bt l)
theorem sha_Bt (d : List Int) : Bt (sha d) := outs_Bt _
theorem Bt.take {l : List Int} (h : Bt l) (n : Nat) : Bt (l.take n) := fun x hx => h x (List.mem_of_mem_take hx)
theorem Bt.drop {l : List Int} (h : Bt l) (n : Nat) : Bt (l.drop n) := fun x hx => h x (List.mem_of_mem_drop hx)
/-- A frame's eight bytes. -/
def chk (s r : List Int) : List Int := (sha (s ++ r)).take 8
theorem chk_len (s r : List Int) : (chk s r).length = 8 := by unfold chk; rw [List.length_take, sha_len]; rfl
/-- A frame. -/
def frm (r : List Int) : List Int := w4 (r.length : Int) ++ (chk (w4 (r.length : Int)) r ++ r)
theorem frm_len (r : List Int) : (frm r).length = 12 + r.length := by
  unfold frm; rw [List.length_append, List.length_append, chk_len]; show 4 + (8 + r.length) = _; omega
set_option maxHeartbeats 4000000 in
set_option maxRecDepth 100000 in
theorem check_calls (A0 : Option Addr) (n0 c0 : Nat) (s : List Int) (A1 : Option Addr) (n1 c1 : Nat) (r : List Int) (hs : s.length = n0) (hr : r.length = n1) (h0 : n0 < 60) (h1 : n1 ≤ 900000) (hc0 : n0 ≤ c0) (hc1 : n1 ≤ c1) (hbs : Bt s) (hbr : Bt r) (w : World)
    (hS : Kd.C (Kd.int .u8) w A0 s.length s) (hR : Kd.C (Kd.int .u8) w A1 r.length r) (hK : Tab w 2 KK) :
    Calls Tryd.prog 47 #[.slice A0 n0 c0, .slice A1 n1 c1] w fun e w' => ∃ A c, e = .returned (.slice A 8 c) ∧ 8 ≤ c ∧ Kd.C (Kd.int .u8) w' A (chk s r).length (chk s r) ∧ Below w.heap.size w w' := by
  have HW1 : Aside0 (∀ g w1, Below w.heap.size w w1 → IsHs w1 w.heap.size g [] → Calls Tryd.prog 71 #[.pointer (some ⟨g, 0, none⟩), .slice A0 n0 c0] w1 fun e w' => ∃ v, e = .returned v ∧ IsHb w' w.heap.size g s ∧ (s.length < 64 → IsHs w' w.heap.size g s) ∧ Below w.heap.size w w') := ⟨fun g w1 hb hh => write_calls g [] A0 n0 c0 s hs hc0 (by omega) (fun i => by rw [List.nil_append]; exact hbs.rd i) w w1 hb hS hK hh⟩
  have HW2 : Aside0 (∀ g w1, Below w.heap.size w w1 → IsHs w1 w.heap.size g s → Calls Tryd.prog 71 #[.pointer (some ⟨g, 0, none⟩), .slice A1 n1 c1] w1 fun e w' => ∃ v, e = .returned v ∧ IsHb w' w.heap.size g (s ++ r) ∧ ((s ++ r).length < 64 → IsHs w' w.heap.size g (s ++ r)) ∧ Below w.heap.size w w') := ⟨fun g w1 hb hh => write_calls g s A1 n1 c1 r hr hc1 (by omega) (fun i => (hbs.append hbr).rd i) w w1 hb hR hK hh⟩
  have HSU : Aside0 (∀ g w1, Below w.heap.size w w1 → IsHb w1 w.heap.size g (s ++ r) → Calls Tryd.prog 72 #[.pointer (some ⟨g, 0, none⟩)] w1 fun e w' => ∃ v, e = .returned v ∧ Kd.R (Kd.int .u8) 5 w' w1.heap.size (fun _ => True) v (sha (s ++ r)) ∧ Below w1.heap.size w1 w') := ⟨fun g w1 hb hh => sum_calls w.heap.size g (s ++ r) (by rw [List.length_append]; omega) w1 hh (hK.below hb) (hbs.append hbr)⟩
  have HS := Aside0.mk hs
  have H0 := Aside0.mk h0
  clear hs hr h0 h1 hc0 hc1 hbs hbr hS hR hK
  go_enter Tryd.func47, Tryd.ntmps47
  go_wp2_with (first
    | (go_at_call 70; (with_reducible refine (new_calls _).mono ?_); rintro e w1 ⟨g, rfl, hh, hb⟩; have HH := Aside0.mk hh; have HB := Aside0.mk hb; clear hh hb)
    | (go_at_call 71; (with_reducible refine (HW1.out g w1 HB.out HH.out).mono ?_); rintro e w2 ⟨v2, rfl, -, hh, hb⟩; have HH2 := Aside0.mk (hh (by have := HS.out; have := H0.out; omega)); have HB2 := Aside0.mk hb; clear hh hb)
    | (go_at_call 71; (with_reducible refine (HW2.out g w2 HB2.out HH2.out).mono ?_); rintro e w3 ⟨v3, rfl, hh, -, hb⟩; have HH3 := Aside0.mk hh; have HB3 := Aside0.mk hb; clear hh hb)
    | (go_at_call 72; (with_reducible refine (HSU.out g w3 HB3.out HH3.out).mono ?_); rintro e w4 ⟨v4, rfl, ho, hb⟩; obtain ⟨A4, c4, e4⟩ := Kd.R_slice ho; subst e4; have HO := Aside0.mk ho; have HB4 := Aside0.mk hb; obtain ⟨ad, ea⟩ := C_some (Kd.R_reads' ho).2.2 (by rw [sha_len]; omega); subst ea; have hcc := (Kd.R_reads' ho).2.1; rw [sha_len] at hcc HO ⊢; have HE := ad_add0 ad; clear ho hb)
    | fail)
  go_ret
  refine ⟨_, _, rfl, by omega, ?_, ?_⟩
  · have h := Kd.R_take (m := 8) HO.out (by rw [sha_len]; omega)
    exact (Kd.R_reads' h).2.2
  · exact below_then HB3.out HB3.out.size HB4.out
end Go.Proofs.YteapdhfeddgjbaaDoor.Dg
end
section
/- journal: Frame; slices.Clone, by the program's text. -/
namespace Go.Proofs.YteapdhfeddgjbaaDoor.Dg
set_option linter.unusedVariables false
set_option linter.unusedSimpArgs false
open Go.RowKit Go.Proofs.YteapdhfeddgjbaaDoor.PDb Go.Proofs.YteapdhfeddgjbaaDoorW Go.Proofs.YteapdhfeddgjbaaDoorW.PrintWords Go.Proofs.YteapdhfeddgjbaaDoorW.PrintLast Go.Proofs.YteapdhfeddgjbaaDoorW.PrintMore

theorem eqlSome (ad : Addr) (n c : Nat) (w : World) : (binOp .eql 24 (.slice (some ad) n c) (.slice none 0 0)).run Tryd.prog w = .ok (.bool false) w := by kernel_rfl
theorem eqlNil (n c : Nat) (w : World) : (binOp .eql 24 (.slice none n c) (.slice none 0 0)).run Tryd.prog w = .ok (.bool true) w := by kernel_rfl
/-- A row of bytes that is the call's own. -/
def Own (w : World) (l : List Int) (e : Ending) (w' : World) : Prop := ∃ v, e = .returned v ∧ Kd.R (Kd.int .u8) 5 w' w.heap.size (fun _ => True) v l ∧ Below w.heap.size w w'
set_option maxHeartbeats 1600000 in
set_option maxRecDepth 100000 in
theorem clone_calls (A : Option Addr) (n c : Nat) (lb : List Int) (hn : lb.length = n) (hlb : n ≤ 10000000) (w : World) (hb : Kd.C (Kd.int .u8) w A lb.length lb) :
    Calls Tryd.prog 49 #[.slice A n c] w (Own w lb) := by
  have hrd := C_readsK (Kd.C_alloc hb (.cells #[] 5))
  rw [hn] at hrd
  have HRI := Aside0.mk hrd
  have HN := Aside0.mk hn
  have HOL : Aside0 ((w.alloc (.cells #[] 5)).ownsRow w.heap.size 5 1 (.slice (some ⟨w.heap.size, 0, none⟩) 0 0) ([] : List Int).length (nums .u8 [])) := ⟨own_lit w w.heap.size 5 .u8 [] (Nat.le_refl _) (by simp)⟩
  have HBa := Aside0.mk (below_alloc (Below.refl w.heap.size w) (.cells #[] 5))
  have hb0 := hb
  clear hb hrd hn
  cases A with
  | none =>
    have hz : n = 0 := by
      by_cases h : n = 0
      · exact h
      · obtain ⟨ad, e⟩ := C_some hb0 (by have := HN.out; omega)
        cases e
    have hlb0 : lb = [] := List.eq_nil_of_length_eq_zero (by have := HN.out; omega)
    subst hlb0
    clear HRI HOL HBa hb0 HN
    subst hz
    have hq := eqlNil 0 c w
    go_enter Tryd.func49, Tryd.ntmps49
    go_wp2
    go_ret
    exact ⟨_, rfl, Kd.R_nil _ _ _ _ _, Below.refl _ _⟩
  | some ad =>
    have HB0 := Aside0.mk hb0
    clear hb0
    have hq := eqlSome ad n c w
    go_enter Tryd.func49, Tryd.ntmps49
    go_wp2_with (first
      | (at_builtin; refine print_append_row (w0 := w) w.heap.size rfl _ _ 24 5 .u8 1 rfl Tryd.underlying24 info5 (by decide) _ [] lb (some ad) n c rfl rfl HOL.out HRI.out HBa.out (by simp) (by simp; omega) ?_; intro v1 w2 ho1 hb1 hg1 hat1; have HB2 := Aside0.mk hb1; have HR1 := Aside0.mk (Kd.R_of_own (enc := Value.int .u8) (h1 := fun _ => rfl) (ok := fun _ => True) ho1 (fun _ _ => trivial)); clear hb1 ho1 hg1 hat1)
      | fail)
    go_ret
    exact ⟨_, rfl, HR1.out, HB2.out⟩

theorem parts3 (w : World) (A0 A1 A2 : Option Addr) (c0 c1 c2 : Nat) (l0 l1 l2 : List Int) (t : TypeId) (h0 : Kd.C (Kd.int .u8) w A0 l0.length l0) (h1 : Kd.C (Kd.int .u8) w A1 l1.length l1) (h2 : Kd.C (Kd.int .u8) w A2 l2.length l2) (k0 : l0.length ≤ c0) (k1 : l1.length ≤ c1) (k2 : l2.length ≤ c2) :
    Parts (w.alloc (.cells #[.slice A0 l0.length c0, .slice A1 l1.length c1, .slice A2 l2.length c2] t)) w.heap.size [⟨A0, c0, l0⟩, ⟨A1, c1, l1⟩, ⟨A2, c2, l2⟩] := fun i hi => by
  match i, hi with
  | 0, _ => exact ⟨by rw [World.cell?_alloc_new]; rfl, Kd.C_alloc h0 _, k0⟩
  | 1, _ => exact ⟨by rw [World.cell?_alloc_new]; rfl, Kd.C_alloc h1 _, k1⟩
  | 2, _ => exact ⟨by rw [World.cell?_alloc_new]; rfl, Kd.C_alloc h2 _, k2⟩
theorem w4_small (n : Nat) (h : n ≤ 900000) : w4 (n : Int) = [(n : Int) / 16777216, (n : Int) / 65536, (n : Int) / 256 % 256, (n : Int) % 256] := by
  unfold w4
  congr 1
  · omega
  · congr 1; omega
set_option maxHeartbeats 4000000 in
set_option maxRecDepth 100000 in
theorem frame_calls (A : Option Addr) (n c : Nat) (r : List Int) (hr : r.length = n) (h1 : n ≤ 900000) (hc : n ≤ c) (hbr : Bt r) (w : World) (hR : Kd.C (Kd.int .u8) w A r.length r) (hK : Tab w 2 KK) :
    Calls Tryd.prog 12 #[.slice A n c] w (Own w (frm r)) := by
  obtain ⟨s, hs⟩ : ∃ s, w4 (n : Int) = s := ⟨_, rfl⟩
  have hbs : Bt s := by rw [← hs]; exact w4_Bt _
  have hsl : s.length = 4 := by rw [← hs]; rfl
  have hfr : frm r = s ++ (chk s r ++ r) := by unfold frm; rw [hr, hs]
  have hB0 := below_alloc (Below.refl w.heap.size w) (.cells (nums .u8 s).toArray 5)
  have hnum : nums .u8 s = [.int .u8 ((n : Int) / 16777216), .int .u8 ((n : Int) / 65536), .int .u8 ((n : Int) / 256 % 256), .int .u8 ((n : Int) % 256)] := by rw [← hs, w4_small n h1]; rfl
  have hS := litK_own w w.heap.size 5 .u8 s (Nat.le_refl _) (by omega)
  have HCK : Aside0 (Calls Tryd.prog 47 #[.slice (some ⟨w.heap.size, 0, none⟩) 4 4, .slice A n c] (w.alloc (.cells (nums .u8 s).toArray 5)) fun e w' => ∃ A c, e = .returned (.slice A 8 c) ∧ 8 ≤ c ∧ Kd.C (Kd.int .u8) w' A (chk s r).length (chk s r) ∧ Below (w.alloc (.cells (nums .u8 s).toArray 5)).heap.size (w.alloc (.cells (nums .u8 s).toArray 5)) w') :=
    ⟨check_calls (some ⟨w.heap.size, 0, none⟩) 4 4 s A n c r hsl hr (by omega) h1 (by omega) hc hbs hbr _ hS (Kd.C_alloc hR _) (hK.below (below_alloc (Below.refl _ _) _))⟩
  have HS := Aside0.mk hS
  have HR := Aside0.mk (Kd.C_alloc hR (.cells (nums .u8 s).toArray 5))
  have HB0 := Aside0.mk hB0
  have HF := Aside0.mk hfr
  have HRL := Aside0.mk hr
  have HSL := Aside0.mk hsl
  rw [hnum] at HCK HS HR HB0
  clear hs hbs hsl hfr hB0 hnum hS hR hK hr hbr
  go_enter Tryd.func12, Tryd.ntmps12
  go_wp2_with (first
    | (go_at_call 47; (with_reducible refine HCK.out.mono ?_); rintro e w1 ⟨A1, c1, rfl, hc1, h1, hb⟩; have H1 := Aside0.mk h1; have HB := Aside0.mk hb; clear h1 hb)
    | (go_at_call 46; have hP := parts3 w1 _ A1 A 4 c1 c _ (chk s r) r 24 (Kd.C_below HS.out HB.out) H1.out (Kd.C_below HR.out HB.out) (Nat.le_of_eq HSL.out) (by rw [chk_len]; exact hc1) (by rw [HRL.out]; exact hc); rw [HSL.out, chk_len, HRL.out] at hP; (with_reducible refine (concat_calls w1.heap.size 3 _ 3 rfl (Nat.le_refl _) (by omega) (by simp only [tot, List.length_append, HSL.out]; omega) (by simp only [tot, List.length_append, HSL.out, chk_len, HRL.out, List.length_nil]; omega) _ hP).mono ?_); rintro e w2 ⟨v, rfl, ho, hb⟩; have HO := Aside0.mk ho; have HB2 := Aside0.mk hb; clear ho hb hP)
    | fail)
  go_ret
  refine ⟨_, rfl, ?_, ?_⟩
  · rw [HF.out]
    have h := HO.out
    simp only [tot, List.append_nil] at h
    exact Kd.R_lower h (by have h1 := HB0.out.size; have h2 := HB.out.size; have h3 := (below_alloc (Below.refl w1.heap.size w1) (.cells #[.slice (some ⟨w.heap.size, 0, none⟩) 4 4, .slice A1 8 c1, .slice A n c] 24)).size; omega)
  · exact below_then HB0.out HB0.out.size (below_then HB.out HB.out.size (below_then (below_alloc (Below.refl _ _) _) (by simp) HB2.out))
end Go.Proofs.YteapdhfeddgjbaaDoor.Dg
end
section
/- journal: whole frames, plain; bytes.Equal. -/
namespace Go.Proofs.YteapdhfeddgjbaaDoor.Dg
set_option linter.unusedVariables false
set_option linter.unusedSimpArgs false
open Go.RowKit Go.Proofs.YteapdhfeddgjbaaDoor.PDb Go.Proofs.YteapdhfeddgjbaaDoorW Go.Proofs.YteapdhfeddgjbaaDoorW.PrintWords Go.Proofs.YteapdhfeddgjbaaDoorW.PrintLast Go.Proofs.YteapdhfeddgjbaaDoorW.PrintMore

theorem u8_inj {a b : Int} (ha : 0 ≤ a ∧ a < 256) (hb : 0 ≤ b ∧ b < 256) (h : UInt8.ofNat a.toNat = UInt8.ofNat b.toNat) : a = b := by
  have h2 := congrArg UInt8.toNat h
  simp at h2
  omega
theorem map_inj : ∀ {a b : List Int}, Bt a → Bt b → a.map (fun n => UInt8.ofNat n.toNat) = b.map (fun n => UInt8.ofNat n.toNat) → a = b
  | [], [], _, _, _ => rfl
  | [], _ :: _, _, _, h => by simp at h
  | _ :: _, [], _, _, h => by simp at h
  | x :: a, y :: b, ha, hb, h => by
    simp only [List.map_cons, List.cons.injEq] at h
    rw [u8_inj (ha x List.mem_cons_self) (hb y List.mem_cons_self) h.1, map_inj (fun z hz => ha z (List.mem_cons_of_mem _ hz)) (fun z hz => hb z (List.mem_cons_of_mem _ hz)) h.2]
theorem beq_bytes {a b : List Int} (ha : Bt a) (hb : Bt b) : ((strOfNums a).toList == (strOfNums b).toList) = decide (a = b) := by
  by_cases h : a = b
  · subst h; simp
  · rw [decide_eq_false h]
    rw [beq_eq_false_iff_ne]
    intro e
    rw [ByteArray.toList_eq, ByteArray.toList_eq, strOfNums_data, strOfNums_data] at e
    exact h (map_inj ha hb e)
theorem equal_calls (A0 : Option Addr) (n0 c0 : Nat) (l0 : List Int) (A1 : Option Addr) (n1 c1 : Nat) (l1 : List Int) (e0 : l0.length = n0) (e1 : l1.length = n1) (w : World) (hr0 : Kd.C (Kd.int .u8) w A0 l0.length l0) (hc0 : n0 ≤ c0) (hr1 : Kd.C (Kd.int .u8) w A1 l1.length l1) (hc1 : n1 ≤ c1) (b0 : Bt l0) (b1 : Bt l1) :
    Calls Tryd.prog 57 #[.slice A0 n0 c0, .slice A1 n1 c1] w fun e w' => e = .returned (.bool (decide (l0 = l1))) ∧ Below w.heap.size w w' := by
  subst e0 e1
  refine (PDe.bytes_Equal.calls A0 c0 l0 A1 c1 l1 _ w hr0 hc0 hr1 hc1 (by unfold PDe.bytes_Equal.f; rw [beq_bytes b0 b1])).mono ?_
  rintro e w' ⟨h1, h2⟩
  exact ⟨h1, h2.below⟩

/-! ### whole frames -/
def hdN (f : List Int) : Nat := (rd f 0).toNat * 16777216 + (rd f 1).toNat * 65536 + (rd f 2).toNat * 256 + (rd f 3).toNat
/-- The first whole frame's record: how long it is. -/
def nxt (f : List Int) : Option Nat :=
  if 12 ≤ f.length ∧ hdN f ≤ 16777216 ∧ hdN f + 12 ≤ f.length ∧ (f.drop 4).take 8 = chk (f.take 4) ((f.drop 12).take (hdN f)) then some (hdN f) else none
theorem nxt_le {f : List Int} {n : Nat} (h : nxt f = some n) : n + 12 ≤ f.length ∧ n = hdN f := by
  unfold nxt at h
  split at h
  · rename_i h2; cases h; exact ⟨h2.2.2.1, rfl⟩
  · cases h
/-- Where whole frames end, and their records. -/
def fra (b : List Int) : Nat → Nat → List (Nat × List Int)
  | 0, _ => []
  | k + 1, a => match nxt (b.drop a) with
    | none => []
    | some n => (a + (12 + n), ((b.drop a).drop 12).take n) :: fra b k (a + (12 + n))
def frames (b : List Int) : List (Nat × List Int) := fra b (b.length + 1) 0
theorem fra_none {b : List Int} {k a : Nat} (h : nxt (b.drop a) = none) : fra b k a = [] := by
  cases k with
  | zero => rfl
  | succ k => rw [fra, h]
theorem fra_some {b : List Int} {k a n : Nat} (h : nxt (b.drop a) = some n) : fra b (k + 1) a = (a + (12 + n), ((b.drop a).drop 12).take n) :: fra b k (a + (12 + n)) := by
  rw [fra, h]
theorem bt4 {f : List Int} (h : Bt f) : hdN f < 4294967296 := by
  have h0 := h.rd 0
  have h1 := h.rd 1
  have h2 := h.rd 2
  have h3 := h.rd 3
  unfold hdN
  omega
theorem i64_nat (n : Int) (h0 : 0 ≤ n) (h1 : n < 2 ^ 62) : IntKind.i64.wrap n = n := by
  rw [IntKind.wrap_i64]
  have : (2 : Int) ^ 62 = 4611686018427387904 := by decide
  omega
theorem or24 (a b : Int) (ha : 0 ≤ a ∧ a < 256) (hb : 0 ≤ b ∧ b < 256) : Go.bits .or .i64 (a * 16777216) (b * 65536) = a * 16777216 + b * 65536 :=
  bits_join .i64 62 (by decide) i64_nat 24 _ _ (by omega) (by omega) (by omega) (by omega) (by omega) (by omega)
theorem or16 (a b c : Int) (ha : 0 ≤ a ∧ a < 256) (hb : 0 ≤ b ∧ b < 256) (hc : 0 ≤ c ∧ c < 256) : Go.bits .or .i64 (a * 16777216 + b * 65536) (c * 256) = a * 16777216 + b * 65536 + c * 256 :=
  bits_join .i64 62 (by decide) i64_nat 16 _ _ (by omega) (by omega) (by omega) (by omega) (by omega) (by omega)
theorem or8b (a b c d : Int) (ha : 0 ≤ a ∧ a < 256) (hb : 0 ≤ b ∧ b < 256) (hc : 0 ≤ c ∧ c < 256) (hd : 0 ≤ d ∧ d < 256) : Go.bits .or .i64 (a * 16777216 + b * 65536 + c * 256) d = a * 16777216 + b * 65536 + c * 256 + d :=
  bits_join .i64 62 (by decide) i64_nat 8 _ _ (by omega) (by omega) (by omega) (by omega) (by omega) (by omega)
end Go.Proofs.YteapdhfeddgjbaaDoor.Dg
end
section
/- journal: the iterator of whole frames. -/
namespace Go.Proofs.YteapdhfeddgjbaaDoor.Dg
set_option linter.unusedVariables false
set_option linter.unusedSimpArgs false
open Go.RowKit Go.Shelf Go.Proofs.YteapdhfeddgjbaaDoor.Rng Go.Proofs.YteapdhfeddgjbaaDoor.PDb Go.Proofs.YteapdhfeddgjbaaDoorW Go.Proofs.YteapdhfeddgjbaaDoorW.PrintWords Go.Proofs.YteapdhfeddgjbaaDoorW.PrintLast Go.Proofs.YteapdhfeddgjbaaDoorW.PrintMore
attribute [local go_sem] Oper.semAt_some

/-- What a round is handed: where the frame ends, and its record. -/
abbrev Fl := Nat × Option Addr × List Int × Nat
def fencs (x : Fl) : Array Value := #[.int .i64 (x.1 : Int), .slice x.2.1 x.2.2.1.length x.2.2.2]
def fkey (x : Fl) : Nat × List Int := (x.1, x.2.2.1)
def FZ (b : List Int) (pre : List Fl) (x : Fl) (W : World) : Prop :=
  (∃ rest, frames b = pre.map fkey ++ fkey x :: rest) ∧ x.2.2.1.length ≤ x.2.2.2 ∧ Kd.C (Kd.int .u8) W x.2.1 x.2.2.1.length x.2.2.1
/-- What a round keeps. -/
def FKp (base g : Nat) (W W' : World) : Prop := Below base W W' ∧ (∀ v, W.cell? ⟨g, 0, none⟩ = some v → W'.cell? ⟨g, 0, none⟩ = some v)
theorem cell_i {k : IntKind} {W : World} {ad : Addr} {l : List Int} (h : Kd.C (Kd.int k) W (some ad) l.length l) (i : Nat) (hi : i < l.length) : W.cell? (ad.add i) = some (.int k (rd l (i : Int))) := by
  obtain ⟨ad', e, hc⟩ := Kd.at_int h (i : Int) (by omega) (by omega)
  cases e
  simpa using hc
theorem cast_a12 (a q : Nat) : ((a + (12 + q) : Nat) : Int) = (a : Int) + (12 + (q : Int)) := by omega
theorem wrap_12 (q : Nat) (h : q ≤ 900000) : wrap64 (12 + (q : Int)) = 12 + (q : Int) := IntWalk.wrap64_in _ (by omega)
theorem wrap_a12 (a q : Nat) (h : a + (12 + q) ≤ 900000) : wrap64 ((a : Int) + (12 + (q : Int))) = (a : Int) + (12 + (q : Int)) := IntWalk.wrap64_in _ (by omega)
theorem meas_a12 {N a q : Nat} (h : a + (12 + q) ≤ N) : N - (a + (12 + q)) < N - (intOf (.int .i64 (a : Int))).toNat := by simp [intOf]; omega
set_option maxHeartbeats 6400000 in
set_option maxRecDepth 100000 in
theorem frames_seq (n : Nat) (hn : 2 ≤ n) (wb w0 : World) (g N c : Nat) (A : Option Addr) (b : List Int) (hN : b.length = N) (hb : Bt b) (hN1 : N ≤ 900000) (hc : N ≤ c) (hC : Kd.C (Kd.int .u8) wb A b.length b) (hK : Tab wb 2 KK) (hB : Below wb.heap.size wb w0) (hg : w0.cell? ⟨g, 0, none⟩ = some (.slice A N c)) :
    SeqZ Fence.wide n Tryd.prog 89 #[.pointer (some ⟨g, 0, none⟩)] fencs (FKp wb.heap.size g) (FZ b) (fun xs => xs.map fkey = frames b) (fun _ => True) w0 := by
  intro l J Jx W hW hJ hJx hY h0
  have HN1 : Aside0 (1 ≤ n) := ⟨Nat.le_of_succ_le hn⟩
  have hgW : W.cell? ⟨g, 0, none⟩ = some (.slice A N c) := pw_cell_below hW hg
  have HBW : Aside0 (Below wb.heap.size wb W) := ⟨below_then hB hB.size hW⟩
  have HJ := Aside0.mk hJ
  have HJx := Aside0.mk hJx
  have HY := Aside0.mk hY
  have H0 := Aside0.mk h0
  have HC := Aside0.mk hC
  have HK := Aside0.mk hK
  have HN := Aside0.mk hN
  have HBT := Aside0.mk hb
  have HG := Aside0.mk hgW
  clear hJ hJx hY h0 hC hK hB hW hg hgW hN hb
  refine callsIn_of_wp Tryd.func89 rfl trivial ?_ rfl
  simp only [Tryd.ntmps89, List.size_toArray, List.length_cons, List.length_nil, Nat.reduceAdd, Nat.reduceSub, Array.replicate_succ, Array.replicate_zero, List.push_toArray, List.append_toArray, List.nil_append, List.cons_append]
  gi_wp2_with fail
  gi_loopw [3, 4, 5, 6] (fun v3 v4 v5 v6 wr => ∃ (a k : Nat) (pre : List Fl), v3 = .int .i64 (a : Int) ∧ a ≤ N ∧ N - a < k ∧ Aside0 (frames b = pre.map fkey ++ fra b k a) ∧ Aside0 (J pre wr) ∧ Aside0 (Below wb.heap.size wb wr) ∧ Aside0 (wr.cell? ⟨g, 0, none⟩ = some (.slice A N c)))
    (fun v3 _ _ _ _ => N - (intOf v3).toNat)
  case atStart => exact ⟨0, N + 1, [], rfl, Nat.zero_le _, by omega, ⟨by have h := HN.out; subst h; rfl⟩, H0, HBW, HG⟩
  case round =>
    obtain ⟨a, k, pre, rfl, ha, hk, HF, HJp, HBr, HGr⟩ := hrel
    have hcell := HGr.out
    by_cases h12 : a + 12 ≤ N
    · have hd : ¬ ((N : Int) - (a : Int) < 12) := by omega
      have hd' : (12 : Int) ≤ (N : Int) - (a : Int) := by omega
      have hw : wrap64 ((N : Int) - (a : Int)) = (N : Int) - (a : Int) := IntWalk.wrap64_in _ (by omega)
      obtain ⟨ad, rfl⟩ := C_some HC.out (by have := HN.out; omega)
      gi_wp2_with fail
      obtain ⟨f, hf⟩ : ∃ f, b.drop a = f := ⟨_, rfl⟩
      obtain ⟨fa, hfa⟩ : ∃ x, ad.add a = x := ⟨_, rfl⟩
      obtain ⟨m, hm⟩ : ∃ m, N - a = m := ⟨_, rfl⟩
      obtain ⟨cf, hcf⟩ : ∃ m, c - a = m := ⟨_, rfl⟩
      have hfl : f.length = m := by rw [← hf, List.length_drop, HN.out]; exact hm
      have hCf : Kd.C (Kd.int .u8) wb (some fa) f.length f := by
        rw [← hf, ← hfa]; exact C_whole HC.out a (by have := HN.out; omega)
      have hbf : Bt f := by rw [← hf]; exact HBT.out.drop a
      have hm12 : 12 ≤ m := by omega
      have hcm : m ≤ cf := by omega
      have HFL := Aside0.mk hfl
      have HCF := Aside0.mk hCf
      have HBF := Aside0.mk hbf
      have HF1 := Aside0.mk hf
      have HFA := Aside0.mk hfa
      have HMM := Aside0.mk hm
      have HCM := Aside0.mk hcf
      have hCr := Kd.C_below hCf HBr.out
      have k0 := cell_i hCr 0 (by omega)
      have k1 := cell_i hCr 1 (by omega)
      have k2 := cell_i hCr 2 (by omega)
      have k3 := cell_i hCr 3 (by omega)
      rw [ad_add0] at k0
      rw [hfa, hm, hcf]
      have r0 := hbf.rd ((0 : Nat) : Int)
      have r1 := hbf.rd ((1 : Nat) : Int)
      have r2 := hbf.rd ((2 : Nat) : Int)
      have r3 := hbf.rd ((3 : Nat) : Int)
      have HH : Aside0 (((hdN f : Nat) : Int) = rd f ((0 : Nat) : Int) * 16777216 + rd f ((1 : Nat) : Int) * 65536 + rd f ((2 : Nat) : Int) * 256 + rd f ((3 : Nat) : Int)) := ⟨by
        unfold hdN
        have e0 : rd f ((0 : Nat) : Int) = rd f 0 := rfl
        have e1 : rd f ((1 : Nat) : Int) = rd f 1 := rfl
        have e2 : rd f ((2 : Nat) : Int) = rd f 2 := rfl
        have e3 : rd f ((3 : Nat) : Int) = rd f 3 := rfl
        rw [e0] at r0
        rw [e1] at r1
        rw [e2] at r2
        rw [e3] at r3
        rw [e0, e1, e2, e3]
        omega⟩
      obtain ⟨x0, hx0⟩ : ∃ x, rd f ((0 : Nat) : Int) = x := ⟨_, rfl⟩
      obtain ⟨x1, hx1⟩ : ∃ x, rd f ((1 : Nat) : Int) = x := ⟨_, rfl⟩
      obtain ⟨x2, hx2⟩ : ∃ x, rd f ((2 : Nat) : Int) = x := ⟨_, rfl⟩
      obtain ⟨x3, hx3⟩ : ∃ x, rd f ((3 : Nat) : Int) = x := ⟨_, rfl⟩
      rw [hx0] at k0 r0 HH
      rw [hx1] at k1 r1 HH
      rw [hx2] at k2 r2 HH
      rw [hx3] at k3 r3 HH
      have o1 := or24 x0 x1 r0 r1
      have o2 := or16 x0 x1 x2 r0 r1 r2
      have o3 := or8b x0 x1 x2 x3 r0 r1 r2 r3
      rw [← HH.out] at o3
      have hq := bt4 hbf
      obtain ⟨q, hq2⟩ : ∃ q, hdN f = q := ⟨_, rfl⟩
      rw [hq2] at o3 hq
      have HQ := Aside0.mk hq2
      clear hx0 hx1 hx2 hx3 hf hfa hm hcf hfl hCf hbf hCr HH hq2 hd hd' hw hcell
      simp [Addr.add] at k1 k2 k3
      have hmN : m ≤ 900000 := by have := HMM.out; omega
      by_cases hbad : 16777216 < q ∨ m < q + 12
      · have HNX : Aside0 (nxt f = none) := ⟨by
          unfold nxt
          rw [if_neg]
          rintro ⟨-, h1, h2, -⟩
          rw [HQ.out] at h1 h2
          rw [HFL.out] at h2
          omega⟩
        have HEND : Aside0 (pre.map fkey = frames b) := ⟨by rw [HF.out, fra_none (by rw [HF1.out]; exact HNX.out), List.append_nil]⟩
        have HJ2 := Aside0.mk (HJ.out pre wr wr.drew none HJp.out (grown_of_below (below_drew (Below.refl _ _)) none) (fun r e => by cases e))
        rcases hbad with h1 | h1
        · have hd1 : (16777216 : Int) < (q : Int) := by omega
          clear h1
          gi_region
          gi_wp2_with fail
          refine bodyPost_ret (results_none rfl _ _ _) rfl ?_
          exact ⟨⟨_, rfl⟩, .inl ⟨pre, HEND.out, HJ2.out⟩⟩
        · by_cases hd0 : (16777216 : Int) < (q : Int)
          · clear h1
            gi_region
            gi_wp2_with fail
            refine bodyPost_ret (results_none rfl _ _ _) rfl ?_
            exact ⟨⟨_, rfl⟩, .inl ⟨pre, HEND.out, HJ2.out⟩⟩
          · have hd1 : (m : Int) - 12 < (q : Int) := by omega
            have hw1 : wrap64 ((m : Int) - 12) = (m : Int) - 12 := IntWalk.wrap64_in _ (by omega)
            clear h1
            gi_region
            gi_wp2_with fail
            refine bodyPost_ret (results_none rfl _ _ _) rfl ?_
            exact ⟨⟨_, rfl⟩, .inl ⟨pre, HEND.out, HJ2.out⟩⟩
      · have hd0 : ¬ ((16777216 : Int) < (q : Int)) := by omega
        have hd1 : ¬ ((m : Int) - 12 < (q : Int)) := by omega
        have hw1 : wrap64 ((m : Int) - 12) = (m : Int) - 12 := IntWalk.wrap64_in _ (by omega)
        have hqm : q + 12 ≤ m := by omega
        have hb1 : (12 : Int) + (q : Int) ≤ (cf : Int) := by omega
        have hb2 : (0 : Int) ≤ 12 + (q : Int) := by omega
        have hb3 : (12 : Int) ≤ 12 + (q : Int) := by omega
        have hb4 : ((12 : Int) + (q : Int)).toNat = 12 + q := by omega
        clear hbad
        obtain ⟨R, hR⟩ : ∃ R, (f.drop 12).take q = R := ⟨_, rfl⟩
        have HRD := Aside0.mk hR
        have HRL : Aside0 (R.length = q) := ⟨by rw [← hR, List.length_take, List.length_drop, HFL.out]; omega⟩
        have HRB : Aside0 (Bt R) := ⟨by rw [← hR]; exact (HBF.out.drop 12).take q⟩
        have HF4 : Aside0 ((f.take 4).length = 4) := ⟨by rw [List.length_take, HFL.out]; omega⟩
        have HF8 : Aside0 (((f.drop 4).take 8).length = 8) := ⟨by rw [List.length_take, List.length_drop, HFL.out]; omega⟩
        have HC4 : Aside0 (Kd.C (Kd.int .u8) wb (some fa) (f.take 4).length (f.take 4)) := ⟨C_head HCF.out 4 (by rw [HFL.out]; omega)⟩
        have HC8 : Aside0 (Kd.C (Kd.int .u8) wb (some ⟨fa.block, fa.off + 4, none⟩) ((f.drop 4).take 8).length ((f.drop 4).take 8)) := ⟨by have h := C_part HCF.out 4 8 (by rw [HFL.out]; omega); simpa [Addr.add] using h⟩
        have HCR : Aside0 (Kd.C (Kd.int .u8) wb (some ⟨fa.block, fa.off + 12, none⟩) R.length R) := ⟨by have h := C_part HCF.out 12 q (by rw [HFL.out]; omega); rw [hR] at h; simpa [Addr.add] using h⟩
        clear hR
        by_cases h12c : cf = 12
        · subst h12c
          have hm : m = 12 := by omega
          have hq0 : q = 0 := by omega
          have hR0 : R = [] := List.eq_nil_of_length_eq_zero (by have := HRL.out; omega)
          have HRC : Aside0 (Kd.C (Kd.int .u8) wb (some fa) R.length R) := ⟨by rw [hR0]; have h := C_head HCF.out 0 (Nat.zero_le _); rw [List.take_zero] at h; exact h⟩
          have hrcq : q ≤ 0 := by omega
          clear hm hq0 hR0
          have HCK : Aside0 (∀ W', Below wb.heap.size wb W' → Calls Tryd.prog 47 #[.slice (some fa) 4 12, .slice (some fa) q 0] W' fun e w' => ∃ A c, e = .returned (.slice A 8 c) ∧ 8 ≤ c ∧ Kd.C (Kd.int .u8) w' A (chk (f.take 4) R).length (chk (f.take 4) R) ∧ Below W'.heap.size W' w') :=
            ⟨fun W' hb => check_calls (some fa) 4 12 (f.take 4) (some fa) q 0 R HF4.out HRL.out (by omega) (by omega) (by omega) (by omega) (HBF.out.take 4) HRB.out W' (Kd.C_below HC4.out hb) (Kd.C_below HRC.out hb) (HK.out.below hb)⟩
          have HEQ : Aside0 (∀ W' A c, 8 ≤ c → Below wb.heap.size wb W' → Kd.C (Kd.int .u8) W' A (chk (f.take 4) R).length (chk (f.take 4) R) → Calls Tryd.prog 57 #[.slice (some ⟨fa.block, fa.off + 4, none⟩) 8 (12 - 4), .slice A 8 c] W' fun e w' => e = .returned (.bool (decide ((f.drop 4).take 8 = chk (f.take 4) R))) ∧ Below W'.heap.size W' w') :=
            ⟨fun W' A c h8 hb hA => equal_calls _ 8 _ ((f.drop 4).take 8) A 8 c (chk (f.take 4) R) HF8.out (chk_len _ _) W' (Kd.C_below HC8.out hb) (by omega) hA h8 ((HBF.out.drop 4).take 8) ((sha_Bt _).take 8)⟩
          have hs4 : 12 - 4 = 12 - 4 := rfl
          obtain ⟨rc0, hrc0⟩ : ∃ x, 0 = x := ⟨_, rfl⟩
          have HRQ := Aside0.mk hrcq
          have HQ9 : Aside0 (q ≤ 900000) := ⟨by omega⟩
          have HA9 : Aside0 (a + (12 + q) ≤ 900000) := ⟨by have := HMM.out; omega⟩
          have HA9N : Aside0 (a + (12 + q) ≤ N) := ⟨by have := HMM.out; omega⟩
          have HKK : Aside0 (N - (a + (12 + q)) < k - 1) := ⟨by have := HMM.out; omega⟩
          by_cases hch : (f.drop 4).take 8 = chk (f.take 4) R
          · rw [decide_eq_true hch] at HEQ
            have HNX : Aside0 (nxt f = some q) := ⟨by
              unfold nxt
              rw [if_pos ⟨by rw [HFL.out]; exact hm12, by rw [HQ.out]; omega, by rw [HQ.out, HFL.out]; exact hqm, by rw [HQ.out, HRD.out]; exact hch⟩, HQ.out]⟩
            clear hch hrc0 hs4
            have hz4 : (4 : Int) ≤ (12 : Int) := by omega
            have hz12 : (12 : Int) ≤ (12 : Int) := by omega
            have hz5 : ¬ 12 = 4 := by omega
            gi_region
            gi_wp2_with fail
            gi_region_with (first
              | (refine ⟨trivial, fun _ => by omega, ?_⟩; gi_at_call 47; (with_reducible refine (callsIn_wide.2 (HCK.out _ (below_drew (below_drew HBr.out)))).mono ?_); rintro e w2 ⟨A2, c2, rfl, h8, hA2, hb2⟩; have H8 := Aside0.mk h8; have HA2 := Aside0.mk hA2; have HB2 := Aside0.mk (below_then (below_drew (below_drew HBr.out)) (below_drew (below_drew HBr.out)).size hb2); have HS2 := Aside0.mk (below_then (below_drew (below_drew (Below.refl wr.heap.size wr))) (below_drew (below_drew (Below.refl wr.heap.size wr))).size hb2); clear h8 hA2 hb2)
              | (refine ⟨trivial, fun _ => by omega, ?_⟩; gi_at_call 57; (with_reducible refine (callsIn_wide.2 (HEQ.out w2 A2 c2 H8.out HB2.out HA2.out)).mono ?_); rintro e w3 ⟨rfl, hb3⟩; have HB3 := Aside0.mk (below_then HB2.out HB2.out.size hb3); have HS3 := Aside0.mk (below_then HS2.out HS2.out.size hb3); clear hb3)
              | fail)
            have HJ3 := Aside0.mk (HJ.out pre wr w3 none HJp.out (grown_of_below HS3.out none) (fun r e => by cases e))
            have hgl := World.block_lt_of_cell? _ _ HGr.out
            have HG3 := Aside0.mk ((HS3.out.cell (p := ⟨g, 0, none⟩) hgl).trans HGr.out)
            have HX : Aside0 (frames b = pre.map fkey ++ (a + (12 + q), R) :: fra b (k - 1) (a + (12 + q))) := ⟨by
              rw [HF.out, show k = (k - 1) + 1 from by omega, fra_some (n := q) (by rw [HF1.out]; exact HNX.out), HF1.out, HRD.out]; rfl⟩
            obtain ⟨fn, tmps, assign, body, hy, hRo⟩ := HY.out pre (a + (12 + q), some fa, R, 0) w3 HJ3.out ⟨⟨_, HX.out⟩, by rw [HRL.out]; exact HRQ.out, Kd.C_below HRC.out HB3.out⟩
            dsimp only [fencs] at hy
            rw [HRL.out, cast_a12] at hy
            have HRR := Aside0.mk hRo
            have hw2 := wrap_12 q HQ9.out
            have hw3 := wrap_a12 a q HA9.out
            have hmr : N - (a + (12 + q)) < N - (intOf (.int .i64 (a : Int))).toNat := meas_a12 HA9N.out
            have HMR := Aside0.mk hmr
            clear hRo hmr
            refine (‹∀ (a : Act) (w_1 : World), Code.wpIn _ _ _ _ _ a w_1 → _› _ _ ?_)
            clear hd0 hd1 hw1 hqm hb1 hb2 hb3 hb4 o1 o2 o3 r0 r1 r2 r3 k0 k1 k2 k3 hq hz4 hz12 hz5 hrcq hmN hm12 h12 hN1
            gi_wp2_with fail
            refine ⟨fun _ => HN1.out, HRR.out.mono ?_⟩
            clear HRR hy
            rintro e w4 (⟨rfl, hJ2, hk2⟩ | ⟨rfl, hJx2⟩)
            · have HJ4 := Aside0.mk hJ2
              have HB4 := Aside0.mk (HB3.out.trans hk2.1)
              have HG4 := Aside0.mk (hk2.2 _ HG3.out)
              clear hk2 hJ2
              gi_wp2_with fail
              refine ⟨⟨a + (12 + q), k - 1, pre ++ [_], rfl, HA9N.out, HKK.out, ⟨by rw [HX.out, List.map_append, List.append_assoc]; rfl⟩, HJ4, HB4, HG4⟩, ?_⟩
              exact HMR.out
            · gi_wp2_with fail
              refine bodyPost_ret (results_none rfl _ _ _) rfl ?_
              exact ⟨⟨_, rfl⟩, .inr ⟨_, trivial, hJx2⟩⟩
          · rw [decide_eq_false hch] at HEQ
            have HNX : Aside0 (nxt f = none) := ⟨by
              unfold nxt
              rw [if_neg]
              rintro ⟨-, -, -, h1⟩
              rw [HQ.out, HRD.out] at h1
              exact hch h1⟩
            have HEND : Aside0 (pre.map fkey = frames b) := ⟨by rw [HF.out, fra_none (by rw [HF1.out]; exact HNX.out), List.append_nil]⟩
            clear hch hrc0 hs4
            have hz4 : (4 : Int) ≤ (12 : Int) := by omega
            have hz12 : (12 : Int) ≤ (12 : Int) := by omega
            have hz5 : ¬ 12 = 4 := by omega
            gi_region
            gi_wp2_with fail
            gi_region_with (first
              | (refine ⟨trivial, fun _ => by omega, ?_⟩; gi_at_call 47; (with_reducible refine (callsIn_wide.2 (HCK.out _ (below_drew (below_drew HBr.out)))).mono ?_); rintro e w2 ⟨A2, c2, rfl, h8, hA2, hb2⟩; have H8 := Aside0.mk h8; have HA2 := Aside0.mk hA2; have HB2 := Aside0.mk (below_then (below_drew (below_drew HBr.out)) (below_drew (below_drew HBr.out)).size hb2); have HS2 := Aside0.mk (below_then (below_drew (below_drew (Below.refl wr.heap.size wr))) (below_drew (below_drew (Below.refl wr.heap.size wr))).size hb2); clear h8 hA2 hb2)
              | (refine ⟨trivial, fun _ => by omega, ?_⟩; gi_at_call 57; (with_reducible refine (callsIn_wide.2 (HEQ.out w2 A2 c2 H8.out HB2.out HA2.out)).mono ?_); rintro e w3 ⟨rfl, hb3⟩; have HB3 := Aside0.mk (below_then HB2.out HB2.out.size hb3); have HS3 := Aside0.mk (below_then HS2.out HS2.out.size hb3); clear hb3)
              | fail)
            have HJ3 := Aside0.mk (HJ.out pre wr w3 none HJp.out (grown_of_below HS3.out none) (fun r e => by cases e))
            refine (‹∀ (a : Act) (w_1 : World), Code.wpIn _ _ _ _ _ a w_1 → _› _ _ ?_)
            gi_wp2_with fail
            refine bodyPost_ret (results_none rfl _ _ _) rfl ?_
            exact ⟨⟨_, rfl⟩, .inl ⟨pre, HEND.out, HJ3.out⟩⟩
        · have HRC : Aside0 (Kd.C (Kd.int .u8) wb (some ⟨fa.block, fa.off + 12, none⟩) R.length R) := ⟨HCR.out⟩
          have HCK : Aside0 (∀ W', Below wb.heap.size wb W' → Calls Tryd.prog 47 #[.slice (some fa) 4 cf, .slice (some ⟨fa.block, fa.off + 12, none⟩) q (cf - 12)] W' fun e w' => ∃ A c, e = .returned (.slice A 8 c) ∧ 8 ≤ c ∧ Kd.C (Kd.int .u8) w' A (chk (f.take 4) R).length (chk (f.take 4) R) ∧ Below W'.heap.size W' w') :=
            ⟨fun W' hb => check_calls (some fa) 4 cf (f.take 4) (some ⟨fa.block, fa.off + 12, none⟩) q (cf - 12) R HF4.out HRL.out (by omega) (by omega) (by omega) (by omega) (HBF.out.take 4) HRB.out W' (Kd.C_below HC4.out hb) (Kd.C_below HRC.out hb) (HK.out.below hb)⟩
          have HEQ : Aside0 (∀ W' A c, 8 ≤ c → Below wb.heap.size wb W' → Kd.C (Kd.int .u8) W' A (chk (f.take 4) R).length (chk (f.take 4) R) → Calls Tryd.prog 57 #[.slice (some ⟨fa.block, fa.off + 4, none⟩) 8 (cf - 4), .slice A 8 c] W' fun e w' => e = .returned (.bool (decide ((f.drop 4).take 8 = chk (f.take 4) R))) ∧ Below W'.heap.size W' w') :=
            ⟨fun W' A c h8 hb hA => equal_calls _ 8 _ ((f.drop 4).take 8) A 8 c (chk (f.take 4) R) HF8.out (chk_len _ _) W' (Kd.C_below HC8.out hb) (by omega) hA h8 ((HBF.out.drop 4).take 8) ((sha_Bt _).take 8)⟩
          have hs4 : cf - 4 = cf - 4 := rfl
          obtain ⟨rc0, hrc0⟩ : ∃ x, (cf - 12) = x := ⟨_, rfl⟩
          have hrcq : q ≤ (cf - 12) := by omega
          have HRQ := Aside0.mk hrcq
          have HQ9 : Aside0 (q ≤ 900000) := ⟨by omega⟩
          have HA9 : Aside0 (a + (12 + q) ≤ 900000) := ⟨by have := HMM.out; omega⟩
          have HA9N : Aside0 (a + (12 + q) ≤ N) := ⟨by have := HMM.out; omega⟩
          have HKK : Aside0 (N - (a + (12 + q)) < k - 1) := ⟨by have := HMM.out; omega⟩
          by_cases hch : (f.drop 4).take 8 = chk (f.take 4) R
          · rw [decide_eq_true hch] at HEQ
            have HNX : Aside0 (nxt f = some q) := ⟨by
              unfold nxt
              rw [if_pos ⟨by rw [HFL.out]; exact hm12, by rw [HQ.out]; omega, by rw [HQ.out, HFL.out]; exact hqm, by rw [HQ.out, HRD.out]; exact hch⟩, HQ.out]⟩
            clear hch hrc0 hs4
            have hz4 : (4 : Int) ≤ (cf : Int) := by omega
            have hz12 : (12 : Int) ≤ (cf : Int) := by omega
            have hz5 : ¬ cf = 4 := by omega
            gi_region
            gi_wp2_with fail
            gi_region_with (first
              | (refine ⟨trivial, fun _ => by omega, ?_⟩; gi_at_call 47; (with_reducible refine (callsIn_wide.2 (HCK.out _ (below_drew (below_drew HBr.out)))).mono ?_); rintro e w2 ⟨A2, c2, rfl, h8, hA2, hb2⟩; have H8 := Aside0.mk h8; have HA2 := Aside0.mk hA2; have HB2 := Aside0.mk (below_then (below_drew (below_drew HBr.out)) (below_drew (below_drew HBr.out)).size hb2); have HS2 := Aside0.mk (below_then (below_drew (below_drew (Below.refl wr.heap.size wr))) (below_drew (below_drew (Below.refl wr.heap.size wr))).size hb2); clear h8 hA2 hb2)
              | (refine ⟨trivial, fun _ => by omega, ?_⟩; gi_at_call 57; (with_reducible refine (callsIn_wide.2 (HEQ.out w2 A2 c2 H8.out HB2.out HA2.out)).mono ?_); rintro e w3 ⟨rfl, hb3⟩; have HB3 := Aside0.mk (below_then HB2.out HB2.out.size hb3); have HS3 := Aside0.mk (below_then HS2.out HS2.out.size hb3); clear hb3)
              | fail)
            have HJ3 := Aside0.mk (HJ.out pre wr w3 none HJp.out (grown_of_below HS3.out none) (fun r e => by cases e))
            have hgl := World.block_lt_of_cell? _ _ HGr.out
            have HG3 := Aside0.mk ((HS3.out.cell (p := ⟨g, 0, none⟩) hgl).trans HGr.out)
            have HX : Aside0 (frames b = pre.map fkey ++ (a + (12 + q), R) :: fra b (k - 1) (a + (12 + q))) := ⟨by
              rw [HF.out, show k = (k - 1) + 1 from by omega, fra_some (n := q) (by rw [HF1.out]; exact HNX.out), HF1.out, HRD.out]; rfl⟩
            obtain ⟨fn, tmps, assign, body, hy, hRo⟩ := HY.out pre (a + (12 + q), some ⟨fa.block, fa.off + 12, none⟩, R, (cf - 12)) w3 HJ3.out ⟨⟨_, HX.out⟩, by rw [HRL.out]; exact HRQ.out, Kd.C_below HRC.out HB3.out⟩
            dsimp only [fencs] at hy
            rw [HRL.out, cast_a12] at hy
            have HRR := Aside0.mk hRo
            have hw2 := wrap_12 q HQ9.out
            have hw3 := wrap_a12 a q HA9.out
            have hmr : N - (a + (12 + q)) < N - (intOf (.int .i64 (a : Int))).toNat := meas_a12 HA9N.out
            have HMR := Aside0.mk hmr
            clear hRo hmr
            refine (‹∀ (a : Act) (w_1 : World), Code.wpIn _ _ _ _ _ a w_1 → _› _ _ ?_)
            clear hd0 hd1 hw1 hqm hb1 hb2 hb3 hb4 o1 o2 o3 r0 r1 r2 r3 k0 k1 k2 k3 hq hz4 hz12 hz5 hrcq hmN hm12 h12 hN1
            gi_wp2_with fail
            refine ⟨fun _ => HN1.out, HRR.out.mono ?_⟩
            clear HRR hy
            rintro e w4 (⟨rfl, hJ2, hk2⟩ | ⟨rfl, hJx2⟩)
            · have HJ4 := Aside0.mk hJ2
              have HB4 := Aside0.mk (HB3.out.trans hk2.1)
              have HG4 := Aside0.mk (hk2.2 _ HG3.out)
              clear hk2 hJ2
              gi_wp2_with fail
              refine ⟨⟨a + (12 + q), k - 1, pre ++ [_], rfl, HA9N.out, HKK.out, ⟨by rw [HX.out, List.map_append, List.append_assoc]; rfl⟩, HJ4, HB4, HG4⟩, ?_⟩
              exact HMR.out
            · gi_wp2_with fail
              refine bodyPost_ret (results_none rfl _ _ _) rfl ?_
              exact ⟨⟨_, rfl⟩, .inr ⟨_, trivial, hJx2⟩⟩
          · rw [decide_eq_false hch] at HEQ
            have HNX : Aside0 (nxt f = none) := ⟨by
              unfold nxt
              rw [if_neg]
              rintro ⟨-, -, -, h1⟩
              rw [HQ.out, HRD.out] at h1
              exact hch h1⟩
            have HEND : Aside0 (pre.map fkey = frames b) := ⟨by rw [HF.out, fra_none (by rw [HF1.out]; exact HNX.out), List.append_nil]⟩
            clear hch hrc0 hs4
            have hz4 : (4 : Int) ≤ (cf : Int) := by omega
            have hz12 : (12 : Int) ≤ (cf : Int) := by omega
            have hz5 : ¬ cf = 4 := by omega
            gi_region
            gi_wp2_with fail
            gi_region_with (first
              | (refine ⟨trivial, fun _ => by omega, ?_⟩; gi_at_call 47; (with_reducible refine (callsIn_wide.2 (HCK.out _ (below_drew (below_drew HBr.out)))).mono ?_); rintro e w2 ⟨A2, c2, rfl, h8, hA2, hb2⟩; have H8 := Aside0.mk h8; have HA2 := Aside0.mk hA2; have HB2 := Aside0.mk (below_then (below_drew (below_drew HBr.out)) (below_drew (below_drew HBr.out)).size hb2); have HS2 := Aside0.mk (below_then (below_drew (below_drew (Below.refl wr.heap.size wr))) (below_drew (below_drew (Below.refl wr.heap.size wr))).size hb2); clear h8 hA2 hb2)
              | (refine ⟨trivial, fun _ => by omega, ?_⟩; gi_at_call 57; (with_reducible refine (callsIn_wide.2 (HEQ.out w2 A2 c2 H8.out HB2.out HA2.out)).mono ?_); rintro e w3 ⟨rfl, hb3⟩; have HB3 := Aside0.mk (below_then HB2.out HB2.out.size hb3); have HS3 := Aside0.mk (below_then HS2.out HS2.out.size hb3); clear hb3)
              | fail)
            have HJ3 := Aside0.mk (HJ.out pre wr w3 none HJp.out (grown_of_below HS3.out none) (fun r e => by cases e))
            refine (‹∀ (a : Act) (w_1 : World), Code.wpIn _ _ _ _ _ a w_1 → _› _ _ ?_)
            gi_wp2_with fail
            refine bodyPost_ret (results_none rfl _ _ _) rfl ?_
            exact ⟨⟨_, rfl⟩, .inl ⟨pre, HEND.out, HJ3.out⟩⟩
    · have HNX : Aside0 (nxt (b.drop a) = none) := ⟨by
        unfold nxt
        rw [if_neg]
        rintro ⟨h1, -⟩
        rw [List.length_drop, HN.out] at h1
        omega⟩
      have HEND : Aside0 (pre.map fkey = frames b) := ⟨by rw [HF.out, fra_none HNX.out, List.append_nil]⟩
      have hd : (N : Int) - (a : Int) < 12 := by omega
      have hw : wrap64 ((N : Int) - (a : Int)) = (N : Int) - (a : Int) := IntWalk.wrap64_in _ (by omega)
      gi_wp2_with fail
      go_end0
      exact ⟨⟨_, rfl⟩, .inl ⟨pre, HEND.out, HJp.out⟩⟩
end Go.Proofs.YteapdhfeddgjbaaDoor.Dg
end
section
/- journal: a range over whole frames; what is kept in cells; Torn. -/
namespace Go.Proofs.YteapdhfeddgjbaaDoor.Dg
set_option linter.unusedVariables false
set_option linter.unusedSimpArgs false
open Go.RowKit Go.Shelf Go.Proofs.YteapdhfeddgjbaaDoor.Rng Go.Proofs.YteapdhfeddgjbaaDoor.PDb Go.Proofs.YteapdhfeddgjbaaDoorW Go.Proofs.YteapdhfeddgjbaaDoorW.PrintWords Go.Proofs.YteapdhfeddgjbaaDoorW.PrintLast Go.Proofs.YteapdhfeddgjbaaDoorW.PrintMore
attribute [local go_sem] Oper.semAt_some

theorem C_move {k : IntKind} {W W' : World} {A : Option Addr} {l : List Int} (h : Kd.C (Kd.int k) W A l.length l) (hm : ∀ a v, W.cell? a = some (.int k v) → W'.cell? a = some (.int k v)) : Kd.C (Kd.int k) W' A l.length l := by
  have h' : ReadsOf (Value.int k) (0 : Int) W A l.length l := Kd.reads_of_C (h1 := fun _ => rfl) h
  refine Kd.C_of_reads (enc := Value.int k) (d := (0 : Int)) (h1 := fun _ => rfl) ⟨h'.1, h'.2.1, fun hp => ?_⟩
  obtain ⟨ad, e, hc⟩ := h'.2.2 hp
  exact ⟨ad, e, fun j hj => hm _ _ (hc j hj)⟩
theorem C_row {k : IntKind} {W W' : World} {row : Option Nat} {A : Option Addr} {l : List Int} (h : Kd.C (Kd.int k) W A l.length l) (hg : W.grownBy W' row) (hr : ∀ r, row = some r → ∃ o : Obj, W.heap[r]? = some o ∧ o.isCells = false) : Kd.C (Kd.int k) W' A l.length l :=
  C_move h fun a x hx => cell_kept hx hg hr
theorem set_far {X : World} {p a : Addr} {v u : Value} (hc : X.cell? a = some v) (hne : p.block ≠ a.block) : (X.setCell p u).cell? a = some v := by
  rw [World.cell?_setCell_far _ _ _ _ hne]; exact hc
theorem set_same {X : World} {p : Addr} {v u : Value} (hc : X.cell? p = some v) : (X.setCell p u).cell? p = some u := World.cell?_setCell_same' _ _ _ (by simp [hc])
theorem keeps_below {X X' : World} (hb : Below X.heap.size X X') : KeepsOthers X X' := ⟨hb.size, fun k o hk _ => (hb.block k (Array.getElem?_eq_some_iff.1 hk).1).trans hk⟩
theorem FKp.trans {base g : Nat} {X Y Z : World} (h : FKp base g X Y) (k : FKp base g Y Z) : FKp base g X Z := ⟨h.1.trans k.1, fun v c => k.2 v (h.2 v c)⟩
theorem FKp.putObj {base g : Nat} (W : World) (l : Nat) (o o' : Obj) (hbl : base ≤ l) (hl : W.heap[l]? = some o) (ho : o.isCells = false) : FKp base g W (W.putObj l o') := by
  have hr : ∀ r, some l = some r → ∃ o : Obj, W.heap[r]? = some o ∧ o.isCells = false := fun r e => by cases e; exact ⟨o, hl, ho⟩
  exact ⟨(Below.refl base W).grown (grownBy_putObj' W l o') (Nat.le_trans hbl (Nat.le_of_lt (Array.getElem?_eq_some_iff.1 hl).1)) (fun k e => by cases e; exact hbl), fun v c => cell_kept c (grownBy_putObj' W _ o') hr⟩
theorem FZ.putObj {b : List Int} (pre : List Fl) (x : Fl) (W : World) (l : Nat) (o o' : Obj) (hl : W.heap[l]? = some o) (ho : o.isCells = false) (h : FZ b pre x W) : FZ b pre x (W.putObj l o') := by
  have hr : ∀ r, some l = some r → ∃ o : Obj, W.heap[r]? = some o ∧ o.isCells = false := fun r e => by cases e; exact ⟨o, hl, ho⟩
  exact ⟨h.1, h.2.1, C_row h.2.2 (grownBy_putObj' W _ o') hr⟩
theorem frames_calls (A : Option Addr) (N c : Nat) (W : World) : Calls Tryd.prog 48 #[.slice A N c] W fun e w' => e = .returned (.func (.func 89) #[] #[.pointer (some ⟨W.heap.size, 0, none⟩)]) ∧ W.alloc (.cells #[.slice A N c] 24) = w' := by
  go_enter Tryd.func48, Tryd.ntmps48
  go_wp2
  go_ret
  exact ⟨rfl, rfl⟩
/-- A range over the frames of a row of bytes. -/
theorem range_frames {n : Nat} {g : Operand} {ps : Array Tmp} {assign body : Code} {Q : Exit → Act → World → Prop} {a : Act} {w : World} (hn : 3 ≤ n)
    (wb : World) (gb N c : Nat) (A : Option Addr) (b : List Int) (hN : b.length = N) (hb : Bt b) (hN1 : N ≤ 900000) (hc : N ≤ c) (hC : Kd.C (Kd.int .u8) wb A b.length b) (hK : Tab wb 2 KK) (hB : Below wb.heap.size wb w) (hcell : w.cell? ⟨gb, 0, none⟩ = some (.slice A N c))
    (hg : a.eval g = .func (.func 89) #[] #[.pointer (some ⟨gb, 0, none⟩)]) (hps : ps.size = 2)
    (I : List Fl → World → Prop) (Ix : Code → List Fl → World → Prop) (hI : OwnFrom w.heap.size I) (hIx : ∀ c, OwnFrom w.heap.size (Ix c)) (h0 : I [] w)
    (hround : ∀ (l : Nat) (pre : List Fl) (x : Fl), ∃ a₁ : Act,
      (∀ (W : World) (K : Act → World → Prop), K a₁ W → assign.wpIn (Fence.wide.inRound l) (n - 1 - 1) Tryd.prog (Exit.then K (fun _ _ _ => False)) { tmps := (ps.zip (fencs x)).foldl (fun t (p, v) => t.setIfInBounds p v) a.tmps, defers := [] } W) ∧
      (∀ W : World, I pre W → FZ b pre x W → body.wpIn (Fence.wide.inRound l) (n - 1 - 1) Tryd.prog (ownPostG w.heap.size (FKp wb.heap.size gb) I Ix (pre ++ [x]) W) a₁ W))
    (hdone : ∀ (D : Nat) (xs : List Fl) (W : World), w.heap.size ≤ D → xs.map fkey = frames b → I xs W → W.heap[D]? = some (.deferred (some [])) → Q .normal { a with defers := { target := .collected D, args := #[] } :: a.defers } W)
    (hstop : ∀ (D : Nat) (c : Code) (pre : List Fl) (W : World), w.heap.size ≤ D → Ix c pre W → W.heap[D]? = some (.deferred (some [])) → c.wpIn Fence.wide n Tryd.prog Q { a with defers := { target := .collected D, args := #[] } :: a.defers } W) :
    (Code.rangeFunc g ps assign body).wpIn Fence.wide n Tryd.prog Q a w :=
  range_law2 rfl (by omega) hg trivial (enters_of Tryd.func89 (by kernel_rfl) rfl) (frames_seq (n - 1) (by omega) wb w gb N c A b hN hb hN1 hc hC hK hB hcell)
    FKp.trans (fun W l o o' hl1 hl ho _ => FKp.putObj W l o o' (Nat.le_trans hB.size hl1) hl ho) FZ.putObj (Below.refl _ _) (fun x => by rw [hps]; rfl) I Ix hI hIx h0 hround hdone (fun D c pre W hD _ hi hk => hstop D c pre W hD hi hk)

theorem C_none {W : World} {l : List Int} (h : Kd.C (Kd.int .u8) W none l.length l) : l = [] := by
  by_cases e : l.length = 0
  · exact List.eq_nil_of_length_eq_zero e
  · obtain ⟨ad, e2⟩ := C_some h (by omega)
    cases e2
theorem C_take {W : World} {A : Option Addr} {l : List Int} (h : Kd.C (Kd.int .u8) W A l.length l) (t : Nat) (ht : t ≤ l.length) : Kd.C (Kd.int .u8) W A (l.take t).length (l.take t) := by
  cases A with
  | none => rw [C_none h, List.take_nil]; exact Kd.C_nil _ _
  | some ad => exact C_head h t ht
theorem R_putObj {α : Type} {d : Kd α} {e base : Nat} {ok : Nat → Prop} {v : Value} {xs : List α} {w : World} (h : d.R e w base ok v xs) {D : Nat} {o : Obj} (hD : w.heap[D]? = some o) (ho : o.isCells = false) (o' : Obj) : d.R e (w.putObj D o') base ok v xs :=
  Kd.R_mono (Kd.R_step (Kd.R_bound h) (fun k hk _ => by
    obtain ⟨-, -, -, q, -, cells, hc⟩ := hk
    refine World.putObj_heap_other ?_
    rintro rfl
    rw [hD] at hc
    cases hc
    cases ho)) (fun k hk => hk.1)
theorem putObj_below {B : Nat} {w X : World} (h : Below B w X) {D : Nat} (hD : B ≤ D) (hB : B ≤ X.heap.size) (o' : Obj) : Below B w (X.putObj D o') := h.grown (grownBy_putObj' X D o') hB (fun k e => by cases e; exact hD)
/-- append(v, x): what the built-in does, as a run. -/
theorem R_append_run {α : Type} {P : Program} (d : Kd α) {W : World} (base : Nat) (t ty e : TypeId) (z : Value) (bytes : Nat)
    (ht : P.underlying t = some (.slice e)) (hinfo : (P.info? e).map (fun i => (i.zero, i.size, i.bytes)) = some (some z, d.sz, bytes)) (hz : z.cells.size = d.sz) (hs0 : 0 < d.sz) (hb0 : 0 < bytes)
    (v : Value) (xs : List α) (p : α) (cs : List Value) (ok okp : Nat → Prop) (hp : d.M W base okp p cs) (hokp : ∀ k, okp k → ok k ∧ some k ≠ v.ownBlock) (hfresh : ∀ k, W.heap.size ≤ k → ok k)
    (HO : d.R e W base ok v xs) (hbase : base ≤ W.heap.size) (hl : (xs.length + 1) * bytes ≤ 140737488355328) :
    ∃ v1 w1, (Builtin.append_ #[t, t] ty #[v, .slice (some ⟨W.heap.size, 0, none⟩) 1 1]).run P (W.alloc (.cells cs.toArray e)) = .ok v1 w1 ∧ d.R e w1 base ok v1 (xs ++ [p]) ∧ W.grownBy w1 v.ownBlock ∧ (v1.ownBlock = v.ownBlock ∨ ∃ b, v1.ownBlock = some b ∧ W.heap.size ≤ b) := by
  obtain ⟨i0, hi, hzz⟩ := Option.map_eq_some_iff.1 hinfo
  simp only [Prod.mk.injEq] at hzz
  obtain ⟨hz0, hz1, hz2⟩ := hzz
  obtain ⟨h0, inner, hown, hr⟩ := HO
  have hys : cs.length = d.sz := d.K_len (d.K_of_M hp)
  have hlen : xs.length + 1 ≤ 140737488355328 := Nat.le_trans (Nat.le_mul_of_pos_right _ hb0) hl
  obtain ⟨v1, w1, hrun, hown1, hg, _, hat⟩ := run_append_own_at (P := P) (W.alloc (.cells cs.toArray e)) base t ty e i0 z d.sz bytes ht hi hz0 hz1 hz2 hz hs0 v xs.length inner (hown.alloc _) ⟨W.heap.size, 0, none⟩ 1 1 cs (by rw [hys]; simp)
    (by simpa using World.news_of_block (cs := cs.toArray) (t := e) (fr := (0, 0)) (heap_alloc_new W (.cells cs.toArray e))) (d.K_one (d.K_of_M hp)) (by simp only [maxLen]; omega) hl (by simp; omega)
  have hat' : v1.ownBlock = v.ownBlock ∨ ∃ b, v1.ownBlock = some b ∧ W.heap.size ≤ b := by
    rcases hat with hat | hat
    · exact .inl hat
    · exact .inr ⟨_, hat, by simp⟩
  have hg' := World.grownBy.trans (World.grownBy_alloc W (.cells cs.toArray e) _) hg
  exact ⟨v1, w1, hrun, Kd.R_appended h0 hr hp hokp hfresh hown1 hg' hat', hg', hat'⟩
/-- append in a region, inside a fence, by its run. -/
theorem step_run_in {F : Fence} {n : Nat} {P : Program} {ops : Array Oper} {o : Oper} {a : Act} {Q : Exit → Act → World → Prop} {K : Act → World → Prop} {w w1 : World} {v1 : Value} (s x : Operand) (t : TypeId)
    (ho : o.op = .call { callee := .builtin .append, args := #[s, x], argTypes := #[t, t] }) (hgd : o.guard = none) (hrun : (Builtin.append_ #[t, t] o.type #[a.eval s, a.eval x]).run P w = .ok v1 w1) (h : K (a.put o.dst v1) w1) :
    if Region.wanted o (yielded ops a.tmps) = true then Oper.wpIn F n P o a w K Q else (∀ f, o.about P w a.eval = some f → F.fn f) ∧ K (a.put o.dst undef) w := by
  rw [if_pos (by simp only [Region.wanted, hgd])]
  unfold Oper.wpIn
  refine ⟨?_, ?_⟩
  · simp [Oper.about, ho, resolve, Target.leads, Sem.run_pure]
  · rw [Oper.semAt_plain F _ _ (by rw [ho]; intro c hc'; cases hc')]
    simp [execOp, ho, resolve, invoke, builtin, hrun, Result.andThen]
    exact h
/-- Where the last record begins, and where it ends. -/
def ends2 (l : List Nat) : Nat × Nat := l.foldl (fun p x => (p.2, x)) (0, 0)
theorem ends2_next (l : List Nat) (x : Nat) : ends2 (l ++ [x]) = ((ends2 l).2, x) := by unfold ends2; rw [List.foldl_append]; rfl
def endsOf (b : List Int) : List Nat := (frames b).map (·.1)
end Go.Proofs.YteapdhfeddgjbaaDoor.Dg
end
section
/- journal: Torn. -/
namespace Go.Proofs.YteapdhfeddgjbaaDoor.Dg
set_option linter.unusedVariables false
set_option linter.unusedSimpArgs false
open Go.RowKit Go.Shelf Go.Proofs.YteapdhfeddgjbaaDoor.Rng Go.Proofs.YteapdhfeddgjbaaDoor.PDb Go.Proofs.YteapdhfeddgjbaaDoorW Go.Proofs.YteapdhfeddgjbaaDoorW.PrintWords Go.Proofs.YteapdhfeddgjbaaDoorW.PrintLast Go.Proofs.YteapdhfeddgjbaaDoorW.PrintMore
attribute [local go_sem] Oper.semAt_some

end Go.Proofs.YteapdhfeddgjbaaDoor.Dg
end
section
/- journal: Scan. -/
namespace Go.Proofs.YteapdhfeddgjbaaDoor.Dg
set_option linter.unusedVariables false
set_option linter.unusedSimpArgs false
open Go.RowKit Go.Shelf Go.Proofs.YteapdhfeddgjbaaDoor.Rng Go.Proofs.YteapdhfeddgjbaaDoor.PDb Go.Proofs.YteapdhfeddgjbaaDoorW Go.Proofs.YteapdhfeddgjbaaDoorW.PrintWords Go.Proofs.YteapdhfeddgjbaaDoorW.PrintLast Go.Proofs.YteapdhfeddgjbaaDoorW.PrintMore
attribute [local go_sem] Oper.semAt_some

def recsOf (b : List Int) : List (List Int) := (frames b).map (·.2)
theorem fra_len (b : List Int) : ∀ k a, (fra b k a).length ≤ k
  | 0, a => Nat.le_refl _
  | k + 1, a => by
    cases e : nxt (b.drop a) with
    | none => rw [fra_none e]; exact Nat.zero_le _
    | some n => rw [fra_some e]; exact Nat.succ_le_succ (fra_len b k _)
theorem fra_rec (b : List Int) : ∀ k a p, p ∈ fra b k a → p.2.length ≤ b.length
  | 0, a, p, h => by cases h
  | k + 1, a, p, h => by
    cases e : nxt (b.drop a) with
    | none => rw [fra_none e] at h; cases h
    | some n =>
      rw [fra_some e] at h
      rcases List.mem_cons.1 h with h | h
      · subst h
        show (((b.drop a).drop 12).take n).length ≤ _
        simp only [List.length_take, List.length_drop]
        omega
      · exact fra_rec b k _ p h
/-- What Scan has in its cells. -/
def SI (W : World) (B : Nat) (pre : List Fl) (X : World) : Prop :=
  ∃ v, X.heap[W.heap.size]? = some (.cells #[v] 22 (0, 0)) ∧ X.heap[W.heap.size + 1]? = some (.cells #[.int .i64 (((ends2 (pre.map (·.1))).2 : Nat) : Int)] 3 (0, 0)) ∧
    (Kd.slice 5 (Kd.int .u8)).R 24 X B (fun _ => True) v (pre.map (·.2.2.1)) ∧ Below W.heap.size W X ∧ B ≤ X.heap.size
theorem info24 : (Tryd.prog.info? 24).map (fun i => (i.zero, i.size, i.bytes)) = some (some (.slice none 0 0), 1, 24) := by kernel_rfl
theorem scan_app (v : Value) (xs : List (List Int)) (u : Value) (R : List Int) (X w3 : World) (B : Nat) (hBX : B ≤ X.drew.heap.size) (h3 : (Kd.slice 5 (Kd.int .u8)).R 24 X.drew B (fun _ => True) v xs)
    (ho : Kd.R (Kd.int .u8) 5 w3 X.drew.heap.size (fun _ => True) u R) (hb : Below X.drew.heap.size X.drew w3) (hl : xs.length ≤ 900001) :
    ∃ v1 w4, (Builtin.append_ #[22, 22] 22 #[v, .slice (some ⟨w3.heap.size, 0, none⟩) 1 1]).run Tryd.prog (w3.alloc (.cells #[u] 24)) = .ok v1 w4 ∧ Aside0 ((Kd.slice 5 (Kd.int .u8)).R 24 w4 B (fun _ => True) v1 (xs ++ [R])) ∧ Aside0 (w3.grownBy w4 v.ownBlock) ∧ Aside0 (v1.ownBlock = v.ownBlock ∨ ∃ b, v1.ownBlock = some b ∧ w3.heap.size ≤ b) := by
  obtain ⟨inner, hown⟩ := Kd.R_own h3
  have hp : (Kd.slice 5 (Kd.int .u8)).M w3 B (fun k => True ∧ some k ≠ v.ownBlock) R [u] := Kd.M_row (Kd.R_lower (Kd.R_new ho hown) hBX)
  obtain ⟨v1, w4, a, b, c, d⟩ := R_append_run (P := Tryd.prog) (Kd.slice 5 (Kd.int .u8)) (W := w3) B 22 22 24 (.slice none 0 0) 24 Tryd.underlying22 info24 rfl (by decide) (by decide) v xs R [u] (fun _ => True) _ hp (fun k hk => hk) (fun _ _ => trivial) (Kd.R_below h3 hb) (Nat.le_trans hBX hb.size) (by omega)
  exact ⟨v1, w4, a, ⟨b⟩, ⟨c⟩, ⟨d⟩⟩
theorem R_set_low {α : Type} {d : Kd α} {e base : Nat} {ok : Nat → Prop} {v : Value} {xs : List α} {w : World} (h : d.R e w base ok v xs) {p : Addr} (hp : p.block < base) (u : Value) : d.R e (w.setCell p u) base ok v xs :=
  Kd.R_mono (Kd.R_far (Kd.R_bound h) (fun k hk => by have := hk.2.1; omega) u) (fun k hk => hk.1)
theorem keeps_own {α : Type} {d : Kd α} {e base : Nat} {ok : Nat → Prop} {v : Value} {xs : List α} {w w1 : World} (h : d.R e w base ok v xs) (hg : w.grownBy w1 v.ownBlock) : KeepsOthers w w1 := by
  obtain ⟨inner, ho⟩ := Kd.R_own h
  refine KeepsOthers.of_grownBy hg fun j o e2 hj => ?_
  obtain ⟨cells, hc⟩ := own_typed ho j e2
  rw [hc] at hj
  cases hj
  rfl
set_option maxHeartbeats 6400000 in
set_option maxRecDepth 100000 in
theorem scan_calls (A : Option Addr) (N c : Nat) (b : List Int) (hN : b.length = N) (hb : Bt b) (hN1 : N ≤ 900000) (hc : N ≤ c) (W : World) (hC : Kd.C (Kd.int .u8) W A b.length b) (hK : Tab W 2 KK) :
    Calls Tryd.prog 15 #[.slice A N c] W fun e w' => ∃ v, e = .returned (.tuple #[v, .int .i64 (((ends2 (endsOf b)).2 : Nat) : Int)]) ∧ (Kd.slice 5 (Kd.int .u8)).R 24 w' W.heap.size (fun _ => True) v (recsOf b) ∧ Below W.heap.size W w' := by
  have HN := Aside0.mk hN
  have HBT := Aside0.mk hb
  have HN1 := Aside0.mk hN1
  have HC := Aside0.mk hC
  have HK := Aside0.mk hK
  have HCC := Aside0.mk hc
  clear hN hb hN1 hc hC hK
  refine (callsIn_wide (n := 9)).1 ?_
  refine callsIn_of_wp_marks Tryd.func15 rfl trivial ?_ rfl
  simp only [Tryd.ntmps15, List.size_toArray, List.length_cons, List.length_nil, Nat.reduceAdd, Nat.reduceSub, Array.replicate_succ, Array.replicate_zero, List.push_toArray, List.append_toArray, List.nil_append, List.cons_append]
  gi_wp2_with (first
    | (refine ⟨trivial, ?_⟩; gi_at_call 48; (with_reducible refine (callsIn_wide.2 (frames_calls _ _ _ _)).mono ?_); rintro e w2 ⟨rfl, hw2⟩; have HW2 := Aside0.mk hw2; clear hw2)
    | fail)
  have HB2 : Aside0 (Below W.heap.size W w2) := ⟨by rw [← HW2.out]; exact below_alloc (below_alloc (below_alloc (Below.refl _ _) _) _) _⟩
  have q7 : w2.cell? ⟨W.heap.size + 1 + 1, 0, none⟩ = some (.slice A N c) := by rw [← HW2.out]; go_simp
  have b0 : w2.heap[W.heap.size]? = some (.cells #[.slice none 0 0] 22 (0, 0)) := by rw [← HW2.out]; exact blk_alloc (blk_alloc (blk_new _ _) _) _
  have b1 : w2.heap[W.heap.size + 1]? = some (.cells #[.int .i64 ((0 : Nat) : Int)] 3 (0, 0)) := by
    rw [← HW2.out]
    have h := blk_new (W.alloc (.cells #[.slice none 0 0] 22)) (.cells #[.int .i64 0] 3)
    rw [World.size_alloc] at h
    exact blk_alloc h _
  have hs2 : W.heap.size + 3 ≤ w2.heap.size := by rw [← HW2.out]; simp
  have HS2 := Aside0.mk hs2
  clear HW2 hs2
  refine range_frames (by omega) W (W.heap.size + 1 + 1) N c A b HN.out HBT.out HN1.out HCC.out HC.out HK.out HB2.out q7 rfl rfl
    (SI W w2.heap.size) (fun _ _ _ => False) ?hI (fun _ _ _ _ _ h => h.elim) ⟨_, b0, b1, Kd.R_nil _ _ _ _ _, HB2.out, Nat.le_refl _⟩ ?round ?done (fun _ _ _ _ _ h => h.elim)
  case hI =>
    rintro s X Y row ⟨v, h1, h2, h3, h4, h5⟩ hg hr
    have hr' : ∀ r, row = some r → ∃ o : Obj, X.heap[r]? = some o ∧ o.isCells = false := fun r e => (hr r e).2
    have hne : ∀ g cs t fr, X.heap[g]? = some (.cells cs t fr) → some g ≠ row := fun g cs t fr hg e => by
      obtain ⟨o, ho, hoc⟩ := hr' g e.symm
      rw [hg] at ho; cases ho; cases hoc
    refine ⟨v, blk_grown h1 hg (hne _ _ _ _ h1), blk_grown h2 hg (hne _ _ _ _ h2), ?_, h4.grown hg h4.size (fun k e => by have := (hr k e).1; have := HB2.out.size; omega), Nat.le_trans h5 hg.size⟩
    exact Kd.R_mono (Kd.R_grown (Kd.R_bound h3) hg (fun k hk => by
      obtain ⟨-, -, -, q, -, cells, hc⟩ := hk
      exact hne _ _ _ _ hc)) (fun k hk => hk.1)
  case round =>
    rintro l pre ⟨x, Ax, R, cx⟩
    clear q7 b0 b1
    apply Exists.intro
    constructor
    · intro X K hK
      dsimp only [fencs]
      gi_wp2
      exact hK
    · rintro X ⟨v, h1, h2, h3, h4, h5⟩ ⟨hz1, hz2, hz3⟩
      dsimp only at hz2 hz3
      have c0 := blk_cell h1 0
      have c1 := blk_cell h2 0
      have f0 := blk_frozen h1 0
      have f1 := blk_frozen h2 0
      simp at c0 c1
      have H1 := Aside0.mk h1
      have H2 := Aside0.mk h2
      have H3 := Aside0.mk h3
      have H4 := Aside0.mk h4
      have H5 := Aside0.mk h5
      have HZ := Aside0.mk hz3
      have hRN : R.length ≤ 10000000 ∧ pre.length ≤ 900001 := by
        obtain ⟨rest, e⟩ := hz1
        have h5 := fra_rec b (b.length + 1) 0 (x, R) (by show _ ∈ frames b; rw [e]; exact List.mem_append_right _ List.mem_cons_self)
        have h6 : (frames b).length ≤ b.length + 1 := fra_len b (b.length + 1) 0
        rw [e, List.length_append, List.length_map] at h6
        rw [HN.out] at h5 h6
        dsimp only at h5
        have := HN1.out
        omega
      have HRN := Aside0.mk hRN
      clear h1 h2 h3 h4 h5 hz1 hz2 hz3 hRN
      have hlt : W.heap.size < X.heap.size := blk_lt H1.out
      gi_wp2_with fail
      refine wpIn_region_any (by kernel_rfl) ?_
      (try change wpAnyIn _ _ _ _ _ _ _ _ _ (World.drew _))
      -- BEGIN region
      refine wpAnyIn_ready (rs := [0, 1]) (by decide +kernel) (by simp) ?_
      refine AllReadyIn.cons rfl (fun K hK => ?_) ?_
      · go_simp
        refine hK _ _ ?_
        clear hK K
        refine wpAnyIn_ready (rs := [1]) (by decide +kernel) (by simp) ?_
        refine AllReadyIn.cons rfl (fun K hK => ?_) AllReadyIn.nil
        go_simp
        refine hK _ _ ?_
        clear hK K
        refine wpAnyIn_ready (rs := [2]) (by decide +kernel) (by simp) ?_
        refine AllReadyIn.cons rfl (fun K hK => ?_) AllReadyIn.nil
        go_simp
        refine ⟨trivial, ?_⟩; gi_at_call 49; (with_reducible refine (CallsIn.inRound l (callsIn_wide.2 (clone_calls Ax R.length cx R rfl HRN.out.1 _ (Kd.C_below HZ.out (below_drew (Below.refl _ _)))))).mono ?_); rintro e w3 ⟨u, rfl, ho, hb⟩; obtain ⟨Au, cu, eu⟩ := Kd.R_slice ho; subst eu; obtain ⟨v1, w4, hrun, HA, HG, HAT⟩ := scan_app v (pre.map (·.2.2.1)) (.slice Au R.length cu) R X w3 w2.heap.size H5.out (Kd.R_drew H3.out) ho hb (by rw [List.length_map]; have := HRN.out.2; omega); obtain ⟨A1, c1, ev⟩ := Kd.R_slice HA.out; subst ev; rw [List.length_append, List.length_map, List.length_singleton] at HA; have HB3 := Aside0.mk (below_then (below_drew (Below.refl X.heap.size X)) (below_drew (Below.refl X.heap.size X)).size hb); have hlw : W.heap.size < w3.heap.size := Nat.lt_of_lt_of_le hlt HB3.out.size; have c0w := pw_cell_below HB3.out c0; have hne := Kd.R_ne H3.out H1.out (by decide); have h1w := Aside0.mk (blk_grown (blk_below H1.out HB3.out) HG.out hne); have h2w := Aside0.mk (blk_grown (blk_below H2.out HB3.out) HG.out (Kd.R_ne H3.out H2.out (by decide))); have f0w := blk_frozen h1w.out 0; have f1w := blk_frozen h2w.out 0; have c0v := blk_cell h1w.out 0; have c1v := blk_cell h2w.out 0; simp at c0v c1v; clear ho hb hne
        refine hK _ _ ?_
        clear hK K
        refine wpAnyIn_ready (rs := [3]) (by decide +kernel) (by simp) ?_
        refine AllReadyIn.cons rfl (fun K hK => ?_) AllReadyIn.nil
        go_simp
        refine hK _ _ ?_
        clear hK K
        refine wpAnyIn_ready (rs := [4]) (by decide +kernel) (by simp) ?_
        refine AllReadyIn.cons rfl (fun K hK => ?_) AllReadyIn.nil
        refine step_run_in (.tmp 10) (.tmp 13) 22 rfl rfl hrun ?_
        refine hK _ _ ?_
        clear hK K
        refine wpAnyIn_ready (rs := [5]) (by decide +kernel) (by simp) ?_
        refine AllReadyIn.cons rfl (fun K hK => ?_) AllReadyIn.nil
        go_simp
        refine hK _ _ ?_
        clear hK K
        refine wpAnyIn_done (by decide +kernel) ?_ _
        gi_wp2_with fail
        have hbase := fun k hk => Kd.R_base H3.out k hk
        have hsz := HS2.out
        have hge : ∀ k, k < w2.heap.size → some k ≠ v.ownBlock := fun k hk e => absurd (hbase k e.symm) (by omega)
        refine ⟨((keeps_below HB3.out).trans ((keeps_own (Kd.R_below H3.out HB3.out) HG.out).trans ((KeepsOthers.setCell _ _ _).trans (KeepsOthers.setCell _ _ _)))).from _, ⟨?_, fun u hu => ?_⟩, ?_⟩
        · exact (((HB3.out.mono (Nat.le_of_lt hlt)).grown HG.out (Nat.le_of_lt hlw) (fun k e => by have := hbase k e; omega)).setCell (p := ⟨W.heap.size, 0, none⟩) (Nat.le_refl _) _).setCell (p := ⟨W.heap.size + 1, 0, none⟩) (Nat.le_succ _) _
        · have hu3 := pw_cell_below HB3.out hu
          exact set_far (set_far (cell_grown HG.out hu3 (hge (W.heap.size + 1 + 1) (by omega))) (by simp <;> omega)) (by simp)
        · refine ⟨_, blk_far (blk_set h1w.out 0 _) (by simp) _, ?_, ?_, ?_, ?_⟩
          · rw [List.map_append, List.map_cons, List.map_nil, ends2_next]
            exact blk_set (blk_far h2w.out (by simp) _) 0 _
          · rw [List.map_append]
            exact R_set_low (R_set_low HA.out (p := ⟨W.heap.size, 0, none⟩) (show W.heap.size < w2.heap.size by omega) _) (p := ⟨W.heap.size + 1, 0, none⟩) (show W.heap.size + 1 < w2.heap.size by omega) _
          · exact (((below_then H4.out H4.out.size HB3.out).grown HG.out (by omega) (fun k e => by have := hbase k e; omega)).setCell (p := ⟨W.heap.size, 0, none⟩) (Nat.le_refl _) _).setCell (p := ⟨W.heap.size + 1, 0, none⟩) (Nat.le_succ _) _
          · have := HG.out.size
            have := HB3.out.size
            have := H5.out
            simp
            omega
      refine AllReadyIn.cons rfl (fun K hK => ?_) ?_
      · go_simp
        refine hK _ _ ?_
        clear hK K
        refine wpAnyIn_ready (rs := [0, 2]) (by decide +kernel) (by simp) ?_
        refine AllReadyIn.cons rfl (fun K hK => ?_) ?_
        · go_simp
          refine hK _ _ ?_
          clear hK K
          refine wpAnyIn_ready (rs := [2]) (by decide +kernel) (by simp) ?_
          refine AllReadyIn.cons rfl (fun K hK => ?_) AllReadyIn.nil
          go_simp
          refine ⟨trivial, ?_⟩; gi_at_call 49; (with_reducible refine (CallsIn.inRound l (callsIn_wide.2 (clone_calls Ax R.length cx R rfl HRN.out.1 _ (Kd.C_below HZ.out (below_drew (Below.refl _ _)))))).mono ?_); rintro e w3 ⟨u, rfl, ho, hb⟩; obtain ⟨Au, cu, eu⟩ := Kd.R_slice ho; subst eu; obtain ⟨v1, w4, hrun, HA, HG, HAT⟩ := scan_app v (pre.map (·.2.2.1)) (.slice Au R.length cu) R X w3 w2.heap.size H5.out (Kd.R_drew H3.out) ho hb (by rw [List.length_map]; have := HRN.out.2; omega); obtain ⟨A1, c1, ev⟩ := Kd.R_slice HA.out; subst ev; rw [List.length_append, List.length_map, List.length_singleton] at HA; have HB3 := Aside0.mk (below_then (below_drew (Below.refl X.heap.size X)) (below_drew (Below.refl X.heap.size X)).size hb); have hlw : W.heap.size < w3.heap.size := Nat.lt_of_lt_of_le hlt HB3.out.size; have c0w := pw_cell_below HB3.out c0; have hne := Kd.R_ne H3.out H1.out (by decide); have h1w := Aside0.mk (blk_grown (blk_below H1.out HB3.out) HG.out hne); have h2w := Aside0.mk (blk_grown (blk_below H2.out HB3.out) HG.out (Kd.R_ne H3.out H2.out (by decide))); have f0w := blk_frozen h1w.out 0; have f1w := blk_frozen h2w.out 0; have c0v := blk_cell h1w.out 0; have c1v := blk_cell h2w.out 0; simp at c0v c1v; clear ho hb hne
          refine hK _ _ ?_
          clear hK K
          refine wpAnyIn_ready (rs := [3]) (by decide +kernel) (by simp) ?_
          refine AllReadyIn.cons rfl (fun K hK => ?_) AllReadyIn.nil
          go_simp
          refine hK _ _ ?_
          clear hK K
          refine wpAnyIn_ready (rs := [4]) (by decide +kernel) (by simp) ?_
          refine AllReadyIn.cons rfl (fun K hK => ?_) AllReadyIn.nil
          refine step_run_in (.tmp 10) (.tmp 13) 22 rfl rfl hrun ?_
          refine hK _ _ ?_
          clear hK K
          refine wpAnyIn_ready (rs := [5]) (by decide +kernel) (by simp) ?_
          refine AllReadyIn.cons rfl (fun K hK => ?_) AllReadyIn.nil
          go_simp
          refine hK _ _ ?_
          clear hK K
          refine wpAnyIn_done (by decide +kernel) ?_ _
          gi_wp2_with fail
          have hbase := fun k hk => Kd.R_base H3.out k hk
          have hsz := HS2.out
          have hge : ∀ k, k < w2.heap.size → some k ≠ v.ownBlock := fun k hk e => absurd (hbase k e.symm) (by omega)
          refine ⟨((keeps_below HB3.out).trans ((keeps_own (Kd.R_below H3.out HB3.out) HG.out).trans ((KeepsOthers.setCell _ _ _).trans (KeepsOthers.setCell _ _ _)))).from _, ⟨?_, fun u hu => ?_⟩, ?_⟩
          · exact (((HB3.out.mono (Nat.le_of_lt hlt)).grown HG.out (Nat.le_of_lt hlw) (fun k e => by have := hbase k e; omega)).setCell (p := ⟨W.heap.size, 0, none⟩) (Nat.le_refl _) _).setCell (p := ⟨W.heap.size + 1, 0, none⟩) (Nat.le_succ _) _
          · have hu3 := pw_cell_below HB3.out hu
            exact set_far (set_far (cell_grown HG.out hu3 (hge (W.heap.size + 1 + 1) (by omega))) (by simp <;> omega)) (by simp)
          · refine ⟨_, blk_far (blk_set h1w.out 0 _) (by simp) _, ?_, ?_, ?_, ?_⟩
            · rw [List.map_append, List.map_cons, List.map_nil, ends2_next]
              exact blk_set (blk_far h2w.out (by simp) _) 0 _
            · rw [List.map_append]
              exact R_set_low (R_set_low HA.out (p := ⟨W.heap.size, 0, none⟩) (show W.heap.size < w2.heap.size by omega) _) (p := ⟨W.heap.size + 1, 0, none⟩) (show W.heap.size + 1 < w2.heap.size by omega) _
            · exact (((below_then H4.out H4.out.size HB3.out).grown HG.out (by omega) (fun k e => by have := hbase k e; omega)).setCell (p := ⟨W.heap.size, 0, none⟩) (Nat.le_refl _) _).setCell (p := ⟨W.heap.size + 1, 0, none⟩) (Nat.le_succ _) _
            · have := HG.out.size
              have := HB3.out.size
              have := H5.out
              simp
              omega
        refine AllReadyIn.cons rfl (fun K hK => ?_) ?_
        · go_simp
          refine ⟨trivial, ?_⟩; gi_at_call 49; (with_reducible refine (CallsIn.inRound l (callsIn_wide.2 (clone_calls Ax R.length cx R rfl HRN.out.1 _ (Kd.C_below HZ.out (below_drew (Below.refl _ _)))))).mono ?_); rintro e w3 ⟨u, rfl, ho, hb⟩; obtain ⟨Au, cu, eu⟩ := Kd.R_slice ho; subst eu; obtain ⟨v1, w4, hrun, HA, HG, HAT⟩ := scan_app v (pre.map (·.2.2.1)) (.slice Au R.length cu) R X w3 w2.heap.size H5.out (Kd.R_drew H3.out) ho hb (by rw [List.length_map]; have := HRN.out.2; omega); obtain ⟨A1, c1, ev⟩ := Kd.R_slice HA.out; subst ev; rw [List.length_append, List.length_map, List.length_singleton] at HA; have HB3 := Aside0.mk (below_then (below_drew (Below.refl X.heap.size X)) (below_drew (Below.refl X.heap.size X)).size hb); have hlw : W.heap.size < w3.heap.size := Nat.lt_of_lt_of_le hlt HB3.out.size; have c0w := pw_cell_below HB3.out c0; have hne := Kd.R_ne H3.out H1.out (by decide); have h1w := Aside0.mk (blk_grown (blk_below H1.out HB3.out) HG.out hne); have h2w := Aside0.mk (blk_grown (blk_below H2.out HB3.out) HG.out (Kd.R_ne H3.out H2.out (by decide))); have f0w := blk_frozen h1w.out 0; have f1w := blk_frozen h2w.out 0; have c0v := blk_cell h1w.out 0; have c1v := blk_cell h2w.out 0; simp at c0v c1v; clear ho hb hne
          refine hK _ _ ?_
          clear hK K
          refine wpAnyIn_ready (rs := [0, 3]) (by decide +kernel) (by simp) ?_
          refine AllReadyIn.cons rfl (fun K hK => ?_) ?_
          · go_simp
            refine hK _ _ ?_
            clear hK K
            refine wpAnyIn_ready (rs := [3]) (by decide +kernel) (by simp) ?_
            refine AllReadyIn.cons rfl (fun K hK => ?_) AllReadyIn.nil
            go_simp
            refine hK _ _ ?_
            clear hK K
            refine wpAnyIn_ready (rs := [4]) (by decide +kernel) (by simp) ?_
            refine AllReadyIn.cons rfl (fun K hK => ?_) AllReadyIn.nil
            refine step_run_in (.tmp 10) (.tmp 13) 22 rfl rfl hrun ?_
            refine hK _ _ ?_
            clear hK K
            refine wpAnyIn_ready (rs := [5]) (by decide +kernel) (by simp) ?_
            refine AllReadyIn.cons rfl (fun K hK => ?_) AllReadyIn.nil
            go_simp
            refine hK _ _ ?_
            clear hK K
            refine wpAnyIn_done (by decide +kernel) ?_ _
            gi_wp2_with fail
            have hbase := fun k hk => Kd.R_base H3.out k hk
            have hsz := HS2.out
            have hge : ∀ k, k < w2.heap.size → some k ≠ v.ownBlock := fun k hk e => absurd (hbase k e.symm) (by omega)
            refine ⟨((keeps_below HB3.out).trans ((keeps_own (Kd.R_below H3.out HB3.out) HG.out).trans ((KeepsOthers.setCell _ _ _).trans (KeepsOthers.setCell _ _ _)))).from _, ⟨?_, fun u hu => ?_⟩, ?_⟩
            · exact (((HB3.out.mono (Nat.le_of_lt hlt)).grown HG.out (Nat.le_of_lt hlw) (fun k e => by have := hbase k e; omega)).setCell (p := ⟨W.heap.size, 0, none⟩) (Nat.le_refl _) _).setCell (p := ⟨W.heap.size + 1, 0, none⟩) (Nat.le_succ _) _
            · have hu3 := pw_cell_below HB3.out hu
              exact set_far (set_far (cell_grown HG.out hu3 (hge (W.heap.size + 1 + 1) (by omega))) (by simp <;> omega)) (by simp)
            · refine ⟨_, blk_far (blk_set h1w.out 0 _) (by simp) _, ?_, ?_, ?_, ?_⟩
              · rw [List.map_append, List.map_cons, List.map_nil, ends2_next]
                exact blk_set (blk_far h2w.out (by simp) _) 0 _
              · rw [List.map_append]
                exact R_set_low (R_set_low HA.out (p := ⟨W.heap.size, 0, none⟩) (show W.heap.size < w2.heap.size by omega) _) (p := ⟨W.heap.size + 1, 0, none⟩) (show W.heap.size + 1 < w2.heap.size by omega) _
              · exact (((below_then H4.out H4.out.size HB3.out).grown HG.out (by omega) (fun k e => by have := hbase k e; omega)).setCell (p := ⟨W.heap.size, 0, none⟩) (Nat.le_refl _) _).setCell (p := ⟨W.heap.size + 1, 0, none⟩) (Nat.le_succ _) _
              · have := HG.out.size
                have := HB3.out.size
                have := H5.out
                simp
                omega
          refine AllReadyIn.cons rfl (fun K hK => ?_) ?_
          · go_simp
            refine hK _ _ ?_
            clear hK K
            refine wpAnyIn_ready (rs := [0]) (by decide +kernel) (by simp) ?_
            refine AllReadyIn.cons rfl (fun K hK => ?_) AllReadyIn.nil
            go_simp
            refine hK _ _ ?_
            clear hK K
            refine wpAnyIn_ready (rs := [4]) (by decide +kernel) (by simp) ?_
            refine AllReadyIn.cons rfl (fun K hK => ?_) AllReadyIn.nil
            refine step_run_in (.tmp 10) (.tmp 13) 22 rfl rfl hrun ?_
            refine hK _ _ ?_
            clear hK K
            refine wpAnyIn_ready (rs := [5]) (by decide +kernel) (by simp) ?_
            refine AllReadyIn.cons rfl (fun K hK => ?_) AllReadyIn.nil
            go_simp
            refine hK _ _ ?_
            clear hK K
            refine wpAnyIn_done (by decide +kernel) ?_ _
            gi_wp2_with fail
            have hbase := fun k hk => Kd.R_base H3.out k hk
            have hsz := HS2.out
            have hge : ∀ k, k < w2.heap.size → some k ≠ v.ownBlock := fun k hk e => absurd (hbase k e.symm) (by omega)
            refine ⟨((keeps_below HB3.out).trans ((keeps_own (Kd.R_below H3.out HB3.out) HG.out).trans ((KeepsOthers.setCell _ _ _).trans (KeepsOthers.setCell _ _ _)))).from _, ⟨?_, fun u hu => ?_⟩, ?_⟩
            · exact (((HB3.out.mono (Nat.le_of_lt hlt)).grown HG.out (Nat.le_of_lt hlw) (fun k e => by have := hbase k e; omega)).setCell (p := ⟨W.heap.size, 0, none⟩) (Nat.le_refl _) _).setCell (p := ⟨W.heap.size + 1, 0, none⟩) (Nat.le_succ _) _
            · have hu3 := pw_cell_below HB3.out hu
              exact set_far (set_far (cell_grown HG.out hu3 (hge (W.heap.size + 1 + 1) (by omega))) (by simp <;> omega)) (by simp)
            · refine ⟨_, blk_far (blk_set h1w.out 0 _) (by simp) _, ?_, ?_, ?_, ?_⟩
              · rw [List.map_append, List.map_cons, List.map_nil, ends2_next]
                exact blk_set (blk_far h2w.out (by simp) _) 0 _
              · rw [List.map_append]
                exact R_set_low (R_set_low HA.out (p := ⟨W.heap.size, 0, none⟩) (show W.heap.size < w2.heap.size by omega) _) (p := ⟨W.heap.size + 1, 0, none⟩) (show W.heap.size + 1 < w2.heap.size by omega) _
              · exact (((below_then H4.out H4.out.size HB3.out).grown HG.out (by omega) (fun k e => by have := hbase k e; omega)).setCell (p := ⟨W.heap.size, 0, none⟩) (Nat.le_refl _) _).setCell (p := ⟨W.heap.size + 1, 0, none⟩) (Nat.le_succ _) _
              · have := HG.out.size
                have := HB3.out.size
                have := H5.out
                simp
                omega
          exact AllReadyIn.nil
        exact AllReadyIn.nil
      exact AllReadyIn.nil
      -- END region
  case done =>
    rintro D ys X hD hys ⟨v, h1, h2, h3, h4, h5⟩ hK
    have he : ys.map (·.1) = endsOf b := by
      unfold endsOf
      rw [← hys, List.map_map]
      rfl
    have hr : ys.map (·.2.2.1) = recsOf b := by
      unfold recsOf
      rw [← hys, List.map_map]
      rfl
    rw [he] at h2
    rw [hr] at h3
    obtain ⟨A1, c1, ev⟩ := Kd.R_slice h3
    subst ev
    have c0 := blk_cell h1 0
    have c1' := blk_cell h2 0
    have f0 := blk_frozen h1 0
    have f1 := blk_frozen h2 0
    simp at c0 c1'
    have H3 := Aside0.mk h3
    have H4 := Aside0.mk h4
    have HKD := Aside0.mk hK
    have hlt := blk_lt h1
    have hlt1 := blk_lt h2
    have H1 := Aside0.mk h1
    have H2 := Aside0.mk h2
    clear q7 b0 b1 h1 h2 h3 h4 hK hys he hr
    refine (‹∀ (a : Act) (w_1 : World), Code.wpIn _ _ _ _ _ a w_1 → _› _ _ ?_)
    gi_wp2_with fail
    gi_region
    gi_wp2_with fail
    obtain ⟨Y, hY⟩ : ∃ Y, ((X.setCell ⟨W.heap.size, 0, none⟩ (.slice A1 (recsOf b).length c1)).setCell ⟨W.heap.size + 1, 0, none⟩ (.int .i64 (((ends2 (endsOf b)).2 : Nat) : Int))).drew = Y := ⟨_, rfl⟩
    have hsz := HS2.out
    have k0 : Y.heap[W.heap.size]? = some (.cells #[.slice A1 (recsOf b).length c1] 22 (0, 0)) := by
      rw [← hY]; exact blk_drew (blk_far (blk_set H1.out 0 _) (by simp) _)
    have k1 : Y.heap[W.heap.size + 1]? = some (.cells #[.int .i64 (((ends2 (endsOf b)).2 : Nat) : Int)] 3 (0, 0)) := by
      rw [← hY]; exact blk_drew (blk_set (blk_far H2.out (by simp) _) 0 _)
    have kD : Y.heap[D]? = some (.deferred (some [])) := by
      rw [← hY]
      refine blk_drew ((Below.heap_setCell _ _ _ D ?_).trans ((Below.heap_setCell _ _ _ D ?_).trans HKD.out)) <;> (dsimp only; omega)
    have kR : (Kd.slice 5 (Kd.int .u8)).R 24 Y w2.heap.size (fun _ => True) (.slice A1 (recsOf b).length c1) (recsOf b) := by
      rw [← hY]
      exact Kd.R_drew (R_set_low (R_set_low H3.out (p := ⟨W.heap.size, 0, none⟩) (show W.heap.size < w2.heap.size by omega) _) (p := ⟨W.heap.size + 1, 0, none⟩) (show W.heap.size + 1 < w2.heap.size by omega) _)
    have kB : Below W.heap.size W Y := by
      rw [← hY]
      exact below_drew ((H4.out.setCell (p := ⟨W.heap.size, 0, none⟩) (Nat.le_refl _) _).setCell (p := ⟨W.heap.size + 1, 0, none⟩) (Nat.le_succ _) _)
    rw [hY]
    have hr' : ∀ r, some D = some r → ∃ o : Obj, Y.heap[r]? = some o ∧ o.isCells = false := fun r e => by cases e; exact ⟨_, kD, rfl⟩
    have g1 := cell_kept (blk_cell k0 0) (grownBy_putObj' Y D (.deferred none)) hr'
    have g2 := cell_kept (blk_cell k1 0) (grownBy_putObj' Y D (.deferred none)) hr'
    simp at g1 g2
    refine ⟨by simp, .inl ⟨_, _, rfl, run_takeDeferred (w := Y) kD, ?_⟩⟩
    refine ⟨.tuple #[.slice A1 (recsOf b).length c1, .int .i64 (((ends2 (endsOf b)).2 : Nat) : Int)], by simp [results, Tryd.results15, go_sem, g1, g2], _, rfl, ?_, ?_⟩
    · exact Kd.R_lower (R_putObj kR kD rfl _) (by omega)
    · exact putObj_below kB (by omega) kB.size _
end Go.Proofs.YteapdhfeddgjbaaDoor.Dg
end
section
/- digest: what the document's Sum comes to, in plain Lean. -/
namespace Go.Proofs.YteapdhfeddgjbaaDoor.Dg
set_option linter.unusedVariables false
open Go.RowKit Go.Proofs.YteapdhfeddgjbaaDoor.PDj Go.Proofs.YteapdhfeddgjbaaDoor.Num Go.Proofs.YteapdhfeddgjbaaDoorW Go.Proofs.YteapdhfeddgjbaaDoorW.PrintWords Go.Proofs.YteapdhfeddgjbaaDoorW.PrintLast Go.Proofs.YteapdhfeddgjbaaDoorW.PrintMore

theorem be8 (v : Nat) : be 8 v = b8 v := by
  simp only [be, le, b8, List.reverse_cons, List.reverse_nil, List.nil_append, List.cons_append, Nat.div_div_eq_div_mul]
theorem be4 (x : Int) (h0 : 0 ≤ x) : be 4 x.toNat = w4 x := by
  simp only [be, le, w4, List.reverse_cons, List.reverse_nil, List.nil_append, List.cons_append, Nat.div_div_eq_div_mul]
  congr 1
  · omega
  · congr 1
    · omega
    · congr 1
      · omega
      · congr 1
        omega
def W32 (l : List Int) : Prop := ∀ x ∈ l, 0 ≤ x ∧ x < 4294967296
theorem adds_W32 (h v : List Int) : ∀ i, W32 (adds h v i)
  | 0 => fun x hx => by cases hx
  | i + 1 => fun x hx => by
    rw [adds, List.mem_append] at hx
    rcases hx with hx | hx
    · exact adds_W32 h v i x hx
    · rw [List.mem_singleton.1 hx]; omega
theorem blk_W32 (h b : List Int) : W32 (blk h b) := adds_W32 _ _ _
theorem BB_W32 : W32 BB := by unfold W32 BB; decide
theorem run_W32 : ∀ n h m, W32 h → W32 (run h n m)
  | 0, _, _, hh => hh
  | n + 1, h, m, hh => run_W32 n _ _ (blk_W32 _ _)
theorem outs_append : ∀ a b : List Int, outs (a ++ b) = outs a ++ outs b
  | [], b => rfl
  | x :: a, b => by rw [List.cons_append, outs, outs, outs_append a b, List.append_assoc]
theorem dsum2 (H : List Int) (hl : H.length = 8) (hw : W32 H) : ∀ r i, i + r = 8 → Ev (fun k => cleromancyref05_Sum.l2 k H (outs (H.take i)) (i : Int)) (outs H)
  | 0, i, hi => by
    refine Ev.step (f := fun _ => _) (fun k => by rw [cleromancyref05_Sum.l2, if_neg (by omega)]) ?_
    rw [List.take_of_length_le (by omega)]
    exact Ev.now _
  | r + 1, i, hi => by
    have ih := dsum2 H hl hw r (i + 1) (by omega)
    have hx : 0 ≤ rd H (i : Int) ∧ rd H (i : Int) < 4294967296 := by rw [rd_nat H i (by omega)]; exact hw _ (List.getElem_mem _)
    have e1 : IntKind.u64.wrap (rd H (i : Int)) = rd H (i : Int) := by unfold IntKind.wrap; simp [IntKind.bits, IntKind.signed]; omega
    refine Ev.step (fun k => by rw [cleromancyref05_Sum.l2, if_pos (by omega), if_pos (by omega), if_pos (by omega), e1]) ?_
    have hwd : Wd [rd H (i : Int)] := fun y hy => by rw [List.mem_singleton.1 hy]; omega
    refine Ev.bind (words_ev [rd H (i : Int)] hwd (by simp)) ?_
    have hv : vn (dg (wv [rd H (i : Int)])) = (rd H (i : Int)).toNat := by rw [vn_dg]; simp [wv]
    refine Ev.bind (tobig_ev (dg (wv [rd H (i : Int)])) (dg_Dg _) (Nat.le_trans (dg_len_le _ 10 (by simp [wv]; omega)) (by omega)) 4 (by omega)) ?_
    rw [hv, be4 _ hx.1]
    have e2 : outs (H.take i) ++ w4 (rd H (i : Int)) = outs (H.take (i + 1)) := by
      rw [take_rd H i (by omega), outs_append]; simp [outs]
    refine Ev.congr (fun k => by rw [if_pos (by simp [outs_len, w4]; omega), e2, w64 _ (by omega) (by omega), natCast_succ']) ?_
    exact ih
theorem seg_len (M : List Int) (i r : Nat) (h : 64 * (i + (r + 1)) = M.length) : ((M.drop (64 * i)).take 64).length = 64 := by simp; omega
theorem dsum1 (M : List Int) (hb : By M) (hM : M.length ≤ 2000000) : ∀ r i, 64 * (i + r) = M.length → Ev (fun k => cleromancyref05_Sum.l1 k M (run BB i M) ((64 * i : Nat) : Int)) (outs (run BB (M.length / 64) M))
  | 0, i, hi => by
    refine Ev.step (fun k => by rw [cleromancyref05_Sum.l1, if_neg (by omega)]) ?_
    rw [show M.length / 64 = i from by omega]
    exact dsum2 _ (run_len BB rfl _ _) (run_W32 _ _ _ BB_W32) 8 0 rfl
  | r + 1, i, hi => by
    have ih := dsum1 M hb hM r (i + 1) (by omega)
    have e1 : wrap64 (((64 * i : Nat) : Int) + 64) = ((64 * (i + 1) : Nat) : Int) := by rw [w64 _ (by omega) (by omega)]; omega
    have e2 : ((M.take (((64 * (i + 1) : Nat) : Int)).toNat).drop (((64 * i : Nat) : Int)).toNat) = (M.drop (64 * i)).take 64 := by
      rw [Int.toNat_natCast, Int.toNat_natCast, List.drop_take, show 64 * (i + 1) - 64 * i = 64 from by omega]
    have e3 : cleromancyref05_block.f (run BB i M) ((M.drop (64 * i)).take 64) = some (run BB (i + 1) M) := by
      unfold cleromancyref05_block.f blkO
      rw [if_pos ⟨run_len BB rfl _ _, seg_len M i r hi, fun x hx => hb x (List.mem_of_mem_drop (List.mem_of_mem_take hx))⟩, run_next]
    refine Ev.step (fun k => by rw [cleromancyref05_Sum.l1, if_pos (by omega), if_pos (by omega), e1, if_pos (by omega), if_pos (by omega), e2, e3, Option.bind_some]) ?_
    exact ih
theorem By_append {a b : List Int} (ha : By a) (hb : By b) : By (a ++ b) := fun x hx => by
  rcases List.mem_append.1 hx with h | h
  · exact ha x h
  · exact hb x h
theorem tail_By (d : List Int) : By (tailOf d) := by
  unfold tailOf
  refine By_append (By_append ?_ ?_) ?_
  · intro x hx; rw [List.mem_singleton.1 hx]; omega
  · intro x hx; rw [List.eq_of_mem_replicate hx]; omega
  · intro x hx
    rw [b8] at hx
    simp only [List.mem_cons, List.not_mem_nil, or_false] at hx
    have key : ∀ n : Nat, 0 ≤ ((n % 256 : Nat) : Int) ∧ ((n % 256 : Nat) : Int) < 256 := fun n => by omega
    rcases hx with h | h | h | h | h | h | h | h <;> (rw [h]; exact key _)
theorem pad_mod (d : List Int) (i : Nat) (h : i < zs d.length) : ¬ (((d ++ [128] ++ List.replicate i 0).length : Int) % 64 = 56) := by
  rw [List.length_append, List.length_append, List.length_replicate]
  simp only [List.length_cons, List.length_nil]
  unfold zs at h
  omega
theorem pad_end (d : List Int) : (((d ++ [128] ++ List.replicate (zs d.length) 0).length : Int) % 64 = 56) := by
  have := (zs_is d.length).1
  rw [List.length_append, List.length_append, List.length_replicate]
  simp only [List.length_cons, List.length_nil]
  omega
theorem dsum0 (d : List Int) (hb : By d) (hd : d.length ≤ 1500000) : ∀ r i, i + r = zs d.length → Ev (fun k => cleromancyref05_Sum.l0 k d (d ++ [128] ++ List.replicate i 0)) (sha d)
  | 0, i, hi => by
    obtain rfl : i = zs d.length := by omega
    have h8 : wrap64 (8 * (d.length : Int)) = ((8 * d.length : Nat) : Int) := by rw [w64 _ (by omega) (by omega)]; omega
    refine Ev.step (fun k => by rw [cleromancyref05_Sum.l0, if_pos (pad_end d), h8]) ?_
    refine Ev.bind (int_ev (8 * d.length) (by omega)) ?_
    refine Ev.bind (tobig_ev (dg (8 * d.length)) (dg_Dg _) (Nat.le_trans (dg_len_le _ 10 (by omega)) (by omega)) 8 (by omega)) ?_
    rw [vn_dg, be8]
    have e1 : d ++ [128] ++ List.replicate (zs d.length) 0 ++ b8 (8 * d.length) = d ++ tailOf d := by unfold tailOf; simp [List.append_assoc]
    have e2 := tail_len d
    have e3 := (zs_is d.length).2
    have e4 : (d ++ [128] ++ List.replicate (zs d.length) 0).length = d.length + 1 + zs d.length := by simp; omega
    refine Ev.congr (fun k => by rw [if_pos (by rw [e4]; show _ + 8 < _; omega), e1]) ?_
    refine Ev.congr (fun k => by rw [show cleromancyref05_Begin.f = some BB from rfl, Option.bind_some]) ?_
    have := dsum1 (d ++ tailOf d) (By_append hb (tail_By d)) (by rw [List.length_append, e2.2]; omega) ((d ++ tailOf d).length / 64) 0 (by omega)
    exact this
  | r + 1, i, hi => by
    have ih := dsum0 d hb hd r (i + 1) (by omega)
    have e4 : (d ++ [128] ++ List.replicate i 0).length = d.length + 1 + i := by simp; omega
    have e3 := (zs_is d.length).2
    refine Ev.step (fun k => by rw [cleromancyref05_Sum.l0, if_neg (pad_mod d i (by omega)), if_pos (by rw [e4]; omega), List.append_assoc, ← List.replicate_succ']) ?_
    exact ih
theorem dsum_ev (d : List Int) (hb : By d) (hd : d.length ≤ 1500000) : Ev (fun k => cleromancyref05_Sum.f k d) (sha d) := by
  unfold cleromancyref05_Sum.f
  refine Ev.congr (fun k => by rw [List.nil_append, if_pos (by simp; omega), Option.bind_some, if_pos (by omega)]) ?_
  have := dsum0 d hb hd (zs d.length) 0 (by omega)
  rw [List.replicate_zero, List.append_nil] at this
  exact this
end Go.Proofs.YteapdhfeddgjbaaDoor.Dg
end
section
/- the document's frames: Frame, First, Ends, plain and as calls; Same; Fits. -/
namespace Go.Proofs.YteapdhfeddgjbaaDoor.Dg
set_option linter.unusedVariables false
set_option linter.unusedSimpArgs false
open Go.RowKit Go.Proofs.YteapdhfeddgjbaaDoor.PDj Go.Proofs.YteapdhfeddgjbaaDoor.Num Go.Proofs.YteapdhfeddgjbaaDoorW Go.Proofs.YteapdhfeddgjbaaDoorW.PrintWords Go.Proofs.YteapdhfeddgjbaaDoorW.PrintLast Go.Proofs.YteapdhfeddgjbaaDoorW.PrintMore

theorem w4_ev (n : Nat) (hn : n ≤ 900000) : Ev (fun k => (cleromancyref01_Int.f k (n : Int)).bind fun t => cleromancyref01_ToBig.f k t 4) (w4 (n : Int)) := by
  refine Ev.bind (int_ev n (by omega)) ?_
  have h := tobig_ev (dg n) (dg_Dg _) (Nat.le_trans (dg_len_le _ 10 (by omega)) (by omega)) 4 (by omega)
  rw [vn_dg] at h
  have e := be4 (n : Int) (by omega)
  rw [Int.toNat_natCast] at e
  rw [e] at h
  exact h
theorem dframe_ev (l : List Int) (hb : Bt l) (hl : l.length ≤ 900000) : Ev (fun k => cleromancyref31_Frame.f k l) (frm l) := by
  have h4 : (w4 (l.length : Int)).length = 4 := rfl
  unfold cleromancyref31_Frame.f
  refine Ev.congr (fun k => by rw [← Option.bind_assoc]) ?_
  refine Ev.bind (w4_ev l.length hl) ?_
  refine Ev.congr (fun k => by rw [List.nil_append, List.length_nil, h4, if_pos (by omega), Option.bind_some, h4, if_pos (by omega)]) ?_
  refine Ev.bind (dsum_ev (w4 (l.length : Int) ++ l) ((w4_Bt _).append hb) (by rw [List.length_append, h4]; omega)) ?_
  have hs := sha_len (w4 (l.length : Int) ++ l)
  have h8 : ((sha (w4 (l.length : Int) ++ l)).take 8).length = 8 := by rw [List.length_take, hs]; rfl
  refine Ev.congr (fun k => by rw [Option.bind_some, hs, if_pos (by omega), Option.bind_some, h4, h8, if_pos (by omega), Option.bind_some, List.length_append, h4, h8, if_pos (by omega)]) ?_
  have e : w4 (l.length : Int) ++ (sha (w4 (l.length : Int) ++ l)).take 8 ++ l = frm l := by unfold frm chk; rw [List.append_assoc]
  rw [e]
  exact Ev.now _
theorem split_hd (l : List Int) (n : Nat) (h : 12 + n ≤ l.length) : l.take (12 + n) = l.take 4 ++ ((l.drop 4).take 8 ++ (l.drop 12).take n) := by
  have e1 : 12 + n = 4 + (8 + n) := by omega
  rw [e1, List.take_add, List.take_add, List.drop_drop]
end Go.Proofs.YteapdhfeddgjbaaDoor.Dg
end
section
/- the document's Frame, First, Ends, Same as calls; Fits; awake. -/
namespace Go.Proofs.YteapdhfeddgjbaaDoor.Dg
set_option linter.unusedVariables false
set_option linter.unusedSimpArgs false
open Go.RowKit Go.Proofs.YteapdhfeddgjbaaDoor.PDj Go.Proofs.YteapdhfeddgjbaaDoor.Num Go.Proofs.YteapdhfeddgjbaaDoorW Go.Proofs.YteapdhfeddgjbaaDoorW.PrintWords Go.Proofs.YteapdhfeddgjbaaDoorW.PrintLast Go.Proofs.YteapdhfeddgjbaaDoorW.PrintMore

def Tells (v : Value) (w : World) (e : Ending) (w' : World) : Prop := e = .returned v ∧ Below w.heap.size w w'
theorem dframe_calls (A : Option Addr) (n c : Nat) (l : List Int) (hn : l.length = n) (hb : Bt l) (hl : n ≤ 900000) (hc : n ≤ c) (w : World) (hC : Kd.C (Kd.int .u8) w A l.length l) :
    Calls Tryd.prog 18 #[.slice A n c] w (Own w (frm l)) := by
  subst hn
  obtain ⟨k, hk⟩ := Ev.rounds (dframe_ev l hb hl)
  exact cleromancyref31_Frame.calls k A c l _ w hC hc hk
theorem same_calls (A0 : Option Addr) (n0 c0 : Nat) (l0 : List Int) (A1 : Option Addr) (n1 c1 : Nat) (l1 : List Int) (e0 : l0.length = n0) (e1 : l1.length = n1) (hl : n0 ≤ 1000000) (hc0 : n0 ≤ c0) (hc1 : n1 ≤ c1) (w : World) (hC0 : Kd.C (Kd.int .u8) w A0 l0.length l0) (hC1 : Kd.C (Kd.int .u8) w A1 l1.length l1) :
    Calls Tryd.prog 14 #[.slice A0 n0 c0, .slice A1 n1 c1] w (Tells (.bool (decide (l0 = l1))) w) := by
  subst e0 e1
  obtain ⟨k, hk⟩ := Ev.rounds (same_ev l0 l1 hl)
  refine (cleromancyref01_Same.calls k A0 c0 l0 A1 c1 l1 _ w hC0 hc0 hC1 hc1 hk).mono ?_
  rintro e w' ⟨h1, h2⟩
  exact ⟨h1, h2.below⟩
theorem C_drop {W : World} {A : Option Addr} {l : List Int} (h : Kd.C (Kd.int .u8) W A l.length l) (a c : Nat) (ha : a ≤ l.length) (hc : l.length ≤ c) : Kd.C (Kd.int .u8) W (if c = a then A else A.map (·.add a)) (l.drop a).length (l.drop a) := by
  have h2 := ReadsOf.drop_ (Kd.reads_of_C (h1 := fun _ => rfl) (d := (0 : Int)) h) a ha hc
  have e : l.length - a = (l.drop a).length := by rw [List.length_drop]
  rw [e] at h2
  exact Kd.C_of_reads (h1 := fun _ => rfl) h2
theorem info3 : (Tryd.prog.info? 3).map (fun i => (i.zero, i.size, i.bytes)) = some (some (.int .i64 0), 1, 8) := by kernel_rfl
theorem info5p : ∃ i, Tryd.prog.info? 5 = some i ∧ i.size = 1 := by
  obtain ⟨i0, hi, hzz⟩ := Option.map_eq_some_iff.1 info5
  simp only [Prod.mk.injEq] at hzz
  exact ⟨i0, hi, hzz.2.1⟩
theorem cut_mid {b : List Int} {N c : Nat} {A : Option Addr} (hN : b.length = N) (hc : N ≤ c) (a e : Nat) (ha : a ≤ e) (he : e ≤ N) :
    ∃ A', (∀ W : World, (Instr.slice 24 (.slice A N c) (some (.int .i64 (a : Int))) (some (.int .i64 (e : Int))) none).run Tryd.prog W = .ok (.slice A' (e - a) (c - a)) W) ∧ (∀ w : World, Kd.C (Kd.int .u8) w A b.length b → Kd.C (Kd.int .u8) w A' ((b.take e).drop a).length ((b.take e).drop a)) := by
  subst hN
  obtain ⟨i0, hi, hs⟩ := info5p
  obtain ⟨A', h1, h2, h3⟩ := print_mid_of (P := Tryd.prog) (Value.int .u8) (0 : Int) 24 5 .i64 .i64 Tryd.underlying24 hi hs A c b (a : Int) (e : Int) (by omega) (by omega) (by omega) hc
  rw [Int.toNat_natCast, Int.toNat_natCast] at h1 h2
  have hl : ((b.take e).drop a).length = e - a := by rw [List.length_drop, List.length_take]; omega
  rw [hl] at h1
  exact ⟨A', h1, fun w h => Kd.C_of_reads (h1 := fun _ => rfl) (h2 w (Kd.reads_of_C (h1 := fun _ => rfl) h))⟩
end Go.Proofs.YteapdhfeddgjbaaDoor.Dg
end
section
/- journal: records that are framed, plain; Fits; awake. -/
namespace Go.Proofs.YteapdhfeddgjbaaDoor.Dg
set_option linter.unusedVariables false
set_option linter.unusedSimpArgs false
open Go.RowKit Go.Proofs.YteapdhfeddgjbaaDoor.PDj Go.Proofs.YteapdhfeddgjbaaDoor.Num Go.Proofs.YteapdhfeddgjbaaDoorW Go.Proofs.YteapdhfeddgjbaaDoorW.PrintWords Go.Proofs.YteapdhfeddgjbaaDoorW.PrintLast Go.Proofs.YteapdhfeddgjbaaDoorW.PrintMore

theorem frm_Bt {r : List Int} (h : Bt r) : Bt (frm r) := (w4_Bt _).append (((sha_Bt _).take 8).append h)
theorem hdN_w4 (n : Nat) (hn : n ≤ 900000) (x : List Int) : hdN (w4 (n : Int) ++ x) = n := by
  unfold hdN w4 rd
  simp
  omega
theorem nxt_frm_app (r x : List Int) (hr : r.length ≤ 900000) : nxt (frm r ++ x) = some r.length := by
  have h4 : (w4 (r.length : Int)).length = 4 := rfl
  have hl : (frm r ++ x).length = 12 + r.length + x.length := by rw [List.length_append, frm_len]
  have hh : hdN (frm r ++ x) = r.length := by unfold frm; rw [List.append_assoc]; exact hdN_w4 _ hr _
  have e1 : (frm r ++ x).take 4 = w4 (r.length : Int) := by
    unfold frm
    rw [List.append_assoc, List.take_append_of_le_length (by rw [h4]; exact Nat.le_refl _), List.take_of_length_le (by rw [h4]; exact Nat.le_refl _)]
  have e2 : (frm r ++ x).drop 4 = chk (w4 (r.length : Int)) r ++ (r ++ x) := by
    unfold frm
    rw [List.append_assoc, List.drop_append_of_le_length (by rw [h4]; exact Nat.le_refl _), List.drop_of_length_le (by rw [h4]; exact Nat.le_refl _), List.nil_append, List.append_assoc]
  have e3 : ((frm r ++ x).drop 4).take 8 = chk (w4 (r.length : Int)) r := by
    rw [e2, List.take_append_of_le_length (by rw [chk_len]; exact Nat.le_refl _), List.take_of_length_le (by rw [chk_len]; exact Nat.le_refl _)]
  have e4 : (frm r ++ x).drop 12 = r ++ x := by
    rw [show 12 = 4 + 8 from rfl, ← List.drop_drop, e2, List.drop_append_of_le_length (by rw [chk_len]; exact Nat.le_refl _), List.drop_of_length_le (by rw [chk_len]; exact Nat.le_refl _), List.nil_append]
  have e5 : ((frm r ++ x).drop 12).take r.length = r := by rw [e4, List.take_append_of_le_length (Nat.le_refl _), List.take_of_length_le (Nat.le_refl _)]
  unfold nxt
  rw [hh, e3, e1, e5, if_pos ⟨by omega, by omega, by omega, rfl⟩]
/-- Records framed, one behind the other. -/
def cat : List (List Int) → List Int
  | [] => []
  | r :: rs => frm r ++ cat rs
def endsFrom : Nat → List (List Int) → List (Nat × List Int)
  | _, [] => []
  | a, r :: rs => (a + (12 + r.length), r) :: endsFrom (a + (12 + r.length)) rs
theorem fra_cat (b t : List Int) (ht : nxt t = none) : ∀ rs a k, (∀ r ∈ rs, r.length ≤ 900000) → b.drop a = cat rs ++ t → rs.length ≤ k → fra b k a = endsFrom a rs
  | [], a, k, _, hb, _ => by rw [fra_none (by rw [hb]; exact ht)]; rfl
  | r :: rs, a, 0, _, _, hk => by simp at hk
  | r :: rs, a, k + 1, hr, hb, hk => by
    have h1 := hr r List.mem_cons_self
    rw [cat, List.append_assoc] at hb
    have e := nxt_frm_app r (cat rs ++ t) h1
    have hn : nxt (b.drop a) = some r.length := by rw [hb]; exact e
    have hd : (b.drop a).drop (12 + r.length) = cat rs ++ t := by
      rw [hb, List.drop_append_of_le_length (by rw [frm_len]; exact Nat.le_refl _), List.drop_of_length_le (by rw [frm_len]; exact Nat.le_refl _), List.nil_append]
    have hx : ((b.drop a).drop 12).take r.length = r := by
      rw [hb]
      have h2 := split_hd (frm r ++ (cat rs ++ t)) r.length (by rw [List.length_append, frm_len]; omega)
      rw [List.take_append_of_le_length (by rw [frm_len]; exact Nat.le_refl _), List.take_of_length_le (by rw [frm_len]; exact Nat.le_refl _)] at h2
      have h3 : (frm r).drop 12 = r := by
        unfold frm
        rw [← List.append_assoc, List.drop_append_of_le_length (by rw [List.length_append, chk_len]; exact Nat.le_refl _), List.drop_of_length_le (by rw [List.length_append, chk_len]; exact Nat.le_refl _), List.nil_append]
      rw [List.drop_append_of_le_length (by rw [frm_len]; omega), h3, List.take_append_of_le_length (Nat.le_refl _), List.take_of_length_le (Nat.le_refl _)]
    rw [fra_some hn, endsFrom, hx, fra_cat b t ht rs (a + (12 + r.length)) k (fun x hx => hr x (List.mem_cons_of_mem _ hx)) (by rw [← List.drop_drop]; exact hd) (by simp at hk; omega)]
theorem cat_len : ∀ rs, (cat rs).length = 12 * rs.length + (rs.map List.length).sum
  | [] => rfl
  | r :: rs => by rw [cat, List.length_append, frm_len, cat_len rs]; simp; omega
theorem nxt_nil : nxt [] = none := by unfold nxt; rw [if_neg (fun h => by simp at h)]
theorem frames_cat (rs : List (List Int)) (t : List Int) (ht : nxt t = none) (hr : ∀ r ∈ rs, r.length ≤ 900000) : frames (cat rs ++ t) = endsFrom 0 rs :=
  fra_cat (cat rs ++ t) t ht rs 0 _ hr rfl (by rw [List.length_append, cat_len]; omega)
end Go.Proofs.YteapdhfeddgjbaaDoor.Dg
end
section
/- Statement JournalScans: the walk of the law. -/
namespace Go.Proofs.YteapdhfeddgjbaaDoor.Dg
set_option linter.unusedVariables false
set_option linter.unusedSimpArgs false
open Go.RowKit Go.Proofs.YteapdhfeddgjbaaDoor.PDj Go.Proofs.YteapdhfeddgjbaaDoor.Num Go.Proofs.YteapdhfeddgjbaaDoorW Go.Proofs.YteapdhfeddgjbaaDoorW.PrintWords Go.Proofs.YteapdhfeddgjbaaDoorW.PrintLast Go.Proofs.YteapdhfeddgjbaaDoorW.PrintMore

theorem at_row {w : World} {A : Option Addr} {n : Nat} {xs : List (List Int)} (h : (Kd.slice 5 (Kd.int .u8)).C w A n xs) (i : Nat) (hi : i < n) :
    ∃ ad A' c', A = some ad ∧ w.cell? (ad.add i) = some (.slice A' (xs.getD i []).length c') ∧ (xs.getD i []).length ≤ c' ∧ Kd.C (Kd.int .u8) w A' (xs.getD i []).length (xs.getD i []) := by
  obtain ⟨ad, c, e, hl, ⟨A', c', rfl, h1, h2⟩, hc⟩ := Kd.C_get h [] (i : Int) (by omega) (by omega)
  refine ⟨ad, A', c', e, ?_, ?_, ?_⟩
  · have := hc 0 _ rfl
    simpa [Kd.slice] using this
  · simpa using h1
  · simpa using h2
theorem meas_nat {i M : Nat} (h : i < M) : M - (intOf (.int .i64 ((i : Int) + 1))).toNat < M - (intOf (.int .i64 (i : Int))).toNat := by simp [intOf]; omega
end Go.Proofs.YteapdhfeddgjbaaDoor.Dg
end
section
/- What is laid, as a table; JournalScans over what comes in. -/
namespace Go.Proofs.YteapdhfeddgjbaaDoor.Dg
set_option linter.unusedVariables false
open Go.RowKit Go.Proofs.YteapdhfeddgjbaaDoor.PDj Go.Proofs.YteapdhfeddgjbaaDoor.Num Go.Proofs.YteapdhfeddgjbaaDoorW Go.Proofs.YteapdhfeddgjbaaDoorW.PrintWords Go.Proofs.YteapdhfeddgjbaaDoor.Opn

theorem tab_of_laid {W : World} (h : laidMetH Tryd.prog [("cleromancy/digest.constants", Rows.laid_cleromancy_digest_constants)] W) : Tab W 2 KK := fun r hr => by
  rw [MakeChecks.laidMetH_plain _ _ _ (by kernel_rfl)] at h
  obtain ⟨ps, ⟨g, t, cs, fuel, p, q, hg, ht, hv, hd, _, _⟩, _, _⟩ := h
  obtain rfl := Option.some.inj ((show Tryd.prog.globalNamed "cleromancy/digest.constants" = some 2 by kernel_rfl).symm.trans hg)
  obtain rfl := Option.some.inj ((show (Tryd.prog.globals[2]?).map (·.type) = some 173 by kernel_rfl).symm.trans ht)
  obtain ⟨xs, m, _, ex, _, hl, hel⟩ := DataW.trod_array Tryd.underlying173 hd
  have c5 : Tryd.prog.cellsOf 144 = 1 := by kernel_rfl
  have hE := hel r (by rw [KK_len] at hr; exact hr)
  have hr64 : r < 64 := by rw [KK_len] at hr; exact hr
  rw [c5, Nat.mul_one, List.getElem?_eq_getElem (by omega)] at hE
  obtain ⟨z, e1, e2, _⟩ := DataW.trod_int Tryd.underlying144 hE
  have e3 : (xs.map (·.1)) = KK.map fun n => (DataW.lit (.int .u32 n) : DataW Unit) := by
    have e4 := (DataW.agg.inj (Prod.mk.inj ex).1).symm
    rw [e4]
    unfold KK PDb.cleromancyref05_Constants.f
    rfl
  have hlen := KK_len
  have e4 : (xs.map (·.1))[r]? = (KK.map fun n => (DataW.lit (.int .u32 n) : DataW Unit))[r]? := by rw [e3]
  rw [List.getElem?_map, List.getElem?_map, List.getElem?_eq_getElem (by omega : r < xs.length), List.getElem?_eq_getElem hr, e2] at e4
  have hz : z = rd KK (r : Int) := by
    simp only [Option.map_some, Option.some.injEq, DataW.lit.injEq, Lit.int.injEq, true_and] at e4
    rw [e4]; unfold rd; rw [Int.toNat_natCast, List.getD_eq_getElem?_getD, List.getElem?_eq_getElem hr]; rfl
  rw [World.var?_cell hg hv r, ← hz]
  have : cs.toList[r]? = some (.int .u32 z) := by
    have h0 : ((cs.toList.drop r).take 1)[0]? = some (.int .u32 z) := by rw [e1]; rfl
    simpa using h0
  simpa using this
theorem wf_u8 {n : Int} (h : (Lit.int .u8 n).wf = true) : 0 ≤ n ∧ n < 256 := by
  have : 0 ≤ n ∧ n ≤ 255 := by simpa [Lit.wf, IntKind.min, IntKind.max, IntKind.signed, IntKind.bits] using h
  omega
theorem wf_i64 {n : Int} (h : (Lit.int .i64 n).wf = true) : -9223372036854775808 ≤ n ∧ n ≤ 9223372036854775807 := by
  simpa [Lit.wf, IntKind.min, IntKind.max, IntKind.signed, IntKind.bits] using h
theorem open_bytes {H : Type} {enc : TypeId × Value → H} {W : World} {fuel : Nat} {a : Option Addr} {len cap : Nat} {x : DataW H × List MemPlace} (h : DataW.trod enc Tryd.prog W 0 (fun _ => true) true fuel 24 [.slice a len cap] = some x) :
    ∃ l : List Int, l.length = len ∧ len ≤ cap ∧ len ≤ maxLen ∧ Kd.C (Kd.int .u8) W a l.length l ∧ Bt l := by
  obtain ⟨l, h1, h2, h3, h4, h5⟩ := opens_row 5 Tryd.underlying24 (by kernel_rfl) (opens_int Tryd.underlying5) h
  exact ⟨l, h1, h2, h3, h4, fun x hx => wf_u8 (h5 x hx)⟩
end Go.Proofs.YteapdhfeddgjbaaDoor.Dg
end
section
/- Statement JournalBack: the plain law; the comparing closure. -/
namespace Go.Proofs.YteapdhfeddgjbaaDoor.Dg
set_option linter.unusedVariables false
set_option linter.unusedSimpArgs false
open Go.RowKit Go.Proofs.YteapdhfeddgjbaaDoor.PDj Go.Proofs.YteapdhfeddgjbaaDoor.Num Go.Proofs.YteapdhfeddgjbaaDoorW Go.Proofs.YteapdhfeddgjbaaDoorW.PrintWords Go.Proofs.YteapdhfeddgjbaaDoorW.PrintLast Go.Proofs.YteapdhfeddgjbaaDoorW.PrintMore

theorem endsFrom_snd : ∀ a rs, (endsFrom a rs).map (·.2) = rs
  | _, [] => rfl
  | a, r :: rs => by rw [endsFrom, List.map_cons, endsFrom_snd]
theorem endsFrom_snoc : ∀ a rs r, endsFrom a (rs ++ [r]) = endsFrom a rs ++ [(a + (cat rs).length + (12 + r.length), r)]
  | a, [], r => by simp [endsFrom, cat]
  | a, x :: rs, r => by
    rw [List.cons_append, endsFrom, endsFrom_snoc (a + (12 + x.length)) rs r, endsFrom, List.cons_append, cat, List.length_append, frm_len]
    congr 3
    congr 1
    omega
theorem cat_snoc : ∀ rs r, cat (rs ++ [r]) = cat rs ++ frm r
  | [], r => by simp [cat]
  | x :: rs, r => by rw [List.cons_append, cat, cat_snoc rs r, cat, List.append_assoc]
theorem ends2_from : ∀ rs, (ends2 ((endsFrom 0 rs).map (·.1))).2 = (cat rs).length := fun rs => by
  rcases List.eq_nil_or_concat rs with rfl | ⟨xs, r, e⟩
  · rfl
  · rw [List.concat_eq_append] at e
    subst e
    rw [endsFrom_snoc, List.map_append, List.map_cons, List.map_nil, ends2_next, cat_snoc, List.length_append, frm_len]
    omega
theorem all_frames (rs : List (List Int)) (hr : ∀ r ∈ rs, r.length ≤ 900000) : frames (cat rs) = endsFrom 0 rs := by
  have h := frames_cat rs [] nxt_nil hr
  rwa [List.append_nil] at h
theorem all_recs (rs : List (List Int)) (hr : ∀ r ∈ rs, r.length ≤ 900000) : recsOf (cat rs) = rs ∧ (ends2 (endsOf (cat rs))).2 = (cat rs).length := by
  unfold recsOf endsOf
  rw [all_frames rs hr]
  exact ⟨endsFrom_snd 0 rs, ends2_from rs⟩
theorem cat_Bt : ∀ rs : List (List Int), (∀ r ∈ rs, Bt r) → Bt (cat rs)
  | [], _ => fun x hx => by cases hx
  | r :: rs, h => by rw [cat]; exact (frm_Bt (h r List.mem_cons_self)).append (cat_Bt rs (fun x hx => h x (List.mem_cons_of_mem _ hx)))
theorem cat_le (rs : List (List Int)) (M : Nat) (h : ∀ r ∈ rs, r.length ≤ M) : (cat rs).length ≤ rs.length * (12 + M) := by
  induction rs with
  | nil => simp [cat]
  | cons r rs ih =>
    rw [cat, List.length_append, frm_len, List.length_cons, Nat.succ_mul]
    have h1 := ih (fun x hx => h x (List.mem_cons_of_mem _ hx))
    have h2 := h r List.mem_cons_self
    omega
end Go.Proofs.YteapdhfeddgjbaaDoor.Dg
end
