/- wire: what is written is read: the walk. -/
import Derived.Test.YtlngkcaaenpnaaaWireG
import Derived.Deep.CutRange
import Derived.Deep.RegionHeld3
import Derived.Deep.DeepCutAuto
namespace Go.Proofs.Ytlngkcaaenpnaaa.Wire
set_option linter.unusedVariables false
set_option linter.unusedSimpArgs false
open Go.RowKit Go.Proofs.Ytlngkcaaenpnaaa.Num Go.Proofs.Ytlngkcaaenpnaaa.PWi Go.Proofs.YtlngkcaaenpnaaaW Go.Proofs.YtlngkcaaenpnaaaW.PrintWords Go.Proofs.YtlngkcaaenpnaaaW.PrintLast Go.Proofs.YtlngkcaaenpnaaaW.PrintMore

theorem rd_get (l0 : List S69) (i : Nat) (h : i < l0.length) : rd_T69 l0 (i : Int) = l0[i] := by
  simp only [rd_T69, Int.toNat_natCast, List.getD_eq_getElem?_getD, List.getElem?_eq_getElem h, Option.getD_some]
theorem good_next {l0 : List S69} {i : Nat} (h : i < l0.length) (hg : ∀ x ∈ l0.take i, Good x) {f : S69} (hf : f = l0[i]) (hf2 : Good f) : ∀ x ∈ l0.take (i + 1), Good x := by
  intro x hx
  rw [List.take_add_one, List.getElem?_eq_getElem h, Option.toList_some, List.mem_append, List.mem_singleton] at hx
  rcases hx with hx | hx
  · exact hg x hx
  · rw [hx, ← hf]; exact hf2
/-- What is read when so many bytes are cut off. -/
structure Own (l0 : List S69) (cut : Nat) (L : List Int) : Prop where
  by_ : By L
  len : L.length ≤ (flds l0).length + 1
  c0 : cut = 0 → L = flds l0
  c1 : cut = 1 → (flds l0).length = 0 → L = flds l0
  c1' : cut = 1 → 1 ≤ (flds l0).length → L.length = (flds l0).length - 1
  c2 : cut = 2 → L = flds l0 ++ [7]
theorem By.take' {L : List Int} (h : By L) (n : Nat) : By (L.take n) := fun x hx => h x (List.mem_of_mem_take hx)
theorem C_take {k : IntKind} {W : World} {ad : Addr} {l : List Int} (h : Kd.C (Kd.int k) W (some ad) l.length l) (m : Nat) (hm : m ≤ l.length) : Kd.C (Kd.int k) W (some ad) (l.take m).length (l.take m) := by
  have h0 := C_sub h 0 m (by omega)
  simpa [Addr.add] using h0
theorem fld_By (x : S69) (h : By x.f2) : By (fld x) := by
  have hb : ∀ (m : Nat) (n : Int), By (bes m n) := by
    intro m n
    induction m with
    | zero => intro y hy; simp [bes] at hy
    | succ m ih =>
      intro y hy
      rw [bes] at hy
      rcases List.mem_cons.1 hy with hy | hy
      · omega
      · exact ih y hy
  unfold fld
  split
  · exact hb _ _
  · split
    · exact hb _ _
    · split
      · intro y hy; rcases List.mem_append.1 hy with hy | hy
        · exact hb _ _ y hy
        · exact h y hy
      · split
        · exact hb _ _
        · intro y hy; simp at hy
theorem flds_By (l : List S69) (h : ∀ x ∈ l, By x.f2) : By (flds l) := by
  induction l with
  | nil => intro y hy; simp [flds] at hy
  | cons x l ih =>
    intro y hy
    rw [flds_cons] at hy
    rcases List.mem_append.1 hy with hy | hy
    · exact fld_By x (h x List.mem_cons_self) y hy
    · exact ih (fun z hz => h z (List.mem_cons_of_mem _ hz)) y hy
theorem own_cut (l0 : List S69) (N : Nat) (hb : By (flds l0)) (hN : (flds l0).length = N) (cut m : Nat) (hm : (cut = 0 ∧ m = N) ∨ (cut = 1 ∧ N = 0 ∧ m = 0) ∨ (cut = 1 ∧ m + 1 = N)) : Own l0 cut ((flds l0 ++ [7]).take m) := by
  have hmN : m ≤ (flds l0).length := by omega
  rw [List.take_append_of_le_length hmN]
  have hl : ((flds l0).take m).length = m := by rw [List.length_take]; omega
  refine ⟨By.take' hb m, by omega, fun h => ?_, fun h h2 => ?_, fun h h2 => by omega, fun h => by omega⟩
  · rw [show m = (flds l0).length from by omega, List.take_length]
  · rw [List.eq_nil_of_length_eq_zero h2, List.take_nil]
theorem own_two (l0 : List S69) (hb : By (flds l0)) : Own l0 2 (flds l0 ++ [7]) := by
  refine ⟨fun x hx => ?_, by simp, fun h => by omega, fun h => by omega, fun h => by omega, fun _ => rfl⟩
  rcases List.mem_append.1 hx with hx | hx
  · exact hb x hx
  · rw [List.mem_singleton.1 hx]; omega
theorem len_cut (l0 : List S69) (N : Nat) (hN : (flds l0).length = N) (m : Nat) (hm : m ≤ N) : ((flds l0 ++ [7]).take m).length = m := by rw [List.length_take, List.length_append]; simp; omega
theorem bstep_len (least most : Int) (L : List Int) (at_ : Nat) (bad : Int) : (bstep least most L at_ bad).1.length ≤ L.length := by
  unfold bstep
  split
  · exact Nat.zero_le _
  · split
    · exact Nat.zero_le _
    · show ((L.drop _).take _).length ≤ L.length
      rw [List.length_take, List.length_drop]
      omega
theorem u8_wrap (x : Int) : IntKind.u8.wrap x = x % 256 := by go_num
theorem far_cell {W w7 : World} {g b i : Nat} {v : Value} (hc : W.cell? ⟨b, i, none⟩ = some v) (hk : Kept W w7 (fun k => k = g)) (hne : g < b) : w7.cell? ⟨b, i, none⟩ = some v :=
  cell_kept hc hk (fun h => Nat.lt_irrefl _ (show g < g from Nat.lt_of_lt_of_eq hne h))
set_option maxHeartbeats 40000000 in
set_option maxRecDepth 100000 in
theorem back_calls (A0 : Option Addr) (c0 : Nat) (l0 : List S69) (w : World) (hr0 : Kd.C k69 w A0 l0.length l0) (hc0 : l0.length ≤ c0) (hm : l0.length ≤ maxLen) (hok : ∀ x ∈ l0, Ok69 x) :
    Calls Try.prog 8 #[.slice A0 l0.length c0] w fun e w' => e = .returned (.bool true) ∧ Below w.heap.size w w' := by
  obtain ⟨k, hk⟩ := (small_ev l0 hm).rounds
  have HK := Aside0.mk hk
  have HR := Aside0.mk hr0
  have HC0 := Aside0.mk hc0
  have HOK := Aside0.mk hok
  clear hk hr0 hc0 hm hok
  by_cases hs : (∀ x ∈ l0, x.f2.length ≤ 500) ∧ l0.length ≤ 50
  · rw [decide_eq_true hs] at HK
    have HS := Aside0.mk hs
    have hl50 := hs.2
    clear hs
    go_enter Try.func8, Try.ntmps8
    go_wp2_with (first
      | (go_at_call 32; (with_reducible refine (awake_calls _).mono ?_); rintro e w1 ⟨rfl, hb⟩; have HB1 := Aside0.mk hb; clear hb)
      | (go_at_call 33; (with_reducible refine (cleromancylaw22_small.calls k A0 c0 l0 true _ (Kd.C_below HR.out HB1.out) HC0.out HK.out).mono ?_); rintro e w2 ⟨rfl, hb⟩; have HB2 := Aside0.mk (below_then HB1.out HB1.out.size hb); clear hb)
      | fail)
    go_loopw [22] (fun v22 wr => ∃ i : Nat, v22 = .int .i64 i ∧ i ≤ l0.length ∧ Aside0 (∀ x ∈ l0.take i, Good x) ∧ Aside0 (Below w.heap.size w wr))
      (fun v22 _ => l0.length - (intOf v22).toNat)
    case atStart => exact ⟨0, rfl, Nat.zero_le _, ⟨fun x hx => by simp at hx⟩, HB2⟩
    case round =>
      obtain ⟨i, rfl, hi, HG, HB⟩ := hrel
      by_cases hlt : i < l0.length
      · obtain ⟨ad, A2, c2, e, q0, q1, q2, q3, q4, q5, q6⟩ := at_T69 HR.out (i : Int) (by omega) (by omega)
        subst e
        rw [Int.toNat_natCast] at q0 q1 q2 q3 q4
        replace q0 := pw_cell_below HB.out q0
        replace q1 := pw_cell_below HB.out q1
        replace q2 := pw_cell_below HB.out q2
        replace q3 := pw_cell_below HB.out q3
        replace q4 := pw_cell_below HB.out q4
        have HF := Aside0.mk (rd_get l0 i hlt)
        have hmem : rd_T69 l0 (i : Int) ∈ l0 := by rw [HF.out]; exact List.getElem_mem hlt
        have b1 := (HOK.out _ hmem).2.1.2
        have b2 := HS.out.1 _ hmem
        clear q6 hmem
        generalize rd_T69 l0 (i : Int) = f at *
        by_cases d1 : f.f0 < 1
        · have e1 : decide (f.f0 < 1) = true := decide_eq_true d1
          clear d1
          go_wp2
          go_ret
          exact ⟨rfl, below_alloc HB.out _⟩
        · have e1 : decide (f.f0 < 1) = false := decide_eq_false d1
          by_cases d2 : 4 < f.f0
          · have e2 : decide (4 < f.f0) = true := decide_eq_true d2
            clear d1 d2
            go_wp2
            go_ret
            exact ⟨rfl, below_alloc HB.out _⟩
          · have e2 : decide (4 < f.f0) = false := decide_eq_false d2
            by_cases d3 : f.f1 < 0
            · have e3 : decide (f.f1 < 0) = true := decide_eq_true d3
              clear d1 d2 d3
              go_wp2
              go_ret
              exact ⟨rfl, below_alloc HB.out _⟩
            · have e3 : decide (f.f1 < 0) = false := decide_eq_false d3
              by_cases d4 : f.f0 = 4
              · by_cases d5 : 4294967295 < f.f1
                · have e5 : decide (4294967295 < f.f1) = true := decide_eq_true d5
                  clear d1 d2 d3 d5
                  go_wp2
                  go_ret
                  exact ⟨rfl, below_alloc HB.out _⟩
                · have e5 : decide (4294967295 < f.f1) = false := decide_eq_false d5
                  have HGf : Aside0 (Good f) := ⟨by omega, by omega, by omega, b1, fun _ => by omega, b2⟩
                  clear d1 d2 d3 d5
                  go_wp2
                  go_roundw
                  case rel => exact ⟨i + 1, by go_num, by omega, ⟨good_next hlt HG.out HF.out HGf.out⟩, ⟨below_alloc HB.out _⟩⟩
                  case measure => simp [intOf]; omega
              · have HGf : Aside0 (Good f) := ⟨by omega, by omega, by omega, b1, fun h => absurd h d4, b2⟩
                clear d1 d2 d3
                go_wp2
                go_roundw
                case rel => exact ⟨i + 1, by go_num, by omega, ⟨good_next hlt HG.out HF.out HGf.out⟩, ⟨below_alloc HB.out _⟩⟩
                case measure => simp [intOf]; omega
      · have hie : i = l0.length := by omega
        subst hie
        have HGA := Aside0.mk HG.out
        rw [List.take_length] at HGA
        have HWF : Aside0 (∀ x ∈ l0, -9223372036854775808 ≤ x.f1 ∧ x.f1 ≤ 9223372036854775807) := ⟨fun x hx => (HOK.out x hx).2.1⟩
        clear HG hi hlt
        go_wp2_with (first
          | (go_at_call 34; (with_reducible refine (written_calls A0 c0 l0 _ (Kd.C_below HR.out HB.out) HS.out.2 HS.out.1 HWF.out).mono ?_); rintro e w3 ⟨A, c, B, d, rfl, h1, h2, h3, h4, hb⟩; have H1 := Aside0.mk h1; have H3 := Aside0.mk h3; have HB3 := Aside0.mk (below_then HB.out HB.out.size hb); clear h1 h2 h3 h4 hb)
          | fail)
        have HFB := Aside0.mk (flds_By l0 (fun x hx => (HOK.out x hx).2.2.1))
        have hN1 := flds_len l0 HS.out.1
        obtain ⟨N, hN⟩ : ∃ N, (flds l0).length = N := ⟨_, rfl⟩
        have hNb : N ≤ 25400 := by omega
        have HN := Aside0.mk hN
        rw [hN] at H1 H3 ⊢
        clear hN hN1
        go_loopw [55] (fun v55 wr => ∃ cut : Nat, v55 = .int .i64 cut ∧ cut ≤ 3 ∧ Aside0 (Below w3.heap.size w3 wr)) (fun v55 _ => 3 - (intOf v55).toNat)
        case atStart => exact ⟨0, rfl, by omega, ⟨Below.refl _ _⟩⟩
        case round =>
          obtain ⟨cut, rfl, hcut, HBL⟩ := hrel
          by_cases hlt : cut < 3
          · have HCr := Aside0.mk (Kd.C_below H3.out HBL.out)
            have HRI0 : Aside0 (ReadsInt (wr.alloc (.cells #[] 5)) .u8 A N (flds l0)) := ⟨by have h := C_readsB (xs := flds l0) (by rw [HN.out]; exact Kd.C_alloc HCr.out (.cells #[] 5)); rw [HN.out] at h; exact h⟩
            have HOL0 : Aside0 ((wr.alloc (.cells #[] 5)).ownsRow wr.heap.size 5 1 (.slice (some ⟨wr.heap.size, 0, none⟩) 0 0) ([] : List Int).length (nums .u8 [])) := ⟨own_lit wr wr.heap.size 5 .u8 [] (Nat.le_refl _) (by simp)⟩
            have HBa0 := Aside0.mk (below_alloc (Below.refl wr.heap.size wr) (.cells #[] 5))
            go_upto_if 64 with (first
              | (at_builtin; refine print_append_row (w0 := wr) wr.heap.size rfl _ _ 41 5 .u8 1 rfl Try.underlying41 info5 (by decide) _ [] (flds l0) A N c rfl rfl HOL0.out HRI0.out HBa0.out (by simp) (by simp; omega) ?_; intro v1 w4 ho1 hb1 hg1 hat1; have hsz4 := hb1.size; have HOL1 : Aside0 ((w4.alloc (.cells #[.int .u8 7] 5)).ownsRow wr.heap.size 5 1 v1 (flds l0).length (nums .u8 (flds l0))) := ⟨World.ownsRow.alloc ho1 _⟩; have HRI1 := Aside0.mk (C_readsB (lit1_own w4 wr.heap.size hsz4 7)); have HB4 := Aside0.mk (hb1.alloc hsz4 (.cells #[.int .u8 7] 5)); clear ho1 hb1 hg1 hat1)
              | (at_builtin; refine print_append_row (w0 := wr) wr.heap.size rfl _ _ 41 5 .u8 1 rfl Try.underlying41 info5 (by decide) v1 (flds l0) [7] (some ⟨w4.heap.size, 0, none⟩) 1 1 rfl rfl HOL1.out HRI1.out HB4.out (by simp; omega) (by rw [HN.out]; omega) ?_; intro v2 w5 ho2 hb2 hg2 hat2; have HB5 := Aside0.mk hb2; have HR5 := Aside0.mk (Kd.R_of_own (enc := Value.int .u8) (h1 := fun _ => rfl) (ok := fun _ => True) ho2 (fun _ _ => trivial)); obtain ⟨A5, c5, e5⟩ := Kd.R_slice HR5.out; subst e5; clear hb2 ho2 hg2 hat2)
              | fail)
            have HO1 := Aside0.mk (Kd.R_reads' HR5.out)
            have HL1 : Aside0 ((flds l0 ++ [7]).length = N + 1) := ⟨by rw [List.length_append, HN.out]; rfl⟩
            obtain ⟨ad5, e5, -⟩ := Kd.at_int HO1.out.2.2 0 (by omega) (by rw [HL1.out]; omega)
            subst e5
            have hc5 : N + 1 ≤ c5 := by have := HO1.out.2.1; rw [HL1.out] at this; exact this
            rw [HN.out]
            have HCC := Aside0.mk HO1.out.2.2
            clear HR5 HO1
            go_cut [8, 55] from 55 to 182 (fun v8 v55 wx => ∃ (L : List Int) (M c8 : Nat), v8 = .slice (some ad5) M c8 ∧ L.length = M ∧ M ≤ c8 ∧ v55 = .int .i64 cut ∧ Aside0 (Kd.C (Kd.int .u8) wx (some ad5) L.length L) ∧ Aside0 (Below wr.heap.size wr wx) ∧ Aside0 (Own l0 cut L))
            case first =>
              by_cases hc2 : cut < 2
              · by_cases h0 : cut = 0
                · subst h0
                  go_wp2
                  go_meet
                  case rel => exact ⟨(flds l0 ++ [7]).take (N), _, _, rfl, len_cut l0 _ HN.out _ (by omega), by omega, rfl, ⟨C_take HCC.out _ (by rw [HL1.out]; omega)⟩, HB5, ⟨own_cut l0 _ HFB.out HN.out _ _ (.inl ⟨rfl, rfl⟩)⟩⟩
                · have h1 : cut = 1 := by omega
                  subst h1
                  by_cases hN0 : N = 0
                  · subst hN0
                    go_wp2
                    go_meet
                    case rel => exact ⟨(flds l0 ++ [7]).take (0), _, _, rfl, len_cut l0 _ HN.out _ (by omega), by omega, rfl, ⟨C_take HCC.out _ (by rw [HL1.out]; omega)⟩, HB5, ⟨own_cut l0 _ HFB.out HN.out _ _ (.inr (.inl ⟨rfl, rfl, rfl⟩))⟩⟩
                  · obtain ⟨N1, rfl⟩ : ∃ N1, N = N1 + 1 := ⟨N - 1, by omega⟩
                    go_wp2
                    go_meet
                    case rel => exact ⟨(flds l0 ++ [7]).take (N1), _, _, rfl, len_cut l0 _ HN.out _ (by omega), by omega, rfl, ⟨C_take HCC.out _ (by rw [HL1.out]; omega)⟩, HB5, ⟨own_cut l0 _ HFB.out HN.out _ _ (.inr (.inr ⟨rfl, rfl⟩))⟩⟩
              · have h2 : cut = 2 := by omega
                subst h2
                go_wp2
                go_meet
                case rel => exact ⟨_, _, _, rfl, HL1.out, hc5, rfl, HCC, HB5, ⟨own_two l0 HFB.out⟩⟩
            case rest =>
              obtain ⟨L, M, c8, rfl, hLM, hc8, rfl, HCL, HBw, HOw⟩ := hcut
              have HLM := Aside0.mk hLM
              have hMb : M ≤ 30000 := by have := HOw.out.len; have := HN.out; omega
              clear hLM HCC HB5 HL1
              go_wp2_with (first
                | (go_at_call 39; (with_reducible refine (read_calls (.bool true) (some ad5) M c8 wc wc (Below.refl _ _)).mono ?_); rintro e w6 ⟨rfl, hR, hb1, -⟩; have HR6 := Aside0.mk hR; have HB6 := Aside0.mk hb1; clear hR hb1)
                | fail)
              go_loopw [10, 76] (fun v10 v76 wi => ∃ (i at_ : Nat) (bad : Int) (same : Bool), v76 = .int .i64 i ∧ i ≤ l0.length ∧ v10 = .bool same ∧ Aside0 (Inv L l0 i at_ bad same) ∧ Aside0 (IsR wi wc.heap.size (some ad5) M c8 at_ bad) ∧ Aside0 (Below wc.heap.size wc wi))
                (fun _ v76 _ => l0.length - (intOf v76).toNat)
              case atStart => exact ⟨0, 0, -1, true, rfl, Nat.zero_le _, rfl, ⟨Inv.start L l0⟩, HR6, HB6⟩
              case round =>
                obtain ⟨i, at_, bad, same, rfl, hi, rfl, HINV, HRD, HBI⟩ := hrel
                have HBX := Aside0.mk (below_then (below_then (below_then HB3.out HB3.out.size HBL.out) (Nat.le_trans HB3.out.size HBL.out.size) HBw.out) (Nat.le_trans (Nat.le_trans HB3.out.size HBL.out.size) HBw.out.size) HBI.out)
                by_cases hlt2 : i < l0.length
                · obtain ⟨ad, A2, c2, e, q0, q1, q2, q3, q4, q5, q6⟩ := at_T69 HR.out (i : Int) (by omega) (by omega)
                  subst e
                  rw [Int.toNat_natCast] at q0 q1 q2 q3 q4
                  replace q0 := pw_cell_below HBX.out q0
                  replace q1 := pw_cell_below HBX.out q1
                  replace q2 := pw_cell_below HBX.out q2
                  replace q3 := pw_cell_below HBX.out q3
                  replace q4 := pw_cell_below HBX.out q4
                  have HF := Aside0.mk (rd_get l0 i hlt2)
                  have HGf := Aside0.mk (HGA.out (rd_T69 l0 (i : Int)) (by rw [HF.out]; exact List.getElem_mem hlt2))
                  have HQc := Aside0.mk (Kd.C_below q6 (below_then (below_then HB3.out HB3.out.size HBL.out) (Nat.le_trans HB3.out.size HBL.out.size) HBw.out))
                  have HQ5 := Aside0.mk q5
                  have HIN := Aside0.mk (HINV.out.step hlt2 _ HF.out HGf.out)
                  clear q6
                  generalize rd_T69 l0 (i : Int) = f at *
                  obtain ⟨W1, hW1⟩ : ∃ W1, W1 = wr.alloc (.cells #[.int .i64 f.f0, .int .i64 f.f1, .slice A2 f.f2.length c2, .int .i64 f.f3, .int .i64 f.f4] 69) := ⟨_, rfl⟩
                  have HBa : Aside0 (Below wc.heap.size wc W1) := ⟨by rw [hW1]; exact below_alloc HBI.out _⟩
                  have HRa : Aside0 (IsR W1 wc.heap.size (some ad5) M c8 at_ bad) := ⟨by rw [hW1]; exact HRD.out.below (below_alloc (Below.refl _ _) _)⟩
                  have HX1 : Aside0 (W1.cell? ⟨wr.heap.size, 1, none⟩ = some (.int .i64 f.f1)) := ⟨by rw [hW1]; go_simp⟩
                  have HX2 : Aside0 (W1.cell? ⟨wr.heap.size, 2, none⟩ = some (.slice A2 f.f2.length c2)) := ⟨by rw [hW1]; go_simp⟩
                  have hlw : wc.heap.size < wr.heap.size := World.block_lt_of_cell? _ _ HRD.out.1
                  have HAT : Aside0 (at_ ≤ M) := ⟨by have := HINV.out.a; rw [HLM.out] at this; exact this⟩
                  rcases Classical.em (f.f0 = 1) with h1 | n1
                  · as_aux_lemma => -- BEGIN K1
                    rw [rdf_1 h1] at HIN
                    have HC := Aside0.mk (fun W' (hb : Below W1.heap.size W1 W') => byte_step wc.heap.size (some ad5) M c8 at_ bad (by omega) hc8 HAT.out L HLM.out HOw.out.by_ wc W' HCL.out (below_then HBa.out HBa.out.size hb) (Nat.le_refl _) (HRa.out.below hb))
                    obtain ⟨⟨v, at2, bad2⟩, hr⟩ : ∃ r, step 1 255 L at_ bad = r := ⟨_, rfl⟩
                    rw [hr] at HC HIN
                    rw [hW1, h1] at HC HX1 HX2
                    clear hr
                    cases hdv : decide (v = f.f1 % 256)
                    · have HIN2 : Aside0 (Inv L l0 (i + 1) at2 bad2 false) := ⟨by have := HIN.out; rw [hdv] at this; exact this⟩
                      have hdb : (v == IntKind.u8.wrap f.f1) = false := by rw [u8_wrap]; simpa using hdv
                      clear hdv
                      go_wp2
                      first | (go_region_with (first | (go_at_call 40; (first | (with_reducible refine (HC.out _ ((Below.refl _ _).drew)).mono ?_) | (with_reducible refine (HC.out _ (pw_below_drewN (Below.refl _ _) _)).mono ?_)); rintro e w7 ⟨rfl, hR7, hB7, hK7⟩; have hf7 := far_cell HX1.out hK7 hlw; have HR7 := Aside0.mk hR7; have HB7 := Aside0.mk hB7; clear hR7 hB7 hK7))) | fail
                      all_goals
                        refine (‹∀ (a : Act) (w_1 : World), Code.wp _ _ _ a w_1 → _› _ _ ?_)
                        go_wp2
                        go_roundw
                        case rel => exact ⟨i + 1, at2, bad2, false, by go_num, by omega, rfl, HIN2, HR7, HB7⟩
                        case measure => simp [intOf]; omega
                    · have HIN2 : Aside0 (Inv L l0 (i + 1) at2 bad2 same) := ⟨by have := HIN.out; rw [hdv] at this; exact this⟩
                      have hdb : (v == IntKind.u8.wrap f.f1) = true := by rw [u8_wrap]; simpa using hdv
                      clear hdv
                      go_wp2
                      first | (go_region_held3 (fun w' => w'.cell? ⟨wr.heap.size, 1, none⟩ = some (.int .i64 f.f1)) (first | exact HX1.out | exact hf7 | exact hf8) (first | (go_at_call 40; (first | (with_reducible refine (HC.out _ ((Below.refl _ _).drew)).mono ?_) | (with_reducible refine (HC.out _ (pw_below_drewN (Below.refl _ _) _)).mono ?_)); rintro e w7 ⟨rfl, hR7, hB7, hK7⟩; have hf7 := far_cell HX1.out hK7 hlw; have HR7 := Aside0.mk hR7; have HB7 := Aside0.mk hB7; clear hR7 hB7 hK7))) | fail
                      all_goals
                        refine (‹∀ (a : Act) (w_1 : World), Code.wp _ _ _ a w_1 → _› _ _ ?_)
                        go_wp2
                        go_roundw
                        case rel => exact ⟨i + 1, at2, bad2, same, by go_num, by omega, rfl, HIN2, HR7, HB7⟩
                        case measure => simp [intOf]; omega
                    -- END K1
                  · rcases Classical.em (f.f0 = 2) with h1 | n2
                    · as_aux_lemma => -- BEGIN K2
                      clear n1
                      rw [rdf_2 h1] at HIN
                      have HC := Aside0.mk (fun W' (hb : Below W1.heap.size W1 W') => int_step wc.heap.size (some ad5) M c8 at_ bad (by omega) hc8 HAT.out L HLM.out HOw.out.by_ wc W' HCL.out (below_then HBa.out HBa.out.size hb) (Nat.le_refl _) (HRa.out.below hb))
                      obtain ⟨⟨v, at2, bad2⟩, hr⟩ : ∃ r, step 8 9223372036854775807 L at_ bad = r := ⟨_, rfl⟩
                      rw [hr] at HC HIN
                      rw [hW1, h1] at HC HX1 HX2
                      clear hr
                      cases hdv : decide (v = f.f1)
                      · have HIN2 : Aside0 (Inv L l0 (i + 1) at2 bad2 false) := ⟨by have := HIN.out; rw [hdv] at this; exact this⟩
                        have hdb : (v == f.f1) = false := by simpa using hdv
                        clear hdv
                        go_wp2
                        first | (go_region_with (first | (go_at_call 41; (first | (with_reducible refine (HC.out _ ((Below.refl _ _).drew)).mono ?_) | (with_reducible refine (HC.out _ (pw_below_drewN (Below.refl _ _) _)).mono ?_)); rintro e w7 ⟨rfl, hR7, hB7, hK7⟩; have hf7 := far_cell HX1.out hK7 hlw; have HR7 := Aside0.mk hR7; have HB7 := Aside0.mk hB7; clear hR7 hB7 hK7))) | fail
                        all_goals
                          refine (‹∀ (a : Act) (w_1 : World), Code.wp _ _ _ a w_1 → _› _ _ ?_)
                          go_wp2
                          go_roundw
                          case rel => exact ⟨i + 1, at2, bad2, false, by go_num, by omega, rfl, HIN2, HR7, HB7⟩
                          case measure => simp [intOf]; omega
                      · have HIN2 : Aside0 (Inv L l0 (i + 1) at2 bad2 same) := ⟨by have := HIN.out; rw [hdv] at this; exact this⟩
                        have hdb : (v == f.f1) = true := by simpa using hdv
                        clear hdv
                        go_wp2
                        first | (go_region_held3 (fun w' => w'.cell? ⟨wr.heap.size, 1, none⟩ = some (.int .i64 f.f1)) (first | exact HX1.out | exact hf7 | exact hf8) (first | (go_at_call 41; (first | (with_reducible refine (HC.out _ ((Below.refl _ _).drew)).mono ?_) | (with_reducible refine (HC.out _ (pw_below_drewN (Below.refl _ _) _)).mono ?_)); rintro e w7 ⟨rfl, hR7, hB7, hK7⟩; have hf7 := far_cell HX1.out hK7 hlw; have HR7 := Aside0.mk hR7; have HB7 := Aside0.mk hB7; clear hR7 hB7 hK7))) | fail
                        all_goals
                          refine (‹∀ (a : Act) (w_1 : World), Code.wp _ _ _ a w_1 → _› _ _ ?_)
                          go_wp2
                          go_roundw
                          case rel => exact ⟨i + 1, at2, bad2, same, by go_num, by omega, rfl, HIN2, HR7, HB7⟩
                          case measure => simp [intOf]; omega
                      -- END K2
                    · rcases Classical.em (f.f0 = 3) with h1 | n3
                      · as_aux_lemma => -- BEGIN K3
                        clear n1 n2
                        rw [rdf_3 h1] at HIN
                        have HC := Aside0.mk (fun W' (hb : Below W1.heap.size W1 W') => rbytes_step wc.heap.size (some ad5) M c8 at_ bad (f.f2.length : Int) (f.f2.length : Int) (by omega) (by omega) hc8 HAT.out L HLM.out HOw.out.by_ wc W' HCL.out (below_then HBa.out HBa.out.size hb) (Nat.le_refl _) (HRa.out.below hb))
                        have hv := bstep_len (f.f2.length : Int) (f.f2.length : Int) L at_ bad
                        obtain ⟨⟨v, at2, bad2⟩, hr⟩ : ∃ r, bstep (f.f2.length : Int) (f.f2.length : Int) L at_ bad = r := ⟨_, rfl⟩
                        rw [hr] at HC HIN hv
                        have HV : Aside0 (v.length ≤ 1000000) := ⟨by have h2 : v.length ≤ L.length := hv; have := HLM.out; omega⟩
                        clear hv
                        rw [hW1, h1] at HC HX1 HX2
                        clear hr
                        cases hdv : decide (v = f.f2)
                        · have HIN2 : Aside0 (Inv L l0 (i + 1) at2 bad2 false) := ⟨by have := HIN.out; rw [hdv] at this; exact this⟩
                          go_wp2
                          first | (go_region_with (first | (go_at_call 42; (first | (with_reducible refine (HC.out _ ((Below.refl _ _).drew)).mono ?_) | (with_reducible refine (HC.out _ (pw_below_drewN (Below.refl _ _) _)).mono ?_)); rintro e w7 ⟨B7, d7, rfl, hl7, hC7, hR7, hB7, hK7⟩; have hf7 := far_cell HX2.out hK7 hlw; have HL7 := Aside0.mk hl7; have HC7 := Aside0.mk hC7; have HR7 := Aside0.mk hR7; have HB7 := Aside0.mk hB7; clear hl7 hC7 hR7 hB7 hK7) | (go_at_call 37; (with_reducible refine (bsame_calls B7 v.length d7 v rfl A2 f.f2.length c2 f.f2 rfl _ HC7.out HL7.out (Kd.C_below HQc.out HB7.out) HQ5.out HV.out).mono ?_); rintro e w8 ⟨rfl, hb8⟩; have hf8 := pw_cell_below hb8 hf7; have HR8 := Aside0.mk (HR7.out.below hb8); have HB8 := Aside0.mk (below_then HB7.out HB7.out.size hb8); clear hb8))) | fail
                          all_goals
                            refine (‹∀ (a : Act) (w_1 : World), Code.wp _ _ _ a w_1 → _› _ _ ?_)
                            go_wp2
                            go_roundw
                            case rel => exact ⟨i + 1, at2, bad2, false, by go_num, by omega, rfl, HIN2, HR8, HB8⟩
                            case measure => simp [intOf]; omega
                        · have HIN2 : Aside0 (Inv L l0 (i + 1) at2 bad2 same) := ⟨by have := HIN.out; rw [hdv] at this; exact this⟩
                          go_wp2
                          first | (go_region_held3 (fun w' => w'.cell? ⟨wr.heap.size, 2, none⟩ = some (.slice A2 f.f2.length c2)) (first | exact HX2.out | exact hf7 | exact hf8) (first | (go_at_call 42; (first | (with_reducible refine (HC.out _ ((Below.refl _ _).drew)).mono ?_) | (with_reducible refine (HC.out _ (pw_below_drewN (Below.refl _ _) _)).mono ?_)); rintro e w7 ⟨B7, d7, rfl, hl7, hC7, hR7, hB7, hK7⟩; have hf7 := far_cell HX2.out hK7 hlw; have HL7 := Aside0.mk hl7; have HC7 := Aside0.mk hC7; have HR7 := Aside0.mk hR7; have HB7 := Aside0.mk hB7; clear hl7 hC7 hR7 hB7 hK7) | (go_at_call 37; (with_reducible refine (bsame_calls B7 v.length d7 v rfl A2 f.f2.length c2 f.f2 rfl _ HC7.out HL7.out (Kd.C_below HQc.out HB7.out) HQ5.out HV.out).mono ?_); rintro e w8 ⟨rfl, hb8⟩; have hf8 := pw_cell_below hb8 hf7; have HR8 := Aside0.mk (HR7.out.below hb8); have HB8 := Aside0.mk (below_then HB7.out HB7.out.size hb8); clear hb8))) | fail
                          all_goals
                            refine (‹∀ (a : Act) (w_1 : World), Code.wp _ _ _ a w_1 → _› _ _ ?_)
                            go_wp2
                            go_roundw
                            case rel => exact ⟨i + 1, at2, bad2, same, by go_num, by omega, rfl, HIN2, HR8, HB8⟩
                            case measure => simp [intOf]; omega
                        -- END K3
                      · as_aux_lemma => -- BEGIN K4
                        have h1 : f.f0 = 4 := by have := HGf.out.1; have := HGf.out.2.1; omega
                        clear n1 n2 n3
                        rw [rdf_4 h1] at HIN
                        have HC := Aside0.mk (fun W' (hb : Below W1.heap.size W1 W') => count_step wc.heap.size (some ad5) M c8 at_ bad f.f1 (by omega) hc8 HAT.out L HLM.out HOw.out.by_ wc W' HCL.out (below_then HBa.out HBa.out.size hb) (Nat.le_refl _) (HRa.out.below hb))
                        obtain ⟨⟨v, at2, bad2⟩, hr⟩ : ∃ r, step 4 f.f1 L at_ bad = r := ⟨_, rfl⟩
                        rw [hr] at HC HIN
                        rw [hW1, h1] at HC HX1 HX2
                        clear hr
                        cases hdv : decide (v = f.f1)
                        · have HIN2 : Aside0 (Inv L l0 (i + 1) at2 bad2 false) := ⟨by have := HIN.out; rw [hdv] at this; exact this⟩
                          have hdb : (v == f.f1) = false := by simpa using hdv
                          clear hdv
                          go_wp2
                          first | (go_region_with (first | (go_at_call 43; (first | (with_reducible refine (HC.out _ ((Below.refl _ _).drew)).mono ?_) | (with_reducible refine (HC.out _ (pw_below_drewN (Below.refl _ _) _)).mono ?_)); rintro e w7 ⟨rfl, hR7, hB7, hK7⟩; have hf7 := far_cell HX1.out hK7 hlw; have HR7 := Aside0.mk hR7; have HB7 := Aside0.mk hB7; clear hR7 hB7 hK7))) | fail
                          all_goals
                            refine (‹∀ (a : Act) (w_1 : World), Code.wp _ _ _ a w_1 → _› _ _ ?_)
                            go_wp2
                            go_roundw
                            case rel => exact ⟨i + 1, at2, bad2, false, by go_num, by omega, rfl, HIN2, HR7, HB7⟩
                            case measure => simp [intOf]; omega
                        · have HIN2 : Aside0 (Inv L l0 (i + 1) at2 bad2 same) := ⟨by have := HIN.out; rw [hdv] at this; exact this⟩
                          have hdb : (v == f.f1) = true := by simpa using hdv
                          clear hdv
                          go_wp2
                          first | (go_region_held3 (fun w' => w'.cell? ⟨wr.heap.size, 1, none⟩ = some (.int .i64 f.f1)) (first | exact HX1.out | exact hf7 | exact hf8) (first | (go_at_call 43; (first | (with_reducible refine (HC.out _ ((Below.refl _ _).drew)).mono ?_) | (with_reducible refine (HC.out _ (pw_below_drewN (Below.refl _ _) _)).mono ?_)); rintro e w7 ⟨rfl, hR7, hB7, hK7⟩; have hf7 := far_cell HX1.out hK7 hlw; have HR7 := Aside0.mk hR7; have HB7 := Aside0.mk hB7; clear hR7 hB7 hK7))) | fail
                          all_goals
                            refine (‹∀ (a : Act) (w_1 : World), Code.wp _ _ _ a w_1 → _› _ _ ?_)
                            go_wp2
                            go_roundw
                            case rel => exact ⟨i + 1, at2, bad2, same, by go_num, by omega, rfl, HIN2, HR7, HB7⟩
                            case measure => simp [intOf]; omega
                        -- END K4
                · have hie : i = l0.length := by omega
                  subst hie
                  have HBY := Aside0.mk (below_then (below_then HBL.out HBL.out.size HBw.out) (Nat.le_trans HBL.out.size HBw.out.size) HBI.out)
                  clear hi hlt2
                  rcases Classical.em (cut = 0) with h0 | n0
                  · as_aux_lemma => -- BEGIN D0
                    subst h0
                    obtain ⟨hs, hf⟩ := HINV.out.end0 (HOw.out.c0 rfl)
                    rw [HLM.out] at hf
                    subst hs
                    have HDN := Aside0.mk (done_calls wc.heap.size (some ad5) M c8 at_ bad wr HRD.out)
                    rw [hf] at HDN
                    clear hf
                    go_wp2_with (first | (go_at_call 44; (with_reducible refine HDN.out.mono ?_); rintro e w9 ⟨rfl, hd9⟩; have HB9 := Aside0.mk (below_then HBY.out (Nat.le_trans (Nat.le_trans HBL.out.size HBw.out.size) HBI.out.size) hd9.below); clear hd9) | fail)
                    all_goals
                      go_roundw
                      case rel => exact ⟨1, rfl, by omega, HB9⟩
                      case measure => simp [intOf]
                    -- END D0
                  · rcases Classical.em (cut = 1) with h0 | n1
                    · subst h0
                      rcases Classical.em (N = 0) with hz | nz
                      · as_aux_lemma => -- BEGIN D1
                        subst hz
                        obtain ⟨hs, hf⟩ := HINV.out.end0 (HOw.out.c1 rfl HN.out)
                        rw [HLM.out] at hf
                        subst hs
                        have HDN := Aside0.mk (done_calls wc.heap.size (some ad5) M c8 at_ bad wr HRD.out)
                        rw [hf] at HDN
                        clear hf
                        go_wp2_with (first | (go_at_call 44; (with_reducible refine HDN.out.mono ?_); rintro e w9 ⟨rfl, hd9⟩; have HB9 := Aside0.mk (below_then HBY.out (Nat.le_trans (Nat.le_trans HBL.out.size HBw.out.size) HBI.out.size) hd9.below); clear hd9) | fail)
                        all_goals
                          go_roundw
                          case rel => exact ⟨2, rfl, by omega, HB9⟩
                          case measure => simp [intOf]
                        -- END D1
                      · as_aux_lemma => -- BEGIN D2
                        have hnz : ((N : Int) == 0) = false := by simpa using nz
                        obtain ⟨p, hf, hp⟩ := HINV.out.end1 (by rw [HN.out]; omega) (HOw.out.c1' rfl (by rw [HN.out]; omega))
                        rw [HLM.out] at hf
                        rw [HN.out] at hp
                        have dp : decide ((N : Int) ≤ p) = false := decide_eq_false (by omega)
                        clear hp nz
                        have HDN := Aside0.mk (done_calls wc.heap.size (some ad5) M c8 at_ bad wr HRD.out)
                        rw [hf] at HDN
                        clear hf
                        go_wp2_with (first | (go_at_call 44; (with_reducible refine HDN.out.mono ?_); rintro e w9 ⟨rfl, hd9⟩; have HB9 := Aside0.mk (below_then HBY.out (Nat.le_trans (Nat.le_trans HBL.out.size HBw.out.size) HBI.out.size) hd9.below); clear hd9) | fail)
                        all_goals
                          go_roundw
                          case rel => exact ⟨2, rfl, by omega, HB9⟩
                          case measure => simp [intOf]
                        -- END D2
                    · as_aux_lemma => -- BEGIN D3
                      have h2 : cut = 2 := by omega
                      subst h2
                      rcases Classical.em (N = 0) with hz | nz
                      · subst hz
                        obtain ⟨hs, hf⟩ := HINV.out.end2 (HOw.out.c2 rfl)
                        rw [HLM.out, HN.out] at hf
                        subst hs
                        have HDN := Aside0.mk (done_calls wc.heap.size (some ad5) M c8 at_ bad wr HRD.out)
                        rw [hf] at HDN
                        clear hf
                        go_wp2_with (first | (go_at_call 44; (with_reducible refine HDN.out.mono ?_); rintro e w9 ⟨rfl, hd9⟩; have HB9 := Aside0.mk (below_then HBY.out (Nat.le_trans (Nat.le_trans HBL.out.size HBw.out.size) HBI.out.size) hd9.below); clear hd9) | fail)
                        all_goals
                          go_roundw
                          case rel => exact ⟨3, rfl, by omega, HB9⟩
                          case measure => simp [intOf]
                      · have hnz : ((N : Int) == 0) = false := by simpa using nz
                        obtain ⟨hs, hf⟩ := HINV.out.end2 (HOw.out.c2 rfl)
                        rw [HLM.out, HN.out] at hf
                        subst hs
                        have HDN := Aside0.mk (done_calls wc.heap.size (some ad5) M c8 at_ bad wr HRD.out)
                        rw [hf] at HDN
                        clear hf
                        go_wp2_with (first | (go_at_call 44; (with_reducible refine HDN.out.mono ?_); rintro e w9 ⟨rfl, hd9⟩; have HB9 := Aside0.mk (below_then HBY.out (Nat.le_trans (Nat.le_trans HBL.out.size HBw.out.size) HBI.out.size) hd9.below); clear hd9) | fail)
                        all_goals
                          go_roundw
                          case rel => exact ⟨3, rfl, by omega, HB9⟩
                          case measure => simp [intOf]
                      -- END D3
          · go_wp2
            go_ret
            exact ⟨rfl, below_then HB3.out HB3.out.size HBL.out⟩
  · rw [decide_eq_false hs] at HK
    clear hs
    go_enter Try.func8, Try.ntmps8
    go_wp2_with (first
      | (go_at_call 32; (with_reducible refine (awake_calls _).mono ?_); rintro e w1 ⟨rfl, hb⟩; have HB1 := Aside0.mk hb; clear hb)
      | (go_at_call 33; (with_reducible refine (cleromancylaw22_small.calls k A0 c0 l0 false _ (Kd.C_below HR.out HB1.out) HC0.out HK.out).mono ?_); rintro e w2 ⟨rfl, hb⟩; have HB2 := Aside0.mk (below_then HB1.out HB1.out.size hb); clear hb)
      | fail)
    go_ret
    exact ⟨rfl, HB2.out⟩
end Go.Proofs.Ytlngkcaaenpnaaa.Wire
