/- recall: any event has the document's bytes, or may not be; any bytes are the document's event, or wrong where it says: the walk. -/
import Derived.Test.YtlngkcaaenpnaaaRcE
import Derived.Test.YtlngkcaaenpnaaaWireF
namespace Go.Proofs.Ytlngkcaaenpnaaa.Wire
set_option linter.unusedVariables false
set_option linter.unusedSimpArgs false
open Go.RowKit Go.Proofs.Ytlngkcaaenpnaaa.Num Go.Proofs.Ytlngkcaaenpnaaa.PWi Go.Proofs.YtlngkcaaenpnaaaW Go.Proofs.YtlngkcaaenpnaaaW.PrintWords Go.Proofs.YtlngkcaaenpnaaaW.PrintLast Go.Proofs.YtlngkcaaenpnaaaW.PrintMore

/-- Behind a call that tells an event's like: what is known of its bytes. -/
theorem rdev_len (l : List Int) : (rdev l).1.2.2.2.length ≤ l.length := by
  unfold rdev
  split
  · exact Nat.zero_le _
  · split
    · show ((bstep _ _ l _ _).1).length ≤ l.length
      unfold bstep
      split
      · exact Nat.zero_le _
      · split
        · exact Nat.zero_le _
        · show ((l.drop _).take _).length ≤ l.length
          rw [List.length_take, List.length_drop]; omega
    · exact Nat.zero_le _
set_option maxHeartbeats 6400000 in
set_option maxRecDepth 100000 in
theorem bytes_y_bad (k now fr : Int) (A : Option Addr) (n c : Nat) (l : List Int) (hl : l.length = n) (hc : n ≤ c) (hn : n ≤ 2000) (hbn : -9223372036854775808 ≤ now ∧ now ≤ 9223372036854775807) (hbf : -9223372036854775808 ≤ fr ∧ fr ≤ 9223372036854775807)
    (A1 : Option Addr) (n1 c1 : Nat) (l1 : List Int) (hl1 : l1.length = n1) (hc1 : n1 ≤ c1) (hn1 : n1 ≤ 2000) (hby1 : By l1) (w : World) (hr : Kd.C (Kd.int .u8) w A l.length l) (hr1 : Kd.C (Kd.int .u8) w A1 l1.length l1) (hm : mayb k now fr l = true) (hq : 0 ≤ rdq l1) :
    Calls Try.prog 9 #[.agg #[.int .i64 k, .int .i64 now, .int .i64 fr, .slice A n c], .slice A1 n1 c1] w (fun e w' => e = .returned (.bool true) ∧ Below w.heap.size w w') := by
  have hlen := rdev_len l1
  have HE0 := Aside0.mk (EvAt.new w k now fr (.slice A n c))
  have HB0 := Aside0.mk (below_alloc (Below.refl w.heap.size w) (.cells #[.int .i64 k, .int .i64 now, .int .i64 fr, .slice A n c] 79))
  have HR := Aside0.mk (fun W (hb : Below w.heap.size w W) => Kd.C_below hr hb)
  have HR1 := Aside0.mk (fun W (hb : Below w.heap.size w W) => Kd.C_below hr1 hb)
  have hp := fun W (hb : Below w.heap.size w W) => rput_calls k now fr A n c l hl hc (by omega) W (Kd.C_below hr hb) hbn hbf
  simp only [hm, if_true] at hp
  have HP := Aside0.mk hp
  clear hp
  have HMY := Aside0.mk (fun W (hb : Below w.heap.size w W) => cleromancyref32_May.calls k now fr A c l true W (Kd.C_below hr hb) (by omega) (by rw [refmay_is, hm]))
  rw [hl] at HMY
  obtain ⟨Q, hQ⟩ : ∃ Q, putb k now fr l = Q := ⟨_, rfl⟩
  have HRP := Aside0.mk (fun W (hb : Below w.heap.size w W) => refput_calls k now fr A n c l hl hc (by omega) W (Kd.C_below hr hb) hbn hbf)
  rw [hQ] at HP HRP
  have HQL : Aside0 (Q.length ≤ 1000000) := ⟨by rw [← hQ]; unfold putb; split <;> simp only [List.length_append, bes_len] <;> omega⟩
  clear hQ
  have HQT := Aside0.mk (fun W (hb : Below w.heap.size w W) => qtake_calls A1 n1 c1 (by omega) hc1 l1 hl1 hby1 W (Kd.C_below hr1 hb))
  have HTK := Aside0.mk (fun W (hb : Below w.heap.size w W) => rtake_bad A1 n1 c1 (by omega) hc1 l1 hl1 hby1 W (Kd.C_below hr1 hb) hq)
  obtain ⟨q, hqe⟩ : ∃ q, rdq l1 = q := ⟨_, rfl⟩
  rw [hqe] at HQT HTK hq
  obtain ⟨⟨⟨k2, now2, fr2, l2⟩, x1, x2⟩, hev⟩ : ∃ r, rdev l1 = r := ⟨_, rfl⟩
  rw [hev] at HQT hlen
  have hl2 : l2.length ≤ 2000 := by have h : l2.length ≤ l1.length := hlen; omega
  obtain ⟨n2, hn2⟩ : ∃ m, l2.length = m := ⟨_, rfl⟩
  have HN2 := Aside0.mk hn2
  have htk : ∀ W, Below w.heap.size w W → Calls Try.prog 49 #[.slice A1 n1 c1] W (fun e w' => ∃ B d, e = .returned (.tuple #[.agg #[.int .i64 0, .int .i64 0, .int .i64 0, .slice B 0 d], .int .i64 q, .int .i64 20]) ∧ 0 ≤ d ∧ Kd.C (Kd.int .u8) w' B ([] : List Int).length [] ∧ Below W.heap.size W w') := HTK.out
  replace HTK := Aside0.mk htk
  clear htk
  have hqt : ∀ W, Below w.heap.size w W → Calls Try.prog 50 #[.slice A1 n1 c1] W (fun e w' => ∃ B d, e = .returned (.tuple #[.agg #[.int .i64 k2, .int .i64 now2, .int .i64 fr2, .slice B n2 d], .int .i64 q]) ∧ n2 ≤ d ∧ Kd.C (Kd.int .u8) w' B l2.length l2 ∧ Below W.heap.size W w') := by rw [← hn2]; exact HQT.out
  replace HQT := Aside0.mk hqt
  clear hqt
  have hg1 : decide (2000 < (n : Int)) = false := decide_eq_false (by omega)
  have hg2 : decide (2000 < (n1 : Int)) = false := decide_eq_false (by omega)
  have hq0 : decide (0 ≤ q) = true := decide_eq_true hq
  have hu79 := Try.underlying79
  have HL := Aside0.mk hl
  have HNN := Aside0.mk hn
  have HL2 := Aside0.mk hl2
  clear hr hr1 hm hq hqe hev hlen hby1 hl1 hl2 hn2
  go_enter Try.func9, Try.ntmps9
  go_wp2_with (first
    | (go_at_call 45; (with_reducible refine (recall_awake_calls _).mono ?_); rintro e w1 ⟨rfl, hb⟩; have HE1 := Aside0.mk (HE0.out.below hb); have HB1 := Aside0.mk (below_then HB0.out HB0.out.size hb); obtain ⟨-, p0, p1, p2, p3, -⟩ := HE1.out; clear hb)
    | (go_at_call 46; (with_reducible refine (HP.out _ HB1.out).mono ?_); rintro e w2 ⟨X, dx, rfl, hd, hC, hb⟩; have HE2 := Aside0.mk (HE1.out.below hb); have HB2 := Aside0.mk (below_then HB1.out HB1.out.size hb); have HX := Aside0.mk hC; have HD := Aside0.mk hd; clear p0 p1 p2 p3; obtain ⟨-, p0, p1, p2, p3, -⟩ := HE2.out; clear hb hC hd)
    | (go_at_call 47; (with_reducible refine (HMY.out _ HB2.out).mono ?_); rintro e w3 ⟨rfl, hb⟩; have HE3 := Aside0.mk (HE2.out.below hb); have HB3 := Aside0.mk (below_then HB2.out HB2.out.size hb); have HX3 := Aside0.mk (Kd.C_below HX.out hb); clear p0 p1 p2 p3; obtain ⟨-, p0, p1, p2, p3, -⟩ := HE3.out; clear hb)
    | (go_at_call 48; (with_reducible refine (HRP.out _ HB3.out).mono ?_); rintro e w4 ⟨Y, dy, rfl, hd, hC, hb⟩; have HE4 := Aside0.mk (HE3.out.below hb); have HB4 := Aside0.mk (below_then HB3.out HB3.out.size hb); have HX4 := Aside0.mk (Kd.C_below HX3.out hb); have HY := Aside0.mk hC; have HDY := Aside0.mk hd; clear p0 p1 p2 p3; obtain ⟨-, p0, p1, p2, p3, -⟩ := HE4.out; clear hb hC hd)
    | (go_at_call 37; (with_reducible refine (bsame_calls X Q.length dx Q rfl Y Q.length dy Q rfl _ HX4.out HD.out HY.out HDY.out HQL.out).mono ?_); rintro e w5 ⟨rfl, hb⟩; have hqq : decide (Q = Q) = true := decide_eq_true rfl; have HE5 := Aside0.mk (HE4.out.below hb); have HB5 := Aside0.mk (below_then HB4.out HB4.out.size hb); clear p0 p1 p2 p3; obtain ⟨-, p0, p1, p2, p3, -⟩ := HE5.out; clear hb)
    | (go_at_call 49; (with_reducible refine (HTK.out _ HB5.out).mono ?_); rintro e w6 ⟨B, d, rfl, hd, hC, hb⟩; have HE6 := Aside0.mk (EvAt.new w6 0 0 0 (.slice B 0 d)); have HB6 := Aside0.mk (below_alloc (below_then HB5.out HB5.out.size hb) (.cells #[.int .i64 0, .int .i64 0, .int .i64 0, .slice B 0 d] 79)); have HC6 := Aside0.mk (Kd.C_alloc hC (.cells #[.int .i64 0, .int .i64 0, .int .i64 0, .slice B 0 d] 79)); have HD6 := Aside0.mk hd; clear hb hC hd)
    | (go_at_call 50; (with_reducible refine (HQT.out _ HB6.out).mono ?_); rintro e w7 ⟨B2, d2, rfl, hd, hC, hb⟩; have HE7 := Aside0.mk ((HE6.out.below hb).below (below_alloc (Below.refl _ _) (.cells #[.int .i64 k2, .int .i64 now2, .int .i64 fr2, .slice B2 n2 d2] 79))); have HF7 := Aside0.mk (EvAt.new w7 k2 now2 fr2 (.slice B2 n2 d2)); have HB7 := Aside0.mk (below_alloc (below_then HB6.out HB6.out.size hb) (.cells #[.int .i64 k2, .int .i64 now2, .int .i64 fr2, .slice B2 n2 d2] 79)); have HC7 := Aside0.mk (Kd.C_alloc (Kd.C_below HC6.out hb) (.cells #[.int .i64 k2, .int .i64 now2, .int .i64 fr2, .slice B2 n2 d2] 79)); have HG7 := Aside0.mk (Kd.C_alloc hC (.cells #[.int .i64 k2, .int .i64 now2, .int .i64 fr2, .slice B2 n2 d2] 79)); have HDG := Aside0.mk hd; obtain ⟨-, y0, y1, y2, y3, -⟩ := HE7.out; clear hb hC hd)
    | (go_at_call 51; (with_reducible refine (esame_calls 0 0 0 B 0 d [] rfl 0 0 0 none 0 0 [] rfl (Nat.zero_le _) _ HC7.out (Nat.zero_le _) (Kd.C_nil _ _) (Nat.zero_le _)).mono ?_); rintro e w8 ⟨rfl, hb⟩; have hze : decide ((0 : Int) = 0 ∧ (0 : Int) = 0 ∧ (0 : Int) = 0 ∧ ([] : List Int) = []) = true := decide_eq_true ⟨rfl, rfl, rfl, rfl⟩; have HE8 := Aside0.mk (HE7.out.below hb); have HF8 := Aside0.mk (HF7.out.below hb); have HB8 := Aside0.mk (below_then HB7.out HB7.out.size hb); have HC8 := Aside0.mk (Kd.C_below HC7.out hb); have HG8 := Aside0.mk (Kd.C_below HG7.out hb); obtain ⟨-, g0, g1, g2, g3, -⟩ := HE8.out; obtain ⟨-, h0, h1, h2, h3, -⟩ := HF8.out; clear hb)
    | fail)
  go_ret
  exact ⟨rfl, HB8.out⟩
set_option maxHeartbeats 6400000 in
set_option maxRecDepth 100000 in
theorem bytes_y_no (k now fr : Int) (A : Option Addr) (n c : Nat) (l : List Int) (hl : l.length = n) (hc : n ≤ c) (hn : n ≤ 2000) (hbn : -9223372036854775808 ≤ now ∧ now ≤ 9223372036854775807) (hbf : -9223372036854775808 ≤ fr ∧ fr ≤ 9223372036854775807)
    (A1 : Option Addr) (n1 c1 : Nat) (l1 : List Int) (hl1 : l1.length = n1) (hc1 : n1 ≤ c1) (hn1 : n1 ≤ 2000) (hby1 : By l1) (w : World) (hr : Kd.C (Kd.int .u8) w A l.length l) (hr1 : Kd.C (Kd.int .u8) w A1 l1.length l1) (hm : mayb k now fr l = true) (hq : rdq l1 < 0) (hm1 : mayb (rdev l1).1.1 (rdev l1).1.2.1 (rdev l1).1.2.2.1 (rdev l1).1.2.2.2 = false) :
    Calls Try.prog 9 #[.agg #[.int .i64 k, .int .i64 now, .int .i64 fr, .slice A n c], .slice A1 n1 c1] w (fun e w' => e = .returned (.bool true) ∧ Below w.heap.size w w') := by
  have hlen := rdev_len l1
  have HE0 := Aside0.mk (EvAt.new w k now fr (.slice A n c))
  have HB0 := Aside0.mk (below_alloc (Below.refl w.heap.size w) (.cells #[.int .i64 k, .int .i64 now, .int .i64 fr, .slice A n c] 79))
  have HR := Aside0.mk (fun W (hb : Below w.heap.size w W) => Kd.C_below hr hb)
  have HR1 := Aside0.mk (fun W (hb : Below w.heap.size w W) => Kd.C_below hr1 hb)
  have hp := fun W (hb : Below w.heap.size w W) => rput_calls k now fr A n c l hl hc (by omega) W (Kd.C_below hr hb) hbn hbf
  simp only [hm, if_true] at hp
  have HP := Aside0.mk hp
  clear hp
  have HMY := Aside0.mk (fun W (hb : Below w.heap.size w W) => cleromancyref32_May.calls k now fr A c l true W (Kd.C_below hr hb) (by omega) (by rw [refmay_is, hm]))
  rw [hl] at HMY
  obtain ⟨Q, hQ⟩ : ∃ Q, putb k now fr l = Q := ⟨_, rfl⟩
  have HRP := Aside0.mk (fun W (hb : Below w.heap.size w W) => refput_calls k now fr A n c l hl hc (by omega) W (Kd.C_below hr hb) hbn hbf)
  rw [hQ] at HP HRP
  have HQL : Aside0 (Q.length ≤ 1000000) := ⟨by rw [← hQ]; unfold putb; split <;> simp only [List.length_append, bes_len] <;> omega⟩
  clear hQ
  have HQT := Aside0.mk (fun W (hb : Below w.heap.size w W) => qtake_calls A1 n1 c1 (by omega) hc1 l1 hl1 hby1 W (Kd.C_below hr1 hb))
  have HTK := Aside0.mk (fun W (hb : Below w.heap.size w W) => rtake_no A1 n1 c1 (by omega) hc1 l1 hl1 hby1 W (Kd.C_below hr1 hb) hq hm1)
  obtain ⟨q, hqe⟩ : ∃ q, rdq l1 = q := ⟨_, rfl⟩
  rw [hqe] at HQT hq
  obtain ⟨⟨⟨k2, now2, fr2, l2⟩, x1, x2⟩, hev⟩ : ∃ r, rdev l1 = r := ⟨_, rfl⟩
  rw [hev] at HQT hlen hm1
  have hl2 : l2.length ≤ 2000 := by have h : l2.length ≤ l1.length := hlen; omega
  obtain ⟨n2, hn2⟩ : ∃ m, l2.length = m := ⟨_, rfl⟩
  have HN2 := Aside0.mk hn2
  have hM2 : ∀ (B : Option Addr) (d : Nat) (W : World), Kd.C (Kd.int .u8) W B l2.length l2 → n2 ≤ d → Calls Try.prog 47 #[.agg #[.int .i64 k2, .int .i64 now2, .int .i64 fr2, .slice B n2 d]] W (fun e w' => e = .returned (.bool false) ∧ Below W.heap.size W w') := by rw [← hn2]; exact fun B d W hC hd => cleromancyref32_May.calls k2 now2 fr2 B d l2 false W hC hd (by rw [refmay_is]; exact congrArg some hm1)
  have HM2 := Aside0.mk hM2
  clear hM2
  have htk : ∀ W, Below w.heap.size w W → Calls Try.prog 49 #[.slice A1 n1 c1] W (fun e w' => ∃ B d, e = .returned (.tuple #[.agg #[.int .i64 0, .int .i64 0, .int .i64 0, .slice B 0 d], .int .i64 0, .int .i64 2]) ∧ 0 ≤ d ∧ Kd.C (Kd.int .u8) w' B ([] : List Int).length [] ∧ Below W.heap.size W w') := HTK.out
  replace HTK := Aside0.mk htk
  clear htk
  have hqt : ∀ W, Below w.heap.size w W → Calls Try.prog 50 #[.slice A1 n1 c1] W (fun e w' => ∃ B d, e = .returned (.tuple #[.agg #[.int .i64 k2, .int .i64 now2, .int .i64 fr2, .slice B n2 d], .int .i64 q]) ∧ n2 ≤ d ∧ Kd.C (Kd.int .u8) w' B l2.length l2 ∧ Below W.heap.size W w') := by rw [← hn2]; exact HQT.out
  replace HQT := Aside0.mk hqt
  clear hqt
  have hg1 : decide (2000 < (n : Int)) = false := decide_eq_false (by omega)
  have hg2 : decide (2000 < (n1 : Int)) = false := decide_eq_false (by omega)
  have hq0 : decide (0 ≤ q) = false := decide_eq_false (by omega)
  have hu79 := Try.underlying79
  have HL := Aside0.mk hl
  have HNN := Aside0.mk hn
  have HL2 := Aside0.mk hl2
  clear hr hr1 hm hq hqe hev hlen hby1 hl1 hl2 hn2 hm1
  go_enter Try.func9, Try.ntmps9
  go_wp2_with (first
    | (go_at_call 45; (with_reducible refine (recall_awake_calls _).mono ?_); rintro e w1 ⟨rfl, hb⟩; have HE1 := Aside0.mk (HE0.out.below hb); have HB1 := Aside0.mk (below_then HB0.out HB0.out.size hb); obtain ⟨-, p0, p1, p2, p3, -⟩ := HE1.out; clear hb)
    | (go_at_call 46; (with_reducible refine (HP.out _ HB1.out).mono ?_); rintro e w2 ⟨X, dx, rfl, hd, hC, hb⟩; have HE2 := Aside0.mk (HE1.out.below hb); have HB2 := Aside0.mk (below_then HB1.out HB1.out.size hb); have HX := Aside0.mk hC; have HD := Aside0.mk hd; clear p0 p1 p2 p3; obtain ⟨-, p0, p1, p2, p3, -⟩ := HE2.out; clear hb hC hd)
    | (go_at_call 47; (with_reducible refine (HMY.out _ HB2.out).mono ?_); rintro e w3 ⟨rfl, hb⟩; have HE3 := Aside0.mk (HE2.out.below hb); have HB3 := Aside0.mk (below_then HB2.out HB2.out.size hb); have HX3 := Aside0.mk (Kd.C_below HX.out hb); clear p0 p1 p2 p3; obtain ⟨-, p0, p1, p2, p3, -⟩ := HE3.out; clear hb)
    | (go_at_call 48; (with_reducible refine (HRP.out _ HB3.out).mono ?_); rintro e w4 ⟨Y, dy, rfl, hd, hC, hb⟩; have HE4 := Aside0.mk (HE3.out.below hb); have HB4 := Aside0.mk (below_then HB3.out HB3.out.size hb); have HX4 := Aside0.mk (Kd.C_below HX3.out hb); have HY := Aside0.mk hC; have HDY := Aside0.mk hd; clear p0 p1 p2 p3; obtain ⟨-, p0, p1, p2, p3, -⟩ := HE4.out; clear hb hC hd)
    | (go_at_call 37; (with_reducible refine (bsame_calls X Q.length dx Q rfl Y Q.length dy Q rfl _ HX4.out HD.out HY.out HDY.out HQL.out).mono ?_); rintro e w5 ⟨rfl, hb⟩; have hqq : decide (Q = Q) = true := decide_eq_true rfl; have HE5 := Aside0.mk (HE4.out.below hb); have HB5 := Aside0.mk (below_then HB4.out HB4.out.size hb); clear p0 p1 p2 p3; obtain ⟨-, p0, p1, p2, p3, -⟩ := HE5.out; clear hb)
    | (go_at_call 49; (with_reducible refine (HTK.out _ HB5.out).mono ?_); rintro e w6 ⟨B, d, rfl, hd, hC, hb⟩; have HE6 := Aside0.mk (EvAt.new w6 0 0 0 (.slice B 0 d)); have HB6 := Aside0.mk (below_alloc (below_then HB5.out HB5.out.size hb) (.cells #[.int .i64 0, .int .i64 0, .int .i64 0, .slice B 0 d] 79)); have HC6 := Aside0.mk (Kd.C_alloc hC (.cells #[.int .i64 0, .int .i64 0, .int .i64 0, .slice B 0 d] 79)); have HD6 := Aside0.mk hd; clear hb hC hd)
    | (go_at_call 50; (with_reducible refine (HQT.out _ HB6.out).mono ?_); rintro e w7 ⟨B2, d2, rfl, hd, hC, hb⟩; have HE7 := Aside0.mk ((HE6.out.below hb).below (below_alloc (Below.refl _ _) (.cells #[.int .i64 k2, .int .i64 now2, .int .i64 fr2, .slice B2 n2 d2] 79))); have HF7 := Aside0.mk (EvAt.new w7 k2 now2 fr2 (.slice B2 n2 d2)); have HB7 := Aside0.mk (below_alloc (below_then HB6.out HB6.out.size hb) (.cells #[.int .i64 k2, .int .i64 now2, .int .i64 fr2, .slice B2 n2 d2] 79)); have HC7 := Aside0.mk (Kd.C_alloc (Kd.C_below HC6.out hb) (.cells #[.int .i64 k2, .int .i64 now2, .int .i64 fr2, .slice B2 n2 d2] 79)); have HG7 := Aside0.mk (Kd.C_alloc hC (.cells #[.int .i64 k2, .int .i64 now2, .int .i64 fr2, .slice B2 n2 d2] 79)); have HDG := Aside0.mk hd; obtain ⟨-, y0, y1, y2, y3, -⟩ := HE7.out; clear hb hC hd)
    | (go_at_call 51; (with_reducible refine (esame_calls 0 0 0 B 0 d [] rfl 0 0 0 none 0 0 [] rfl (Nat.zero_le _) _ HC7.out (Nat.zero_le _) (Kd.C_nil _ _) (Nat.zero_le _)).mono ?_); rintro e w8 ⟨rfl, hb⟩; have hze : decide ((0 : Int) = 0 ∧ (0 : Int) = 0 ∧ (0 : Int) = 0 ∧ ([] : List Int) = []) = true := decide_eq_true ⟨rfl, rfl, rfl, rfl⟩; have HE8 := Aside0.mk (HE7.out.below hb); have HF8 := Aside0.mk (HF7.out.below hb); have HB8 := Aside0.mk (below_then HB7.out HB7.out.size hb); have HC8 := Aside0.mk (Kd.C_below HC7.out hb); have HG8 := Aside0.mk (Kd.C_below HG7.out hb); obtain ⟨-, g0, g1, g2, g3, -⟩ := HE8.out; obtain ⟨-, h0, h1, h2, h3, -⟩ := HF8.out; clear hb)
    | (go_at_call 47; (with_reducible refine (HM2.out B2 d2 w8 HG8.out HDG.out).mono ?_); rintro e w9 ⟨rfl, hb⟩; have HB9 := Aside0.mk (below_then HB8.out HB8.out.size hb); clear hb)
    | fail)
  go_ret
  exact ⟨rfl, HB9.out⟩
set_option maxHeartbeats 6400000 in
set_option maxRecDepth 100000 in
theorem bytes_y_ok (k now fr : Int) (A : Option Addr) (n c : Nat) (l : List Int) (hl : l.length = n) (hc : n ≤ c) (hn : n ≤ 2000) (hbn : -9223372036854775808 ≤ now ∧ now ≤ 9223372036854775807) (hbf : -9223372036854775808 ≤ fr ∧ fr ≤ 9223372036854775807)
    (A1 : Option Addr) (n1 c1 : Nat) (l1 : List Int) (hl1 : l1.length = n1) (hc1 : n1 ≤ c1) (hn1 : n1 ≤ 2000) (hby1 : By l1) (w : World) (hr : Kd.C (Kd.int .u8) w A l.length l) (hr1 : Kd.C (Kd.int .u8) w A1 l1.length l1) (hm : mayb k now fr l = true) (hq : rdq l1 < 0) (hm1 : mayb (rdev l1).1.1 (rdev l1).1.2.1 (rdev l1).1.2.2.1 (rdev l1).1.2.2.2 = true) :
    Calls Try.prog 9 #[.agg #[.int .i64 k, .int .i64 now, .int .i64 fr, .slice A n c], .slice A1 n1 c1] w (fun e w' => e = .returned (.bool true) ∧ Below w.heap.size w w') := by
  have hlen := rdev_len l1
  have HE0 := Aside0.mk (EvAt.new w k now fr (.slice A n c))
  have HB0 := Aside0.mk (below_alloc (Below.refl w.heap.size w) (.cells #[.int .i64 k, .int .i64 now, .int .i64 fr, .slice A n c] 79))
  have HR := Aside0.mk (fun W (hb : Below w.heap.size w W) => Kd.C_below hr hb)
  have HR1 := Aside0.mk (fun W (hb : Below w.heap.size w W) => Kd.C_below hr1 hb)
  have hp := fun W (hb : Below w.heap.size w W) => rput_calls k now fr A n c l hl hc (by omega) W (Kd.C_below hr hb) hbn hbf
  simp only [hm, if_true] at hp
  have HP := Aside0.mk hp
  clear hp
  have HMY := Aside0.mk (fun W (hb : Below w.heap.size w W) => cleromancyref32_May.calls k now fr A c l true W (Kd.C_below hr hb) (by omega) (by rw [refmay_is, hm]))
  rw [hl] at HMY
  obtain ⟨Q, hQ⟩ : ∃ Q, putb k now fr l = Q := ⟨_, rfl⟩
  have HRP := Aside0.mk (fun W (hb : Below w.heap.size w W) => refput_calls k now fr A n c l hl hc (by omega) W (Kd.C_below hr hb) hbn hbf)
  rw [hQ] at HP HRP
  have HQL : Aside0 (Q.length ≤ 1000000) := ⟨by rw [← hQ]; unfold putb; split <;> simp only [List.length_append, bes_len] <;> omega⟩
  clear hQ
  have HQT := Aside0.mk (fun W (hb : Below w.heap.size w W) => qtake_calls A1 n1 c1 (by omega) hc1 l1 hl1 hby1 W (Kd.C_below hr1 hb))
  have HTK := Aside0.mk (fun W (hb : Below w.heap.size w W) => rtake_ok A1 n1 c1 (by omega) hc1 l1 hl1 hby1 W (Kd.C_below hr1 hb) hq hm1)
  obtain ⟨q, hqe⟩ : ∃ q, rdq l1 = q := ⟨_, rfl⟩
  rw [hqe] at HQT hq
  obtain ⟨⟨⟨k2, now2, fr2, l2⟩, x1, x2⟩, hev⟩ : ∃ r, rdev l1 = r := ⟨_, rfl⟩
  rw [hev] at HQT hlen hm1 HTK
  have hl2 : l2.length ≤ 2000 := by have h : l2.length ≤ l1.length := hlen; omega
  obtain ⟨n2, hn2⟩ : ∃ m, l2.length = m := ⟨_, rfl⟩
  have HN2 := Aside0.mk hn2
  have hM2 : ∀ (B : Option Addr) (d : Nat) (W : World), Kd.C (Kd.int .u8) W B l2.length l2 → n2 ≤ d → Calls Try.prog 47 #[.agg #[.int .i64 k2, .int .i64 now2, .int .i64 fr2, .slice B n2 d]] W (fun e w' => e = .returned (.bool true) ∧ Below W.heap.size W w') := by rw [← hn2]; exact fun B d W hC hd => cleromancyref32_May.calls k2 now2 fr2 B d l2 true W hC hd (by rw [refmay_is]; exact congrArg some hm1)
  have HM2 := Aside0.mk hM2
  clear hM2
  have htk : ∀ W, Below w.heap.size w W → Calls Try.prog 49 #[.slice A1 n1 c1] W (fun e w' => ∃ B d, e = .returned (.tuple #[.agg #[.int .i64 k2, .int .i64 now2, .int .i64 fr2, .slice B n2 d], .int .i64 0, .int .i64 0]) ∧ n2 ≤ d ∧ Kd.C (Kd.int .u8) w' B l2.length l2 ∧ Below W.heap.size W w') := by rw [← hn2]; exact HTK.out
  replace HTK := Aside0.mk htk
  clear htk
  have hqt : ∀ W, Below w.heap.size w W → Calls Try.prog 50 #[.slice A1 n1 c1] W (fun e w' => ∃ B d, e = .returned (.tuple #[.agg #[.int .i64 k2, .int .i64 now2, .int .i64 fr2, .slice B n2 d], .int .i64 q]) ∧ n2 ≤ d ∧ Kd.C (Kd.int .u8) w' B l2.length l2 ∧ Below W.heap.size W w') := by rw [← hn2]; exact HQT.out
  replace HQT := Aside0.mk hqt
  clear hqt
  have hg1 : decide (2000 < (n : Int)) = false := decide_eq_false (by omega)
  have hg2 : decide (2000 < (n1 : Int)) = false := decide_eq_false (by omega)
  have hq0 : decide (0 ≤ q) = false := decide_eq_false (by omega)
  have hu79 := Try.underlying79
  have HL := Aside0.mk hl
  have HNN := Aside0.mk hn
  have HL2 := Aside0.mk hl2
  clear hr hr1 hm hq hqe hev hlen hby1 hl1 hl2 hn2 hm1
  go_enter Try.func9, Try.ntmps9
  go_wp2_with (first
    | (go_at_call 45; (with_reducible refine (recall_awake_calls _).mono ?_); rintro e w1 ⟨rfl, hb⟩; have HE1 := Aside0.mk (HE0.out.below hb); have HB1 := Aside0.mk (below_then HB0.out HB0.out.size hb); obtain ⟨-, p0, p1, p2, p3, -⟩ := HE1.out; clear hb)
    | (go_at_call 46; (with_reducible refine (HP.out _ HB1.out).mono ?_); rintro e w2 ⟨X, dx, rfl, hd, hC, hb⟩; have HE2 := Aside0.mk (HE1.out.below hb); have HB2 := Aside0.mk (below_then HB1.out HB1.out.size hb); have HX := Aside0.mk hC; have HD := Aside0.mk hd; clear p0 p1 p2 p3; obtain ⟨-, p0, p1, p2, p3, -⟩ := HE2.out; clear hb hC hd)
    | (go_at_call 47; (with_reducible refine (HMY.out _ HB2.out).mono ?_); rintro e w3 ⟨rfl, hb⟩; have HE3 := Aside0.mk (HE2.out.below hb); have HB3 := Aside0.mk (below_then HB2.out HB2.out.size hb); have HX3 := Aside0.mk (Kd.C_below HX.out hb); clear p0 p1 p2 p3; obtain ⟨-, p0, p1, p2, p3, -⟩ := HE3.out; clear hb)
    | (go_at_call 48; (with_reducible refine (HRP.out _ HB3.out).mono ?_); rintro e w4 ⟨Y, dy, rfl, hd, hC, hb⟩; have HE4 := Aside0.mk (HE3.out.below hb); have HB4 := Aside0.mk (below_then HB3.out HB3.out.size hb); have HX4 := Aside0.mk (Kd.C_below HX3.out hb); have HY := Aside0.mk hC; have HDY := Aside0.mk hd; clear p0 p1 p2 p3; obtain ⟨-, p0, p1, p2, p3, -⟩ := HE4.out; clear hb hC hd)
    | (go_at_call 37; (with_reducible refine (bsame_calls X Q.length dx Q rfl Y Q.length dy Q rfl _ HX4.out HD.out HY.out HDY.out HQL.out).mono ?_); rintro e w5 ⟨rfl, hb⟩; have hqq : decide (Q = Q) = true := decide_eq_true rfl; have HE5 := Aside0.mk (HE4.out.below hb); have HB5 := Aside0.mk (below_then HB4.out HB4.out.size hb); clear p0 p1 p2 p3; obtain ⟨-, p0, p1, p2, p3, -⟩ := HE5.out; clear hb)
    | (go_at_call 49; (with_reducible refine (HTK.out _ HB5.out).mono ?_); rintro e w6 ⟨B, d, rfl, hd, hC, hb⟩; have HE6 := Aside0.mk (EvAt.new w6 k2 now2 fr2 (.slice B n2 d)); have HB6 := Aside0.mk (below_alloc (below_then HB5.out HB5.out.size hb) (.cells #[.int .i64 k2, .int .i64 now2, .int .i64 fr2, .slice B n2 d] 79)); have HC6 := Aside0.mk (Kd.C_alloc hC (.cells #[.int .i64 k2, .int .i64 now2, .int .i64 fr2, .slice B n2 d] 79)); have HD6 := Aside0.mk hd; clear hb hC hd)
    | (go_at_call 50; (with_reducible refine (HQT.out _ HB6.out).mono ?_); rintro e w7 ⟨B2, d2, rfl, hd, hC, hb⟩; have HE7 := Aside0.mk ((HE6.out.below hb).below (below_alloc (Below.refl _ _) (.cells #[.int .i64 k2, .int .i64 now2, .int .i64 fr2, .slice B2 n2 d2] 79))); have HF7 := Aside0.mk (EvAt.new w7 k2 now2 fr2 (.slice B2 n2 d2)); have HB7 := Aside0.mk (below_alloc (below_then HB6.out HB6.out.size hb) (.cells #[.int .i64 k2, .int .i64 now2, .int .i64 fr2, .slice B2 n2 d2] 79)); have HC7 := Aside0.mk (Kd.C_alloc (Kd.C_below HC6.out hb) (.cells #[.int .i64 k2, .int .i64 now2, .int .i64 fr2, .slice B2 n2 d2] 79)); have HG7 := Aside0.mk (Kd.C_alloc hC (.cells #[.int .i64 k2, .int .i64 now2, .int .i64 fr2, .slice B2 n2 d2] 79)); have HDG := Aside0.mk hd; obtain ⟨-, y0, y1, y2, y3, -⟩ := HE7.out; clear hb hC hd)
    | (go_at_call 51; (with_reducible refine (esame_calls k2 now2 fr2 B n2 d l2 HN2.out k2 now2 fr2 B2 n2 d2 l2 HN2.out (Nat.le_trans (HN2.out ▸ HL2.out) (by omega)) _ HC9.out HD6.out HG9.out HDG.out).mono ?_); rintro e w10 ⟨rfl, hb⟩; have hse : decide (k2 = k2 ∧ now2 = now2 ∧ fr2 = fr2 ∧ l2 = l2) = true := decide_eq_true ⟨rfl, rfl, rfl, rfl⟩; have HB10 := Aside0.mk (below_then HB9.out HB9.out.size hb); clear hb)
    | (go_at_call 51; (with_reducible refine (esame_calls k2 now2 fr2 B n2 d l2 HN2.out 0 0 0 none 0 0 [] rfl (Nat.le_trans (HN2.out ▸ HL2.out) (by omega)) _ HC7.out HD6.out (Kd.C_nil _ _) (Nat.zero_le _)).mono ?_); rintro e w8 ⟨rfl, hb⟩; have HE8 := Aside0.mk (HE7.out.below hb); have HF8 := Aside0.mk (HF7.out.below hb); have HB8 := Aside0.mk (below_then HB7.out HB7.out.size hb); have HC8 := Aside0.mk (Kd.C_below HC7.out hb); have HG8 := Aside0.mk (Kd.C_below HG7.out hb); obtain ⟨-, g0, g1, g2, g3, -⟩ := HE8.out; obtain ⟨-, h0, h1, h2, h3, -⟩ := HF8.out; clear hb)
    | (go_at_call 47; (with_reducible refine (HM2.out B2 d2 w8 HG8.out HDG.out).mono ?_); rintro e w9 ⟨rfl, hb⟩; have HB9 := Aside0.mk (below_then HB8.out HB8.out.size hb); have HE9 := Aside0.mk (HE8.out.below hb); have HF9 := Aside0.mk (HF8.out.below hb); have HC9 := Aside0.mk (Kd.C_below HC8.out hb); have HG9 := Aside0.mk (Kd.C_below HG8.out hb); obtain ⟨-, i0, i1, i2, i3, -⟩ := HE9.out; obtain ⟨-, j0, j1, j2, j3, -⟩ := HF9.out; clear hb)
    | fail)
  go_ret
  exact ⟨rfl, HB10.out⟩
set_option maxHeartbeats 6400000 in
set_option maxRecDepth 100000 in
theorem bytes_n_bad (k now fr : Int) (A : Option Addr) (n c : Nat) (l : List Int) (hl : l.length = n) (hc : n ≤ c) (hn : n ≤ 2000) (hbn : -9223372036854775808 ≤ now ∧ now ≤ 9223372036854775807) (hbf : -9223372036854775808 ≤ fr ∧ fr ≤ 9223372036854775807)
    (A1 : Option Addr) (n1 c1 : Nat) (l1 : List Int) (hl1 : l1.length = n1) (hc1 : n1 ≤ c1) (hn1 : n1 ≤ 2000) (hby1 : By l1) (w : World) (hr : Kd.C (Kd.int .u8) w A l.length l) (hr1 : Kd.C (Kd.int .u8) w A1 l1.length l1) (hm : mayb k now fr l = false) (hq : 0 ≤ rdq l1) :
    Calls Try.prog 9 #[.agg #[.int .i64 k, .int .i64 now, .int .i64 fr, .slice A n c], .slice A1 n1 c1] w (fun e w' => e = .returned (.bool true) ∧ Below w.heap.size w w') := by
  have hlen := rdev_len l1
  have HE0 := Aside0.mk (EvAt.new w k now fr (.slice A n c))
  have HB0 := Aside0.mk (below_alloc (Below.refl w.heap.size w) (.cells #[.int .i64 k, .int .i64 now, .int .i64 fr, .slice A n c] 79))
  have HR := Aside0.mk (fun W (hb : Below w.heap.size w W) => Kd.C_below hr hb)
  have HR1 := Aside0.mk (fun W (hb : Below w.heap.size w W) => Kd.C_below hr1 hb)
  have hp := fun W (hb : Below w.heap.size w W) => rput_calls k now fr A n c l hl hc (by omega) W (Kd.C_below hr hb) hbn hbf
  simp only [hm, Bool.false_eq_true, if_false] at hp
  have HP := Aside0.mk hp
  clear hp
  have HMY := Aside0.mk (fun W (hb : Below w.heap.size w W) => cleromancyref32_May.calls k now fr A c l false W (Kd.C_below hr hb) (by omega) (by rw [refmay_is, hm]))
  rw [hl] at HMY
  have HQT := Aside0.mk (fun W (hb : Below w.heap.size w W) => qtake_calls A1 n1 c1 (by omega) hc1 l1 hl1 hby1 W (Kd.C_below hr1 hb))
  have HTK := Aside0.mk (fun W (hb : Below w.heap.size w W) => rtake_bad A1 n1 c1 (by omega) hc1 l1 hl1 hby1 W (Kd.C_below hr1 hb) hq)
  obtain ⟨q, hqe⟩ : ∃ q, rdq l1 = q := ⟨_, rfl⟩
  rw [hqe] at HQT HTK hq
  obtain ⟨⟨⟨k2, now2, fr2, l2⟩, x1, x2⟩, hev⟩ : ∃ r, rdev l1 = r := ⟨_, rfl⟩
  rw [hev] at HQT hlen
  have hl2 : l2.length ≤ 2000 := by have h : l2.length ≤ l1.length := hlen; omega
  obtain ⟨n2, hn2⟩ : ∃ m, l2.length = m := ⟨_, rfl⟩
  have HN2 := Aside0.mk hn2
  have htk : ∀ W, Below w.heap.size w W → Calls Try.prog 49 #[.slice A1 n1 c1] W (fun e w' => ∃ B d, e = .returned (.tuple #[.agg #[.int .i64 0, .int .i64 0, .int .i64 0, .slice B 0 d], .int .i64 q, .int .i64 20]) ∧ 0 ≤ d ∧ Kd.C (Kd.int .u8) w' B ([] : List Int).length [] ∧ Below W.heap.size W w') := HTK.out
  replace HTK := Aside0.mk htk
  clear htk
  have hqt : ∀ W, Below w.heap.size w W → Calls Try.prog 50 #[.slice A1 n1 c1] W (fun e w' => ∃ B d, e = .returned (.tuple #[.agg #[.int .i64 k2, .int .i64 now2, .int .i64 fr2, .slice B n2 d], .int .i64 q]) ∧ n2 ≤ d ∧ Kd.C (Kd.int .u8) w' B l2.length l2 ∧ Below W.heap.size W w') := by rw [← hn2]; exact HQT.out
  replace HQT := Aside0.mk hqt
  clear hqt
  have hg1 : decide (2000 < (n : Int)) = false := decide_eq_false (by omega)
  have hg2 : decide (2000 < (n1 : Int)) = false := decide_eq_false (by omega)
  have hq0 : decide (0 ≤ q) = true := decide_eq_true hq
  have hu79 := Try.underlying79
  have HL := Aside0.mk hl
  have HNN := Aside0.mk hn
  have HL2 := Aside0.mk hl2
  clear hr hr1 hm hq hqe hev hlen hby1 hl1 hl2 hn2
  go_enter Try.func9, Try.ntmps9
  go_wp2_with (first
    | (go_at_call 45; (with_reducible refine (recall_awake_calls _).mono ?_); rintro e w1 ⟨rfl, hb⟩; have HE1 := Aside0.mk (HE0.out.below hb); have HB1 := Aside0.mk (below_then HB0.out HB0.out.size hb); obtain ⟨-, p0, p1, p2, p3, -⟩ := HE1.out; clear hb)
    | (go_at_call 46; (with_reducible refine (HP.out _ HB1.out).mono ?_); rintro e w2 ⟨X, dx, rfl, hd, hC, hb⟩; have HE2 := Aside0.mk (HE1.out.below hb); have HB2 := Aside0.mk (below_then HB1.out HB1.out.size hb); have HX := Aside0.mk hC; have HD := Aside0.mk hd; clear p0 p1 p2 p3; obtain ⟨-, p0, p1, p2, p3, -⟩ := HE2.out; clear hb hC hd)
    | (go_at_call 47; (with_reducible refine (HMY.out _ HB2.out).mono ?_); rintro e w3 ⟨rfl, hb⟩; have HE3 := Aside0.mk (HE2.out.below hb); have HB3 := Aside0.mk (below_then HB2.out HB2.out.size hb); have HX3 := Aside0.mk (Kd.C_below HX.out hb); clear p0 p1 p2 p3; obtain ⟨-, p0, p1, p2, p3, -⟩ := HE3.out; clear hb)
    | (go_at_call 49; (with_reducible refine (HTK.out _ HB3.out).mono ?_); rintro e w6 ⟨B, d, rfl, hd, hC, hb⟩; have HE6 := Aside0.mk (EvAt.new w6 0 0 0 (.slice B 0 d)); have HB6 := Aside0.mk (below_alloc (below_then HB3.out HB3.out.size hb) (.cells #[.int .i64 0, .int .i64 0, .int .i64 0, .slice B 0 d] 79)); have HC6 := Aside0.mk (Kd.C_alloc hC (.cells #[.int .i64 0, .int .i64 0, .int .i64 0, .slice B 0 d] 79)); have HD6 := Aside0.mk hd; clear hb hC hd)
    | (go_at_call 50; (with_reducible refine (HQT.out _ HB6.out).mono ?_); rintro e w7 ⟨B2, d2, rfl, hd, hC, hb⟩; have HE7 := Aside0.mk ((HE6.out.below hb).below (below_alloc (Below.refl _ _) (.cells #[.int .i64 k2, .int .i64 now2, .int .i64 fr2, .slice B2 n2 d2] 79))); have HF7 := Aside0.mk (EvAt.new w7 k2 now2 fr2 (.slice B2 n2 d2)); have HB7 := Aside0.mk (below_alloc (below_then HB6.out HB6.out.size hb) (.cells #[.int .i64 k2, .int .i64 now2, .int .i64 fr2, .slice B2 n2 d2] 79)); have HC7 := Aside0.mk (Kd.C_alloc (Kd.C_below HC6.out hb) (.cells #[.int .i64 k2, .int .i64 now2, .int .i64 fr2, .slice B2 n2 d2] 79)); have HG7 := Aside0.mk (Kd.C_alloc hC (.cells #[.int .i64 k2, .int .i64 now2, .int .i64 fr2, .slice B2 n2 d2] 79)); have HDG := Aside0.mk hd; obtain ⟨-, y0, y1, y2, y3, -⟩ := HE7.out; clear hb hC hd)
    | (go_at_call 51; (with_reducible refine (esame_calls 0 0 0 B 0 d [] rfl 0 0 0 none 0 0 [] rfl (Nat.zero_le _) _ HC7.out (Nat.zero_le _) (Kd.C_nil _ _) (Nat.zero_le _)).mono ?_); rintro e w8 ⟨rfl, hb⟩; have hze : decide ((0 : Int) = 0 ∧ (0 : Int) = 0 ∧ (0 : Int) = 0 ∧ ([] : List Int) = []) = true := decide_eq_true ⟨rfl, rfl, rfl, rfl⟩; have HE8 := Aside0.mk (HE7.out.below hb); have HF8 := Aside0.mk (HF7.out.below hb); have HB8 := Aside0.mk (below_then HB7.out HB7.out.size hb); have HC8 := Aside0.mk (Kd.C_below HC7.out hb); have HG8 := Aside0.mk (Kd.C_below HG7.out hb); obtain ⟨-, g0, g1, g2, g3, -⟩ := HE8.out; obtain ⟨-, h0, h1, h2, h3, -⟩ := HF8.out; clear hb)
    | fail)
  go_ret
  exact ⟨rfl, HB8.out⟩
set_option maxHeartbeats 6400000 in
set_option maxRecDepth 100000 in
theorem bytes_n_no (k now fr : Int) (A : Option Addr) (n c : Nat) (l : List Int) (hl : l.length = n) (hc : n ≤ c) (hn : n ≤ 2000) (hbn : -9223372036854775808 ≤ now ∧ now ≤ 9223372036854775807) (hbf : -9223372036854775808 ≤ fr ∧ fr ≤ 9223372036854775807)
    (A1 : Option Addr) (n1 c1 : Nat) (l1 : List Int) (hl1 : l1.length = n1) (hc1 : n1 ≤ c1) (hn1 : n1 ≤ 2000) (hby1 : By l1) (w : World) (hr : Kd.C (Kd.int .u8) w A l.length l) (hr1 : Kd.C (Kd.int .u8) w A1 l1.length l1) (hm : mayb k now fr l = false) (hq : rdq l1 < 0) (hm1 : mayb (rdev l1).1.1 (rdev l1).1.2.1 (rdev l1).1.2.2.1 (rdev l1).1.2.2.2 = false) :
    Calls Try.prog 9 #[.agg #[.int .i64 k, .int .i64 now, .int .i64 fr, .slice A n c], .slice A1 n1 c1] w (fun e w' => e = .returned (.bool true) ∧ Below w.heap.size w w') := by
  have hlen := rdev_len l1
  have HE0 := Aside0.mk (EvAt.new w k now fr (.slice A n c))
  have HB0 := Aside0.mk (below_alloc (Below.refl w.heap.size w) (.cells #[.int .i64 k, .int .i64 now, .int .i64 fr, .slice A n c] 79))
  have HR := Aside0.mk (fun W (hb : Below w.heap.size w W) => Kd.C_below hr hb)
  have HR1 := Aside0.mk (fun W (hb : Below w.heap.size w W) => Kd.C_below hr1 hb)
  have hp := fun W (hb : Below w.heap.size w W) => rput_calls k now fr A n c l hl hc (by omega) W (Kd.C_below hr hb) hbn hbf
  simp only [hm, Bool.false_eq_true, if_false] at hp
  have HP := Aside0.mk hp
  clear hp
  have HMY := Aside0.mk (fun W (hb : Below w.heap.size w W) => cleromancyref32_May.calls k now fr A c l false W (Kd.C_below hr hb) (by omega) (by rw [refmay_is, hm]))
  rw [hl] at HMY
  have HQT := Aside0.mk (fun W (hb : Below w.heap.size w W) => qtake_calls A1 n1 c1 (by omega) hc1 l1 hl1 hby1 W (Kd.C_below hr1 hb))
  have HTK := Aside0.mk (fun W (hb : Below w.heap.size w W) => rtake_no A1 n1 c1 (by omega) hc1 l1 hl1 hby1 W (Kd.C_below hr1 hb) hq hm1)
  obtain ⟨q, hqe⟩ : ∃ q, rdq l1 = q := ⟨_, rfl⟩
  rw [hqe] at HQT hq
  obtain ⟨⟨⟨k2, now2, fr2, l2⟩, x1, x2⟩, hev⟩ : ∃ r, rdev l1 = r := ⟨_, rfl⟩
  rw [hev] at HQT hlen hm1
  have hl2 : l2.length ≤ 2000 := by have h : l2.length ≤ l1.length := hlen; omega
  obtain ⟨n2, hn2⟩ : ∃ m, l2.length = m := ⟨_, rfl⟩
  have HN2 := Aside0.mk hn2
  have hM2 : ∀ (B : Option Addr) (d : Nat) (W : World), Kd.C (Kd.int .u8) W B l2.length l2 → n2 ≤ d → Calls Try.prog 47 #[.agg #[.int .i64 k2, .int .i64 now2, .int .i64 fr2, .slice B n2 d]] W (fun e w' => e = .returned (.bool false) ∧ Below W.heap.size W w') := by rw [← hn2]; exact fun B d W hC hd => cleromancyref32_May.calls k2 now2 fr2 B d l2 false W hC hd (by rw [refmay_is]; exact congrArg some hm1)
  have HM2 := Aside0.mk hM2
  clear hM2
  have htk : ∀ W, Below w.heap.size w W → Calls Try.prog 49 #[.slice A1 n1 c1] W (fun e w' => ∃ B d, e = .returned (.tuple #[.agg #[.int .i64 0, .int .i64 0, .int .i64 0, .slice B 0 d], .int .i64 0, .int .i64 2]) ∧ 0 ≤ d ∧ Kd.C (Kd.int .u8) w' B ([] : List Int).length [] ∧ Below W.heap.size W w') := HTK.out
  replace HTK := Aside0.mk htk
  clear htk
  have hqt : ∀ W, Below w.heap.size w W → Calls Try.prog 50 #[.slice A1 n1 c1] W (fun e w' => ∃ B d, e = .returned (.tuple #[.agg #[.int .i64 k2, .int .i64 now2, .int .i64 fr2, .slice B n2 d], .int .i64 q]) ∧ n2 ≤ d ∧ Kd.C (Kd.int .u8) w' B l2.length l2 ∧ Below W.heap.size W w') := by rw [← hn2]; exact HQT.out
  replace HQT := Aside0.mk hqt
  clear hqt
  have hg1 : decide (2000 < (n : Int)) = false := decide_eq_false (by omega)
  have hg2 : decide (2000 < (n1 : Int)) = false := decide_eq_false (by omega)
  have hq0 : decide (0 ≤ q) = false := decide_eq_false (by omega)
  have hu79 := Try.underlying79
  have HL := Aside0.mk hl
  have HNN := Aside0.mk hn
  have HL2 := Aside0.mk hl2
  clear hr hr1 hm hq hqe hev hlen hby1 hl1 hl2 hn2 hm1
  go_enter Try.func9, Try.ntmps9
  go_wp2_with (first
    | (go_at_call 45; (with_reducible refine (recall_awake_calls _).mono ?_); rintro e w1 ⟨rfl, hb⟩; have HE1 := Aside0.mk (HE0.out.below hb); have HB1 := Aside0.mk (below_then HB0.out HB0.out.size hb); obtain ⟨-, p0, p1, p2, p3, -⟩ := HE1.out; clear hb)
    | (go_at_call 46; (with_reducible refine (HP.out _ HB1.out).mono ?_); rintro e w2 ⟨X, dx, rfl, hd, hC, hb⟩; have HE2 := Aside0.mk (HE1.out.below hb); have HB2 := Aside0.mk (below_then HB1.out HB1.out.size hb); have HX := Aside0.mk hC; have HD := Aside0.mk hd; clear p0 p1 p2 p3; obtain ⟨-, p0, p1, p2, p3, -⟩ := HE2.out; clear hb hC hd)
    | (go_at_call 47; (with_reducible refine (HMY.out _ HB2.out).mono ?_); rintro e w3 ⟨rfl, hb⟩; have HE3 := Aside0.mk (HE2.out.below hb); have HB3 := Aside0.mk (below_then HB2.out HB2.out.size hb); have HX3 := Aside0.mk (Kd.C_below HX.out hb); clear p0 p1 p2 p3; obtain ⟨-, p0, p1, p2, p3, -⟩ := HE3.out; clear hb)
    | (go_at_call 49; (with_reducible refine (HTK.out _ HB3.out).mono ?_); rintro e w6 ⟨B, d, rfl, hd, hC, hb⟩; have HE6 := Aside0.mk (EvAt.new w6 0 0 0 (.slice B 0 d)); have HB6 := Aside0.mk (below_alloc (below_then HB3.out HB3.out.size hb) (.cells #[.int .i64 0, .int .i64 0, .int .i64 0, .slice B 0 d] 79)); have HC6 := Aside0.mk (Kd.C_alloc hC (.cells #[.int .i64 0, .int .i64 0, .int .i64 0, .slice B 0 d] 79)); have HD6 := Aside0.mk hd; clear hb hC hd)
    | (go_at_call 50; (with_reducible refine (HQT.out _ HB6.out).mono ?_); rintro e w7 ⟨B2, d2, rfl, hd, hC, hb⟩; have HE7 := Aside0.mk ((HE6.out.below hb).below (below_alloc (Below.refl _ _) (.cells #[.int .i64 k2, .int .i64 now2, .int .i64 fr2, .slice B2 n2 d2] 79))); have HF7 := Aside0.mk (EvAt.new w7 k2 now2 fr2 (.slice B2 n2 d2)); have HB7 := Aside0.mk (below_alloc (below_then HB6.out HB6.out.size hb) (.cells #[.int .i64 k2, .int .i64 now2, .int .i64 fr2, .slice B2 n2 d2] 79)); have HC7 := Aside0.mk (Kd.C_alloc (Kd.C_below HC6.out hb) (.cells #[.int .i64 k2, .int .i64 now2, .int .i64 fr2, .slice B2 n2 d2] 79)); have HG7 := Aside0.mk (Kd.C_alloc hC (.cells #[.int .i64 k2, .int .i64 now2, .int .i64 fr2, .slice B2 n2 d2] 79)); have HDG := Aside0.mk hd; obtain ⟨-, y0, y1, y2, y3, -⟩ := HE7.out; clear hb hC hd)
    | (go_at_call 51; (with_reducible refine (esame_calls 0 0 0 B 0 d [] rfl 0 0 0 none 0 0 [] rfl (Nat.zero_le _) _ HC7.out (Nat.zero_le _) (Kd.C_nil _ _) (Nat.zero_le _)).mono ?_); rintro e w8 ⟨rfl, hb⟩; have hze : decide ((0 : Int) = 0 ∧ (0 : Int) = 0 ∧ (0 : Int) = 0 ∧ ([] : List Int) = []) = true := decide_eq_true ⟨rfl, rfl, rfl, rfl⟩; have HE8 := Aside0.mk (HE7.out.below hb); have HF8 := Aside0.mk (HF7.out.below hb); have HB8 := Aside0.mk (below_then HB7.out HB7.out.size hb); have HC8 := Aside0.mk (Kd.C_below HC7.out hb); have HG8 := Aside0.mk (Kd.C_below HG7.out hb); obtain ⟨-, g0, g1, g2, g3, -⟩ := HE8.out; obtain ⟨-, h0, h1, h2, h3, -⟩ := HF8.out; clear hb)
    | (go_at_call 47; (with_reducible refine (HM2.out B2 d2 w8 HG8.out HDG.out).mono ?_); rintro e w9 ⟨rfl, hb⟩; have HB9 := Aside0.mk (below_then HB8.out HB8.out.size hb); clear hb)
    | fail)
  go_ret
  exact ⟨rfl, HB9.out⟩
set_option maxHeartbeats 6400000 in
set_option maxRecDepth 100000 in
theorem bytes_n_ok (k now fr : Int) (A : Option Addr) (n c : Nat) (l : List Int) (hl : l.length = n) (hc : n ≤ c) (hn : n ≤ 2000) (hbn : -9223372036854775808 ≤ now ∧ now ≤ 9223372036854775807) (hbf : -9223372036854775808 ≤ fr ∧ fr ≤ 9223372036854775807)
    (A1 : Option Addr) (n1 c1 : Nat) (l1 : List Int) (hl1 : l1.length = n1) (hc1 : n1 ≤ c1) (hn1 : n1 ≤ 2000) (hby1 : By l1) (w : World) (hr : Kd.C (Kd.int .u8) w A l.length l) (hr1 : Kd.C (Kd.int .u8) w A1 l1.length l1) (hm : mayb k now fr l = false) (hq : rdq l1 < 0) (hm1 : mayb (rdev l1).1.1 (rdev l1).1.2.1 (rdev l1).1.2.2.1 (rdev l1).1.2.2.2 = true) :
    Calls Try.prog 9 #[.agg #[.int .i64 k, .int .i64 now, .int .i64 fr, .slice A n c], .slice A1 n1 c1] w (fun e w' => e = .returned (.bool true) ∧ Below w.heap.size w w') := by
  have hlen := rdev_len l1
  have HE0 := Aside0.mk (EvAt.new w k now fr (.slice A n c))
  have HB0 := Aside0.mk (below_alloc (Below.refl w.heap.size w) (.cells #[.int .i64 k, .int .i64 now, .int .i64 fr, .slice A n c] 79))
  have HR := Aside0.mk (fun W (hb : Below w.heap.size w W) => Kd.C_below hr hb)
  have HR1 := Aside0.mk (fun W (hb : Below w.heap.size w W) => Kd.C_below hr1 hb)
  have hp := fun W (hb : Below w.heap.size w W) => rput_calls k now fr A n c l hl hc (by omega) W (Kd.C_below hr hb) hbn hbf
  simp only [hm, Bool.false_eq_true, if_false] at hp
  have HP := Aside0.mk hp
  clear hp
  have HMY := Aside0.mk (fun W (hb : Below w.heap.size w W) => cleromancyref32_May.calls k now fr A c l false W (Kd.C_below hr hb) (by omega) (by rw [refmay_is, hm]))
  rw [hl] at HMY
  have HQT := Aside0.mk (fun W (hb : Below w.heap.size w W) => qtake_calls A1 n1 c1 (by omega) hc1 l1 hl1 hby1 W (Kd.C_below hr1 hb))
  have HTK := Aside0.mk (fun W (hb : Below w.heap.size w W) => rtake_ok A1 n1 c1 (by omega) hc1 l1 hl1 hby1 W (Kd.C_below hr1 hb) hq hm1)
  obtain ⟨q, hqe⟩ : ∃ q, rdq l1 = q := ⟨_, rfl⟩
  rw [hqe] at HQT hq
  obtain ⟨⟨⟨k2, now2, fr2, l2⟩, x1, x2⟩, hev⟩ : ∃ r, rdev l1 = r := ⟨_, rfl⟩
  rw [hev] at HQT hlen hm1 HTK
  have hl2 : l2.length ≤ 2000 := by have h : l2.length ≤ l1.length := hlen; omega
  obtain ⟨n2, hn2⟩ : ∃ m, l2.length = m := ⟨_, rfl⟩
  have HN2 := Aside0.mk hn2
  have hM2 : ∀ (B : Option Addr) (d : Nat) (W : World), Kd.C (Kd.int .u8) W B l2.length l2 → n2 ≤ d → Calls Try.prog 47 #[.agg #[.int .i64 k2, .int .i64 now2, .int .i64 fr2, .slice B n2 d]] W (fun e w' => e = .returned (.bool true) ∧ Below W.heap.size W w') := by rw [← hn2]; exact fun B d W hC hd => cleromancyref32_May.calls k2 now2 fr2 B d l2 true W hC hd (by rw [refmay_is]; exact congrArg some hm1)
  have HM2 := Aside0.mk hM2
  clear hM2
  have htk : ∀ W, Below w.heap.size w W → Calls Try.prog 49 #[.slice A1 n1 c1] W (fun e w' => ∃ B d, e = .returned (.tuple #[.agg #[.int .i64 k2, .int .i64 now2, .int .i64 fr2, .slice B n2 d], .int .i64 0, .int .i64 0]) ∧ n2 ≤ d ∧ Kd.C (Kd.int .u8) w' B l2.length l2 ∧ Below W.heap.size W w') := by rw [← hn2]; exact HTK.out
  replace HTK := Aside0.mk htk
  clear htk
  have hqt : ∀ W, Below w.heap.size w W → Calls Try.prog 50 #[.slice A1 n1 c1] W (fun e w' => ∃ B d, e = .returned (.tuple #[.agg #[.int .i64 k2, .int .i64 now2, .int .i64 fr2, .slice B n2 d], .int .i64 q]) ∧ n2 ≤ d ∧ Kd.C (Kd.int .u8) w' B l2.length l2 ∧ Below W.heap.size W w') := by rw [← hn2]; exact HQT.out
  replace HQT := Aside0.mk hqt
  clear hqt
  have hg1 : decide (2000 < (n : Int)) = false := decide_eq_false (by omega)
  have hg2 : decide (2000 < (n1 : Int)) = false := decide_eq_false (by omega)
  have hq0 : decide (0 ≤ q) = false := decide_eq_false (by omega)
  have hu79 := Try.underlying79
  have HL := Aside0.mk hl
  have HNN := Aside0.mk hn
  have HL2 := Aside0.mk hl2
  clear hr hr1 hm hq hqe hev hlen hby1 hl1 hl2 hn2 hm1
  go_enter Try.func9, Try.ntmps9
  go_wp2_with (first
    | (go_at_call 45; (with_reducible refine (recall_awake_calls _).mono ?_); rintro e w1 ⟨rfl, hb⟩; have HE1 := Aside0.mk (HE0.out.below hb); have HB1 := Aside0.mk (below_then HB0.out HB0.out.size hb); obtain ⟨-, p0, p1, p2, p3, -⟩ := HE1.out; clear hb)
    | (go_at_call 46; (with_reducible refine (HP.out _ HB1.out).mono ?_); rintro e w2 ⟨X, dx, rfl, hd, hC, hb⟩; have HE2 := Aside0.mk (HE1.out.below hb); have HB2 := Aside0.mk (below_then HB1.out HB1.out.size hb); have HX := Aside0.mk hC; have HD := Aside0.mk hd; clear p0 p1 p2 p3; obtain ⟨-, p0, p1, p2, p3, -⟩ := HE2.out; clear hb hC hd)
    | (go_at_call 47; (with_reducible refine (HMY.out _ HB2.out).mono ?_); rintro e w3 ⟨rfl, hb⟩; have HE3 := Aside0.mk (HE2.out.below hb); have HB3 := Aside0.mk (below_then HB2.out HB2.out.size hb); have HX3 := Aside0.mk (Kd.C_below HX.out hb); clear p0 p1 p2 p3; obtain ⟨-, p0, p1, p2, p3, -⟩ := HE3.out; clear hb)
    | (go_at_call 49; (with_reducible refine (HTK.out _ HB3.out).mono ?_); rintro e w6 ⟨B, d, rfl, hd, hC, hb⟩; have HE6 := Aside0.mk (EvAt.new w6 k2 now2 fr2 (.slice B n2 d)); have HB6 := Aside0.mk (below_alloc (below_then HB3.out HB3.out.size hb) (.cells #[.int .i64 k2, .int .i64 now2, .int .i64 fr2, .slice B n2 d] 79)); have HC6 := Aside0.mk (Kd.C_alloc hC (.cells #[.int .i64 k2, .int .i64 now2, .int .i64 fr2, .slice B n2 d] 79)); have HD6 := Aside0.mk hd; clear hb hC hd)
    | (go_at_call 50; (with_reducible refine (HQT.out _ HB6.out).mono ?_); rintro e w7 ⟨B2, d2, rfl, hd, hC, hb⟩; have HE7 := Aside0.mk ((HE6.out.below hb).below (below_alloc (Below.refl _ _) (.cells #[.int .i64 k2, .int .i64 now2, .int .i64 fr2, .slice B2 n2 d2] 79))); have HF7 := Aside0.mk (EvAt.new w7 k2 now2 fr2 (.slice B2 n2 d2)); have HB7 := Aside0.mk (below_alloc (below_then HB6.out HB6.out.size hb) (.cells #[.int .i64 k2, .int .i64 now2, .int .i64 fr2, .slice B2 n2 d2] 79)); have HC7 := Aside0.mk (Kd.C_alloc (Kd.C_below HC6.out hb) (.cells #[.int .i64 k2, .int .i64 now2, .int .i64 fr2, .slice B2 n2 d2] 79)); have HG7 := Aside0.mk (Kd.C_alloc hC (.cells #[.int .i64 k2, .int .i64 now2, .int .i64 fr2, .slice B2 n2 d2] 79)); have HDG := Aside0.mk hd; obtain ⟨-, y0, y1, y2, y3, -⟩ := HE7.out; clear hb hC hd)
    | (go_at_call 51; (with_reducible refine (esame_calls k2 now2 fr2 B n2 d l2 HN2.out k2 now2 fr2 B2 n2 d2 l2 HN2.out (Nat.le_trans (HN2.out ▸ HL2.out) (by omega)) _ HC9.out HD6.out HG9.out HDG.out).mono ?_); rintro e w10 ⟨rfl, hb⟩; have hse : decide (k2 = k2 ∧ now2 = now2 ∧ fr2 = fr2 ∧ l2 = l2) = true := decide_eq_true ⟨rfl, rfl, rfl, rfl⟩; have HB10 := Aside0.mk (below_then HB9.out HB9.out.size hb); clear hb)
    | (go_at_call 51; (with_reducible refine (esame_calls k2 now2 fr2 B n2 d l2 HN2.out 0 0 0 none 0 0 [] rfl (Nat.le_trans (HN2.out ▸ HL2.out) (by omega)) _ HC7.out HD6.out (Kd.C_nil _ _) (Nat.zero_le _)).mono ?_); rintro e w8 ⟨rfl, hb⟩; have HE8 := Aside0.mk (HE7.out.below hb); have HF8 := Aside0.mk (HF7.out.below hb); have HB8 := Aside0.mk (below_then HB7.out HB7.out.size hb); have HC8 := Aside0.mk (Kd.C_below HC7.out hb); have HG8 := Aside0.mk (Kd.C_below HG7.out hb); obtain ⟨-, g0, g1, g2, g3, -⟩ := HE8.out; obtain ⟨-, h0, h1, h2, h3, -⟩ := HF8.out; clear hb)
    | (go_at_call 47; (with_reducible refine (HM2.out B2 d2 w8 HG8.out HDG.out).mono ?_); rintro e w9 ⟨rfl, hb⟩; have HB9 := Aside0.mk (below_then HB8.out HB8.out.size hb); have HE9 := Aside0.mk (HE8.out.below hb); have HF9 := Aside0.mk (HF8.out.below hb); have HC9 := Aside0.mk (Kd.C_below HC8.out hb); have HG9 := Aside0.mk (Kd.C_below HG8.out hb); obtain ⟨-, i0, i1, i2, i3, -⟩ := HE9.out; obtain ⟨-, j0, j1, j2, j3, -⟩ := HF9.out; clear hb)
    | fail)
  go_ret
  exact ⟨rfl, HB10.out⟩
set_option maxHeartbeats 6400000 in
set_option maxRecDepth 100000 in
theorem bytes_far0 (k now fr : Int) (A : Option Addr) (n c : Nat) (l : List Int) (A1 : Option Addr) (n1 c1 : Nat) (l1 : List Int) (w : World) (h : 2000 < n) :
    Calls Try.prog 9 #[.agg #[.int .i64 k, .int .i64 now, .int .i64 fr, .slice A n c], .slice A1 n1 c1] w (fun e w' => e = .returned (.bool true) ∧ Below w.heap.size w w') := by
  have HE0 := Aside0.mk (EvAt.new w k now fr (.slice A n c))
  have HB0 := Aside0.mk (below_alloc (Below.refl w.heap.size w) (.cells #[.int .i64 k, .int .i64 now, .int .i64 fr, .slice A n c] 79))
  have hg1 : decide (2000 < (n : Int)) = true := decide_eq_true (by omega)
  have hu79 := Try.underlying79
  go_enter Try.func9, Try.ntmps9
  go_wp2_with (first
    | (go_at_call 45; (with_reducible refine (recall_awake_calls _).mono ?_); rintro e w1 ⟨rfl, hb⟩; have HE1 := Aside0.mk (HE0.out.below hb); have HB1 := Aside0.mk (below_then HB0.out HB0.out.size hb); obtain ⟨-, p0, p1, p2, p3, -⟩ := HE1.out; clear hb)
    | fail)
  go_ret
  exact ⟨rfl, HB1.out⟩
set_option maxHeartbeats 6400000 in
set_option maxRecDepth 100000 in
theorem bytes_far1 (k now fr : Int) (A : Option Addr) (n c : Nat) (l : List Int) (A1 : Option Addr) (n1 c1 : Nat) (l1 : List Int) (w : World) (h : n ≤ 2000) (h1 : 2000 < n1) :
    Calls Try.prog 9 #[.agg #[.int .i64 k, .int .i64 now, .int .i64 fr, .slice A n c], .slice A1 n1 c1] w (fun e w' => e = .returned (.bool true) ∧ Below w.heap.size w w') := by
  have HE0 := Aside0.mk (EvAt.new w k now fr (.slice A n c))
  have HB0 := Aside0.mk (below_alloc (Below.refl w.heap.size w) (.cells #[.int .i64 k, .int .i64 now, .int .i64 fr, .slice A n c] 79))
  have hg1 : decide (2000 < (n : Int)) = false := decide_eq_false (by omega)
  have hg2 : decide (2000 < (n1 : Int)) = true := decide_eq_true (by omega)
  have hu79 := Try.underlying79
  go_enter Try.func9, Try.ntmps9
  go_wp2_with (first
    | (go_at_call 45; (with_reducible refine (recall_awake_calls _).mono ?_); rintro e w1 ⟨rfl, hb⟩; have HE1 := Aside0.mk (HE0.out.below hb); have HB1 := Aside0.mk (below_then HB0.out HB0.out.size hb); obtain ⟨-, p0, p1, p2, p3, -⟩ := HE1.out; clear hb)
    | fail)
  go_ret
  exact ⟨rfl, HB1.out⟩
/-- An event that comes in. -/
structure EvIn where
  k : Int
  now : Int
  fr : Int
  A : Option Addr
  l : List Int
  c : Nat
/-- What is known of it. -/
def EvIn.ok (w : World) (x : EvIn) : Prop :=
  (-9223372036854775808 ≤ x.now ∧ x.now ≤ 9223372036854775807) ∧ (-9223372036854775808 ≤ x.fr ∧ x.fr ≤ 9223372036854775807) ∧ x.l.length ≤ x.c ∧ Kd.C (Kd.int .u8) w x.A x.l.length x.l
theorem bytes_walk (x : EvIn) (A1 : Option Addr) (c1 : Nat) (l1 : List Int) (w : World) (h0 : x.ok w) (hr1 : Kd.C (Kd.int .u8) w A1 l1.length l1) (hc1 : l1.length ≤ c1) (hm1 : l1.length ≤ maxLen) (hby : By l1) :
    Calls Try.prog 9 #[.agg #[.int .i64 x.k, .int .i64 x.now, .int .i64 x.fr, .slice x.A x.l.length x.c], .slice A1 l1.length c1] w fun e w' => e = .returned (.bool true) ∧ Below w.heap.size w w' := by
  obtain ⟨k, now, fr, A, l, c⟩ := x
  obtain ⟨hbn, hbf, hc, hr⟩ := h0
  by_cases hn : l.length ≤ 2000
  · by_cases hn1 : l1.length ≤ 2000
    · cases hm : mayb k now fr l
      · by_cases hq : 0 ≤ rdq l1
        · exact bytes_n_bad k now fr A _ c l rfl hc hn hbn hbf A1 _ c1 l1 rfl hc1 hn1 hby w hr hr1 hm hq
        · cases hm2 : mayb (rdev l1).1.1 (rdev l1).1.2.1 (rdev l1).1.2.2.1 (rdev l1).1.2.2.2
          · exact bytes_n_no k now fr A _ c l rfl hc hn hbn hbf A1 _ c1 l1 rfl hc1 hn1 hby w hr hr1 hm (by omega) hm2
          · exact bytes_n_ok k now fr A _ c l rfl hc hn hbn hbf A1 _ c1 l1 rfl hc1 hn1 hby w hr hr1 hm (by omega) hm2
      · by_cases hq : 0 ≤ rdq l1
        · exact bytes_y_bad k now fr A _ c l rfl hc hn hbn hbf A1 _ c1 l1 rfl hc1 hn1 hby w hr hr1 hm hq
        · cases hm2 : mayb (rdev l1).1.1 (rdev l1).1.2.1 (rdev l1).1.2.2.1 (rdev l1).1.2.2.2
          · exact bytes_y_no k now fr A _ c l rfl hc hn hbn hbf A1 _ c1 l1 rfl hc1 hn1 hby w hr hr1 hm (by omega) hm2
          · exact bytes_y_ok k now fr A _ c l rfl hc hn hbn hbf A1 _ c1 l1 rfl hc1 hn1 hby w hr hr1 hm (by omega) hm2
    · exact bytes_far1 k now fr A _ c l A1 l1.length c1 l1 w hn (by omega)
  · exact bytes_far0 k now fr A l.length c l A1 _ c1 l1 w (by omega)
open Go.Proofs.Ytlngkcaaenpnaaa.Opn in
theorem open_bytes {H : Type} {enc : TypeId × Value → H} {W : World} {fuel : Nat} {a : Option Addr} {len cap : Nat} {x : DataW H × List MemPlace} (h : DataW.trod enc Try.prog W 0 (fun _ => true) true fuel 41 [.slice a len cap] = some x) :
    ∃ l : List Int, l.length = len ∧ len ≤ cap ∧ len ≤ maxLen ∧ Kd.C (Kd.int .u8) W a l.length l ∧ By l := by
  obtain ⟨l, h1, h2, h3, h4, h5⟩ := opens_row 5 Try.underlying41 (by kernel_rfl) (opens_int Try.underlying5) h
  exact ⟨l, h1, h2, h3, h4, fun x hx => wf8 (h5 x hx)⟩
open Go.Proofs.Ytlngkcaaenpnaaa.Opn in
theorem open_event {H : Type} {enc : TypeId × Value → H} {W : World} {fuel : Nat} {cs : Array Value} {x : DataW H × List MemPlace} (h : DataW.trod enc Try.prog W 0 (fun _ => true) true fuel 79 cs.toList = some x) :
    ∃ x : EvIn, cs = #[.int .i64 x.k, .int .i64 x.now, .int .i64 x.fr, .slice x.A x.l.length x.c] ∧ x.ok W := by
  have h79 := opens_struct (enc := enc) (W := W) (base := 0) (spare := fun _ => true) (held := true) Try.underlying79 (by kernel_rfl)
      (opensF_cons rfl (by kernel_rfl) (opens_int Try.underlying3) (opensF_cons rfl (by kernel_rfl) (opens_int Try.underlying3) (opensF_cons rfl (by kernel_rfl) (opens_int Try.underlying3) (opensF_last rfl (by kernel_rfl) (opens_slice 5 Try.underlying41 (by kernel_rfl) (opens_int Try.underlying5))))))
  obtain ⟨⟨k, now, fr, l⟩, hk, h0, h1, h2, h3⟩ := h79 _ _ _ h
  obtain ⟨_, _, e, e0, _, _, e', e1, _, _, e'', e2, A, c, e3, e4, e5⟩ := hk
  cases e0; cases e1; cases e2; subst e3 e'' e'
  exact ⟨⟨k, now, fr, A, l, c⟩, by rw [← Array.toArray_toList (xs := cs), e]; rfl, wf64 h1, wf64 h2, e4, e5⟩
end Go.Proofs.Ytlngkcaaenpnaaa.Wire
