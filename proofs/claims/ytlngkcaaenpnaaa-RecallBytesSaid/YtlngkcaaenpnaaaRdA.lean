/- wire: the reader's calls. -/
import Derived.Test.YtlngkcaaenpnaaaWireE
import Derived.Laws.BitsLemmas
import Derived.Shelf.Small.Bits
import Derived.IntWalk
import Derived.Outline
namespace Go.Proofs.Ytlngkcaaenpnaaa.Wire
set_option linter.unusedVariables false
set_option linter.unusedSimpArgs false
open Go.RowKit Go.Proofs.Ytlngkcaaenpnaaa.Num Go.Proofs.Ytlngkcaaenpnaaa.PWi Go.Proofs.YtlngkcaaenpnaaaW Go.Proofs.YtlngkcaaenpnaaaW.PrintWords Go.Proofs.YtlngkcaaenpnaaaW.PrintLast Go.Proofs.YtlngkcaaenpnaaaW.PrintMore

theorem or_small (z x : Int) (hz : 0 ≤ z ∧ z < 72057594037927936) (hx : 0 ≤ x ∧ x < 256) : bits .or .u64 (z * 256) x = z * 256 + x := by
  obtain ⟨z, rfl⟩ : ∃ n : Nat, z = n := ⟨z.toNat, by omega⟩
  obtain ⟨x, rfl⟩ : ∃ n : Nat, x = n := ⟨x.toNat, by omega⟩
  have h2 : z * 256 ||| x = z * 256 + x := by
    rw [show z * 256 = 2 ^ 8 * z from by omega]
    exact (Nat.two_pow_add_eq_or_of_lt (show x < 2 ^ 8 by omega) z).symm
  rw [show (z : Int) * 256 = ((z * 256 : Nat) : Int) from by omega, bits_or_u64_nat (z * 256) x (by omega) (by omega), h2]
  omega
theorem bv_lt' (l : List Int) (h : By l) : bv l < 256 ^ l.length := by
  have := bv_lt l h l.length (Nat.le_refl _)
  rw [List.take_length, show (2 : Nat) ^ (8 * l.length) = 256 ^ l.length from by rw [Nat.pow_mul]] at this
  exact this
set_option maxHeartbeats 1600000 in
set_option maxRecDepth 100000 in
theorem number_calls (A : Option Addr) (n c : Nat) (l : List Int) (hn : l.length = n) (h8 : n ≤ 8) (w : World) (hr : Kd.C (Kd.int .u8) w A l.length l) (hb : By l) :
    Calls Try.prog 68 #[.slice A n c] w fun e w' => e = .returned (.int .u64 (bv l : Int)) ∧ w = w' := by
  subst hn
  have HR := Aside0.mk hr
  have HB := Aside0.mk hb
  clear hr hb
  go_enter Try.func68, Try.ntmps68
  go_wp2
  go_loop [3, 8] (fun v3 v8 => ∃ k : Nat, k ≤ l.length ∧ v8 = .int .i64 k ∧ v3 = .int .u64 (bv (l.take k) : Int))
    (fun _ v8 => l.length - (intOf v8).toNat)
  case atStart => exact ⟨0, Nat.zero_le _, rfl, rfl⟩
  case round =>
    obtain ⟨k, hk, rfl, rfl⟩ := hrel
    by_cases hlt : k < l.length
    · obtain ⟨ad, e, hc⟩ := Kd.at_int HR.out (k : Int) (by omega) (by omega)
      subst e
      rw [Int.toNat_natCast] at hc
      have hx := HB.out.rd (k : Int)
      have hs := bv_take l k hlt
      obtain ⟨x, ex⟩ : ∃ x, rd l (k : Int) = x := ⟨_, rfl⟩
      rw [ex] at hc hx hs
      have hz : bv (l.take k) < 256 ^ 7 := by
        have h1 := bv_lt' (l.take k) (fun y hy => HB.out y (List.mem_of_mem_take hy))
        exact Nat.lt_of_lt_of_le h1 (Nat.pow_le_pow_right (by omega) (by rw [List.length_take]; omega))
      rw [show (256 : Nat) ^ 7 = 72057594037927936 from rfl] at hz
      have HS := Aside0.mk hs
      obtain ⟨z, hzz⟩ : ∃ z, z = (bv (l.take k) : Int) := ⟨_, rfl⟩
      rw [← hzz]
      have hor := or_small z x (by omega) hx
      have HZ := Aside0.mk hzz
      have hz2 : 0 ≤ z ∧ z < 72057594037927936 := by omega
      clear hs ex hzz hz
      go_wp2
      go_round
      case rel => exact ⟨k + 1, by omega, by go_num, by
        rw [HS.out]
        have := HZ.out
        congr 1
        omega⟩
      case measure => simp [intOf] <;> omega
    · obtain rfl : k = l.length := by omega
      rw [List.take_length]
      go_wp2
      go_ret
      exact ⟨rfl, rfl⟩
/-- A reader: its block g holds the bytes' slice, the place, where there was a fault. -/
def IsR (W : World) (g : Nat) (A : Option Addr) (n c : Nat) (at_ : Nat) (bad : Int) : Prop :=
  W.cell? ⟨g, 0, none⟩ = some (.slice A n c) ∧ W.cell? ⟨g, 1, none⟩ = some (.int .i64 (at_ : Int)) ∧ W.cell? ⟨g, 2, none⟩ = some (.int .i64 bad) ∧ W.cell? ⟨g, 3, none⟩ = some (.bool true) ∧
  W.frozen? ⟨g, 1, none⟩ = false ∧ W.frozen? ⟨g, 2, none⟩ = false
theorem IsR.below {W W2 : World} {g : Nat} {A : Option Addr} {n c at_ : Nat} {bad : Int} (h : IsR W g A n c at_ bad) (hb : Below W.heap.size W W2) : IsR W2 g A n c at_ bad := by
  obtain ⟨h0, h1, h2, h3, h4, h5⟩ := h
  have hl := World.block_lt_of_cell? _ _ h1
  exact ⟨pw_cell_below hb h0, pw_cell_below hb h1, pw_cell_below hb h2, pw_cell_below hb h3, (hb.frozen (p := ⟨g, 1, none⟩) hl).trans h4, (hb.frozen (p := ⟨g, 2, none⟩) hl).trans h5⟩
/-- Behind a reader's call: what is told, and how it stands. -/
def Told (w0 w : World) (g : Nat) (A : Option Addr) (n c : Nat) (v : Value) (at_ : Nat) (bad : Int) (e : Ending) (w' : World) : Prop :=
  e = .returned v ∧ IsR w' g A n c at_ bad ∧ Below w0.heap.size w0 w' ∧ Kept w w' (fun k => k = g)
theorem kept_g (w : World) (g i : Nat) (u : Value) : Kept w (w.setCell ⟨g, i, none⟩ u) (fun k => k = g) := (Kept.refl w (fun k => k = g)).setCell (p := ⟨g, i, none⟩) (.inl rfl) u
theorem below_alloc' {B : Nat} {w W : World} (h : Below B w W) (hB : B ≤ W.heap.size) (o : Obj) : Below B w (W.alloc o) := h.alloc hB o
theorem IsR.setBad {W : World} {g : Nat} {A : Option Addr} {n c at_ : Nat} {bad : Int} (h : IsR W g A n c at_ bad) (x : Int) : IsR (W.setCell ⟨g, 2, none⟩ (.int .i64 x)) g A n c at_ x := by
  obtain ⟨h0, h1, h2, h3, h4, h5⟩ := h
  refine ⟨?_, ?_, World.cell?_setCell_same' _ _ _ (by simp [h2]), ?_, by rw [World.frozen?_setCell]; exact h4, by rw [World.frozen?_setCell]; exact h5⟩
  · rw [World.cell?_setCell_other (h := by simp)]; exact h0
  · rw [World.cell?_setCell_other (h := by simp)]; exact h1
  · rw [World.cell?_setCell_other (h := by simp)]; exact h3
theorem IsR.setAt {W : World} {g : Nat} {A : Option Addr} {n c at_ : Nat} {bad : Int} (h : IsR W g A n c at_ bad) (x : Nat) : IsR (W.setCell ⟨g, 1, none⟩ (.int .i64 (x : Int))) g A n c x bad := by
  obtain ⟨h0, h1, h2, h3, h4, h5⟩ := h
  refine ⟨?_, World.cell?_setCell_same' _ _ _ (by simp [h1]), ?_, ?_, by rw [World.frozen?_setCell]; exact h4, by rw [World.frozen?_setCell]; exact h5⟩
  · rw [World.cell?_setCell_other (h := by simp)]; exact h0
  · rw [World.cell?_setCell_other (h := by simp)]; exact h2
  · rw [World.cell?_setCell_other (h := by simp)]; exact h3
set_option maxHeartbeats 1600000 in
set_option maxRecDepth 100000 in
theorem byte_bad (g : Nat) (A : Option Addr) (n c at_ : Nat) (bad : Int) (hbad : 0 ≤ bad) (w0 w : World) (hB : Below w0.heap.size w0 w) (hg : w0.heap.size ≤ g) (hR : IsR w g A n c at_ bad) :
    Calls Try.prog 40 #[.pointer (some ⟨g, 0, none⟩)] w (Told w0 w g A n c (.int .u8 0) at_ bad) := by
  have HB := Aside0.mk hB
  have HR := Aside0.mk hR
  obtain ⟨h0, h1, h2, h3, h4, h5⟩ := hR
  have hl := World.block_lt_of_cell? _ _ h1
  have hsz := hB.size
  clear hB
  go_enter Try.func40, Try.ntmps40
  go_wp2
  refine bodyPost_ret (results_none rfl _ _ _) rfl ?_
  go_wp2
  exact bodyPost_ret (v := .int .u8 0) (by simp [results, Try.results40, go_sem]) rfl ⟨rfl, HR.out.below (below_alloc (Below.refl _ _) _), below_alloc HB.out _, (Kept.refl _ _).alloc _⟩
set_option maxHeartbeats 1600000 in
set_option maxRecDepth 100000 in
theorem byte_short (g : Nat) (A : Option Addr) (n c at_ : Nat) (bad : Int) (hbad : bad < 0) (hs : n < at_ + 1) (hn : n ≤ 1000000000) (ha : at_ ≤ n) (w0 w : World) (hB : Below w0.heap.size w0 w) (hg : w0.heap.size ≤ g) (hR : IsR w g A n c at_ bad) :
    Calls Try.prog 40 #[.pointer (some ⟨g, 0, none⟩)] w (Told w0 w g A n c (.int .u8 0) at_ at_) := by
  have HB := Aside0.mk hB
  have HR := Aside0.mk hR
  obtain ⟨h0, h1, h2, h3, h4, h5⟩ := hR
  have hl := World.block_lt_of_cell? _ _ h1
  have hsz := hB.size
  clear hB
  have hd : decide ((n : Int) - (at_ : Int) < 1) = true := decide_eq_true (by omega)
  go_enter Try.func40, Try.ntmps40
  go_wp2
  first | go_end0 | refine bodyPost_ret (results_none rfl _ _ _) rfl ?_
  go_wp2
  first | go_end0 | refine bodyPost_ret (results_none rfl _ _ _) rfl ?_
  go_wp2
  exact bodyPost_ret (v := .int .u8 0) (by simp [results, Try.results40, go_sem]) rfl ⟨rfl, (HR.out.setBad _).below (below_alloc (Below.refl _ _) _), below_alloc' (HB.out.setCell hg _) (by simp [World.setCell]; omega) _, (kept_g w g 2 _).alloc _⟩
set_option maxHeartbeats 1600000 in
set_option maxRecDepth 100000 in
theorem byte_ok (g : Nat) (A : Option Addr) (n c at_ : Nat) (bad : Int) (hbad : bad < 0) (hs : at_ + 1 ≤ n) (hn : n ≤ 1000000000) (hc : n ≤ c) (l : List Int) (hl : l.length = n) (w0 w : World) (hr : Kd.C (Kd.int .u8) w0 A l.length l) (hB : Below w0.heap.size w0 w) (hg : w0.heap.size ≤ g) (hR : IsR w g A n c at_ bad) :
    Calls Try.prog 40 #[.pointer (some ⟨g, 0, none⟩)] w (Told w0 w g A n c (.int .u8 (rd l (at_ : Int))) (at_ + 1) bad) := by
  have HB := Aside0.mk hB
  have HR := Aside0.mk hR
  obtain ⟨h0, h1, h2, h3, h4, h5⟩ := hR
  have hlg := World.block_lt_of_cell? _ _ h1
  have hsz := hB.size
  clear hB
  have hd : decide ((n : Int) - (at_ : Int) < 1) = false := decide_eq_false (by omega)
  have hr1 := Kd.C_below hr HB.out
  obtain ⟨ad, e, hcl⟩ := Kd.at_int hr1 (at_ : Int) (by omega) (by omega)
  subst e
  rw [Int.toNat_natCast] at hcl
  have hcl2 : (w.alloc (.cells #[.int .u8 0] 5)).cell? (ad.add at_) = some (.int .u8 (rd l (at_ : Int))) := pw_cell_below (below_alloc (Below.refl _ _) _) hcl
  clear hr hr1 hcl
  go_enter Try.func40, Try.ntmps40
  go_wp2
  first | go_end0 | refine bodyPost_ret (results_none rfl _ _ _) rfl ?_
  go_wp2
  exact bodyPost_ret (v := .int .u8 (rd l (at_ : Int))) (by simp [results, Try.results40, go_sem]) rfl ⟨rfl, (HR.out.setAt (at_ + 1)).below (below_alloc (Below.refl _ _) _), below_alloc' (HB.out.setCell hg _) (by simp [World.setCell]; omega) _, (kept_g w g 1 _).alloc _⟩
theorem C_move8 {k : IntKind} {W W' : World} {A B : Option Addr} {l m : List Int} (h : Kd.C (Kd.int k) W A l.length l) (hm : m.length ≤ 9223372036854775807) (he : 0 < m.length → ∃ ad bd, A = some ad ∧ B = some bd ∧ ∀ j, j < m.length → W'.cell? (bd.add j) = some (.int k (m.getD j 0))) : Kd.C (Kd.int k) W' B m.length m := by
  refine Kd.C_of_reads (enc := Value.int k) (d := (0 : Int)) (h1 := fun _ => rfl) ⟨rfl, hm, fun hp => ?_⟩
  obtain ⟨ad, bd, _, e2, h3⟩ := he hp
  exact ⟨bd, e2, h3⟩
/-- A part of a row that is read. -/
theorem C_sub {k : IntKind} {W : World} {ad : Addr} {l : List Int} (h : Kd.C (Kd.int k) W (some ad) l.length l) (i m : Nat) (him : i + m ≤ l.length) : Kd.C (Kd.int k) W (some (ad.add i)) ((l.drop i).take m).length ((l.drop i).take m) := by
  have hl : l.length ≤ 9223372036854775807 := h.2.1
  have hlen : ((l.drop i).take m).length = m := by rw [List.length_take, List.length_drop]; omega
  refine C_move8 h (by omega) fun hp => ⟨ad, ad.add i, rfl, rfl, fun j hj => ?_⟩
  have h' : ReadsOf (Value.int k) (0 : Int) W (some ad) l.length l := Kd.reads_of_C (h1 := fun _ => rfl) h
  obtain ⟨ad', e, hc⟩ := h'.2.2 (by omega)
  cases e
  have := hc (i + j) (by omega)
  rw [Addr.add_add, this]
  congr 2
  simp only [List.getD_eq_getElem?_getD]
  rw [List.getElem?_take_of_lt (by omega), List.getElem?_drop]
set_option maxHeartbeats 1600000 in
set_option maxRecDepth 100000 in
theorem int_bad (g : Nat) (A : Option Addr) (n c at_ : Nat) (bad : Int) (hbad : 0 ≤ bad) (w0 w : World) (hB : Below w0.heap.size w0 w) (hg : w0.heap.size ≤ g) (hR : IsR w g A n c at_ bad) :
    Calls Try.prog 41 #[.pointer (some ⟨g, 0, none⟩)] w (Told w0 w g A n c (.int .i64 0) at_ bad) := by
  have HB := Aside0.mk hB
  have HR := Aside0.mk hR
  obtain ⟨h0, h1, h2, h3, h4, h5⟩ := hR
  have hlg := World.block_lt_of_cell? _ _ h1
  have hsz := hB.size
  clear hB
  go_enter Try.func41, Try.ntmps41
  go_wp2
  first | go_end0 | refine bodyPost_ret (results_none rfl _ _ _) rfl ?_
  go_wp2
  exact bodyPost_ret (v := .int .i64 0) (by simp [results, Try.results41, go_sem]) rfl ⟨rfl, HR.out.below (below_alloc (Below.refl _ _) _), (below_alloc HB.out _), ((Kept.refl _ _).alloc _)⟩
set_option maxHeartbeats 1600000 in
set_option maxRecDepth 100000 in
theorem int_short (g : Nat) (A : Option Addr) (n c at_ : Nat) (bad : Int) (hbad : bad < 0) (hs : n < at_ + 8) (hn : n ≤ 1000000000) (ha : at_ ≤ n) (w0 w : World) (hB : Below w0.heap.size w0 w) (hg : w0.heap.size ≤ g) (hR : IsR w g A n c at_ bad) :
    Calls Try.prog 41 #[.pointer (some ⟨g, 0, none⟩)] w (Told w0 w g A n c (.int .i64 0) at_ at_) := by
  have HB := Aside0.mk hB
  have HR := Aside0.mk hR
  obtain ⟨h0, h1, h2, h3, h4, h5⟩ := hR
  have hlg := World.block_lt_of_cell? _ _ h1
  have hsz := hB.size
  clear hB
  have hd : decide ((n : Int) - (at_ : Int) < 8) = true := decide_eq_true (by omega)
  go_enter Try.func41, Try.ntmps41
  go_wp2
  first | go_end0 | refine bodyPost_ret (results_none rfl _ _ _) rfl ?_
  go_wp2
  first | go_end0 | refine bodyPost_ret (results_none rfl _ _ _) rfl ?_
  go_wp2
  exact bodyPost_ret (v := .int .i64 0) (by simp [results, Try.results41, go_sem]) rfl ⟨rfl, (HR.out.setBad _).below (below_alloc (Below.refl _ _) _), (below_alloc' (HB.out.setCell hg _) (by simp [World.setCell]; omega) _), ((kept_g w g 2 _).alloc _)⟩
set_option maxHeartbeats 1600000 in
set_option maxRecDepth 100000 in
theorem int_big (g : Nat) (A : Option Addr) (n c at_ : Nat) (bad : Int) (hbad : bad < 0) (hs : at_ + 8 ≤ n) (hn : n ≤ 1000000000) (hc : n ≤ c) (l : List Int) (hl : l.length = n) (hby : By l) (hbig : 9223372036854775807 < bv ((l.drop at_).take 8)) (w0 w : World) (hr : Kd.C (Kd.int .u8) w0 A l.length l) (hB : Below w0.heap.size w0 w) (hg : w0.heap.size ≤ g) (hR : IsR w g A n c at_ bad) :
    Calls Try.prog 41 #[.pointer (some ⟨g, 0, none⟩)] w (Told w0 w g A n c (.int .i64 0) at_ at_) := by
  have HB := Aside0.mk hB
  have HR := Aside0.mk hR
  obtain ⟨h0, h1, h2, h3, h4, h5⟩ := hR
  have hlg := World.block_lt_of_cell? _ _ h1
  have hsz := hB.size
  clear hB
  have hd : decide ((n : Int) - (at_ : Int) < 8) = false := decide_eq_false (by omega)
  have hne : 0 < n := by omega
  have hr1 := Kd.C_below hr HB.out
  obtain ⟨ad, e, _⟩ := Kd.at_int hr1 (at_ : Int) (by omega) (by omega)
  subst e
  have hr2 := C_sub hr1 at_ 8 (by omega)
  have hln : ((l.drop at_).take 8).length = 8 := by rw [List.length_take, List.length_drop]; omega
  have HLN := Aside0.mk hln
  have HR2 := Aside0.mk (fun W' (hb : Below w.heap.size w W') => Kd.C_below hr2 hb)
  have HBY := Aside0.mk (show By ((l.drop at_).take 8) from fun y hy => hby y (List.mem_of_mem_drop (List.mem_of_mem_take hy)))
  have hnb : bv ((l.drop at_).take 8) < 256 ^ 8 := by have := bv_lt' _ HBY.out; rwa [hln] at this
  clear hr hr1 hr2 hln hby
  obtain ⟨N, hN⟩ : ∃ N : Nat, bv ((l.drop at_).take 8) = N := ⟨_, rfl⟩
  rw [hN] at hnb hbig
  have HN := Aside0.mk hN
  clear hN
  have hdd : decide ((9223372036854775807 : Int) < (N : Int)) = true := decide_eq_true (by omega)
  go_enter Try.func41, Try.ntmps41
  go_wp2_with (first
    | (go_at_call 68; (with_reducible refine (number_calls (some (ad.add at_)) 8 (c - at_) ((l.drop at_).take 8) HLN.out (by omega) _ (HR2.out _ (below_alloc (Below.refl _ _) _)) HBY.out).mono ?_); rw [HN.out]; rintro e w1 ⟨rfl, rfl⟩)
    | (go_at_call 65; go_in)
    | (go_at_call 67; go_in)
    | (go_at_call 69; go_in)
    | fail)
  first | go_end0 | refine bodyPost_ret (results_none rfl _ _ _) rfl ?_
  go_wp2
  first | go_end0 | refine bodyPost_ret (results_none rfl _ _ _) rfl ?_
  go_wp2
  exact bodyPost_ret (v := .int .i64 0) (by simp [results, Try.results41, go_sem]) rfl ⟨rfl, (HR.out.setBad _).below (below_alloc (Below.refl _ _) _), (below_alloc' (HB.out.setCell hg _) (by simp [World.setCell]; omega) _), ((kept_g w g 2 _).alloc _)⟩
set_option maxHeartbeats 1600000 in
set_option maxRecDepth 100000 in
theorem int_ok (g : Nat) (A : Option Addr) (n c at_ : Nat) (bad : Int) (hbad : bad < 0) (hs : at_ + 8 ≤ n) (hn : n ≤ 1000000000) (hc : n ≤ c) (l : List Int) (hl : l.length = n) (hby : By l) (hbig : bv ((l.drop at_).take 8) ≤ 9223372036854775807) (w0 w : World) (hr : Kd.C (Kd.int .u8) w0 A l.length l) (hB : Below w0.heap.size w0 w) (hg : w0.heap.size ≤ g) (hR : IsR w g A n c at_ bad) :
    Calls Try.prog 41 #[.pointer (some ⟨g, 0, none⟩)] w (Told w0 w g A n c (.int .i64 (bv ((l.drop at_).take 8) : Int)) (at_ + 8) bad) := by
  have HB := Aside0.mk hB
  have HR := Aside0.mk hR
  obtain ⟨h0, h1, h2, h3, h4, h5⟩ := hR
  have hlg := World.block_lt_of_cell? _ _ h1
  have hsz := hB.size
  clear hB
  have hd : decide ((n : Int) - (at_ : Int) < 8) = false := decide_eq_false (by omega)
  have hne : 0 < n := by omega
  have hr1 := Kd.C_below hr HB.out
  obtain ⟨ad, e, _⟩ := Kd.at_int hr1 (at_ : Int) (by omega) (by omega)
  subst e
  have hr2 := C_sub hr1 at_ 8 (by omega)
  have hln : ((l.drop at_).take 8).length = 8 := by rw [List.length_take, List.length_drop]; omega
  have HLN := Aside0.mk hln
  have HR2 := Aside0.mk (fun W' (hb : Below w.heap.size w W') => Kd.C_below hr2 hb)
  have HBY := Aside0.mk (show By ((l.drop at_).take 8) from fun y hy => hby y (List.mem_of_mem_drop (List.mem_of_mem_take hy)))
  have hnb : bv ((l.drop at_).take 8) < 256 ^ 8 := by have := bv_lt' _ HBY.out; rwa [hln] at this
  clear hr hr1 hr2 hln hby
  obtain ⟨N, hN⟩ : ∃ N : Nat, bv ((l.drop at_).take 8) = N := ⟨_, rfl⟩
  rw [hN] at hnb hbig ⊢
  have HN := Aside0.mk hN
  clear hN
  have hdd : decide ((9223372036854775807 : Int) < (N : Int)) = false := decide_eq_false (by omega)
  go_enter Try.func41, Try.ntmps41
  go_wp2_with (first
    | (go_at_call 68; (with_reducible refine (number_calls (some (ad.add at_)) 8 (c - at_) ((l.drop at_).take 8) HLN.out (by omega) _ (HR2.out _ (below_alloc (Below.refl _ _) _)) HBY.out).mono ?_); rw [HN.out]; rintro e w1 ⟨rfl, rfl⟩)
    | (go_at_call 65; go_in)
    | (go_at_call 67; go_in)
    | (go_at_call 69; go_in)
    | fail)
  first | go_end0 | refine bodyPost_ret (results_none rfl _ _ _) rfl ?_
  go_wp2
  exact bodyPost_ret (v := .int .i64 (N : Int)) (by simp [results, Try.results41, go_sem]) rfl ⟨rfl, (HR.out.setAt (at_ + 8)).below (below_alloc (Below.refl _ _) _), (below_alloc' (HB.out.setCell hg _) (by simp [World.setCell]; omega) _), ((kept_g w g 1 _).alloc _)⟩
set_option maxHeartbeats 1600000 in
set_option maxRecDepth 100000 in
theorem rcount_bad (g : Nat) (A : Option Addr) (n c at_ : Nat) (bad : Int) (most : Int) (hbad : 0 ≤ bad) (w0 w : World) (hB : Below w0.heap.size w0 w) (hg : w0.heap.size ≤ g) (hR : IsR w g A n c at_ bad) :
    Calls Try.prog 43 #[.pointer (some ⟨g, 0, none⟩), .int .i64 most] w (Told w0 w g A n c (.int .i64 0) at_ bad) := by
  have HB := Aside0.mk hB
  have HR := Aside0.mk hR
  obtain ⟨h0, h1, h2, h3, h4, h5⟩ := hR
  have hlg := World.block_lt_of_cell? _ _ h1
  have hsz := hB.size
  clear hB
  go_enter Try.func43, Try.ntmps43
  go_wp2
  first | go_end0 | refine bodyPost_ret (results_none rfl _ _ _) rfl ?_
  go_wp2
  exact bodyPost_ret (v := .int .i64 0) (by simp [results, Try.results43, go_sem]) rfl ⟨rfl, HR.out.below (below_alloc (below_alloc (Below.refl _ _) _) _), (below_alloc (below_alloc HB.out _) _), (((Kept.refl _ _).alloc _).alloc _)⟩
set_option maxHeartbeats 1600000 in
set_option maxRecDepth 100000 in
theorem rcount_short (g : Nat) (A : Option Addr) (n c at_ : Nat) (bad : Int) (most : Int) (hbad : bad < 0) (hs : n < at_ + 4) (hn : n ≤ 1000000000) (ha : at_ ≤ n) (w0 w : World) (hB : Below w0.heap.size w0 w) (hg : w0.heap.size ≤ g) (hR : IsR w g A n c at_ bad) :
    Calls Try.prog 43 #[.pointer (some ⟨g, 0, none⟩), .int .i64 most] w (Told w0 w g A n c (.int .i64 0) at_ at_) := by
  have HB := Aside0.mk hB
  have HR := Aside0.mk hR
  obtain ⟨h0, h1, h2, h3, h4, h5⟩ := hR
  have hlg := World.block_lt_of_cell? _ _ h1
  have hsz := hB.size
  clear hB
  have hd : decide ((n : Int) - (at_ : Int) < 4) = true := decide_eq_true (by omega)
  go_enter Try.func43, Try.ntmps43
  go_wp2
  first | go_end0 | refine bodyPost_ret (results_none rfl _ _ _) rfl ?_
  go_wp2
  first | go_end0 | refine bodyPost_ret (results_none rfl _ _ _) rfl ?_
  go_wp2
  exact bodyPost_ret (v := .int .i64 0) (by simp [results, Try.results43, go_sem]) rfl ⟨rfl, (HR.out.setBad _).below (below_alloc (below_alloc (Below.refl _ _) _) _), (below_alloc' (below_alloc' (HB.out.setCell hg _) (by simp [World.setCell]; omega) _) (by simp [World.setCell]; omega) _), (((kept_g w g 2 _).alloc _).alloc _)⟩
set_option maxHeartbeats 1600000 in
set_option maxRecDepth 100000 in
theorem rcount_big (g : Nat) (A : Option Addr) (n c at_ : Nat) (bad : Int) (most : Int) (hbad : bad < 0) (hs : at_ + 4 ≤ n) (hn : n ≤ 1000000000) (hc : n ≤ c) (l : List Int) (hl : l.length = n) (hby : By l) (hbig : most < (bv ((l.drop at_).take 4) : Int)) (w0 w : World) (hr : Kd.C (Kd.int .u8) w0 A l.length l) (hB : Below w0.heap.size w0 w) (hg : w0.heap.size ≤ g) (hR : IsR w g A n c at_ bad) :
    Calls Try.prog 43 #[.pointer (some ⟨g, 0, none⟩), .int .i64 most] w (Told w0 w g A n c (.int .i64 0) at_ at_) := by
  have HB := Aside0.mk hB
  have HR := Aside0.mk hR
  obtain ⟨h0, h1, h2, h3, h4, h5⟩ := hR
  have hlg := World.block_lt_of_cell? _ _ h1
  have hsz := hB.size
  clear hB
  have hd : decide ((n : Int) - (at_ : Int) < 4) = false := decide_eq_false (by omega)
  have hne : 0 < n := by omega
  have hr1 := Kd.C_below hr HB.out
  obtain ⟨ad, e, _⟩ := Kd.at_int hr1 (at_ : Int) (by omega) (by omega)
  subst e
  have hr2 := C_sub hr1 at_ 4 (by omega)
  have hln : ((l.drop at_).take 4).length = 4 := by rw [List.length_take, List.length_drop]; omega
  have HLN := Aside0.mk hln
  have HR2 := Aside0.mk (fun W' (hb : Below w.heap.size w W') => Kd.C_below hr2 hb)
  have HBY := Aside0.mk (show By ((l.drop at_).take 4) from fun y hy => hby y (List.mem_of_mem_drop (List.mem_of_mem_take hy)))
  have hnb : bv ((l.drop at_).take 4) < 256 ^ 4 := by have := bv_lt' _ HBY.out; rwa [hln] at this
  clear hr hr1 hr2 hln hby
  obtain ⟨N, hN⟩ : ∃ N : Nat, bv ((l.drop at_).take 4) = N := ⟨_, rfl⟩
  rw [hN] at hnb hbig
  have HN := Aside0.mk hN
  clear hN
  have hdd : decide (most < (N : Int)) = true := decide_eq_true (by omega)
  go_enter Try.func43, Try.ntmps43
  go_wp2_with (first
    | (go_at_call 68; (with_reducible refine (number_calls (some (ad.add at_)) 4 (c - at_) ((l.drop at_).take 4) HLN.out (by omega) _ (HR2.out _ (below_alloc (below_alloc (Below.refl _ _) _) _)) HBY.out).mono ?_); rw [HN.out]; rintro e w1 ⟨rfl, rfl⟩)
    | (go_at_call 65; go_in)
    | (go_at_call 70; go_in)
    | (go_at_call 69; go_in)
    | fail)
  first | go_end0 | refine bodyPost_ret (results_none rfl _ _ _) rfl ?_
  go_wp2
  first | go_end0 | refine bodyPost_ret (results_none rfl _ _ _) rfl ?_
  go_wp2
  exact bodyPost_ret (v := .int .i64 0) (by simp [results, Try.results43, go_sem]) rfl ⟨rfl, (HR.out.setBad _).below (below_alloc (below_alloc (Below.refl _ _) _) _), (below_alloc' (below_alloc' (HB.out.setCell hg _) (by simp [World.setCell]; omega) _) (by simp [World.setCell]; omega) _), (((kept_g w g 2 _).alloc _).alloc _)⟩
set_option maxHeartbeats 1600000 in
set_option maxRecDepth 100000 in
theorem rcount_ok (g : Nat) (A : Option Addr) (n c at_ : Nat) (bad : Int) (most : Int) (hbad : bad < 0) (hs : at_ + 4 ≤ n) (hn : n ≤ 1000000000) (hc : n ≤ c) (l : List Int) (hl : l.length = n) (hby : By l) (hbig : (bv ((l.drop at_).take 4) : Int) ≤ most) (w0 w : World) (hr : Kd.C (Kd.int .u8) w0 A l.length l) (hB : Below w0.heap.size w0 w) (hg : w0.heap.size ≤ g) (hR : IsR w g A n c at_ bad) :
    Calls Try.prog 43 #[.pointer (some ⟨g, 0, none⟩), .int .i64 most] w (Told w0 w g A n c (.int .i64 (bv ((l.drop at_).take 4) : Int)) (at_ + 4) bad) := by
  have HB := Aside0.mk hB
  have HR := Aside0.mk hR
  obtain ⟨h0, h1, h2, h3, h4, h5⟩ := hR
  have hlg := World.block_lt_of_cell? _ _ h1
  have hsz := hB.size
  clear hB
  have hd : decide ((n : Int) - (at_ : Int) < 4) = false := decide_eq_false (by omega)
  have hne : 0 < n := by omega
  have hr1 := Kd.C_below hr HB.out
  obtain ⟨ad, e, _⟩ := Kd.at_int hr1 (at_ : Int) (by omega) (by omega)
  subst e
  have hr2 := C_sub hr1 at_ 4 (by omega)
  have hln : ((l.drop at_).take 4).length = 4 := by rw [List.length_take, List.length_drop]; omega
  have HLN := Aside0.mk hln
  have HR2 := Aside0.mk (fun W' (hb : Below w.heap.size w W') => Kd.C_below hr2 hb)
  have HBY := Aside0.mk (show By ((l.drop at_).take 4) from fun y hy => hby y (List.mem_of_mem_drop (List.mem_of_mem_take hy)))
  have hnb : bv ((l.drop at_).take 4) < 256 ^ 4 := by have := bv_lt' _ HBY.out; rwa [hln] at this
  clear hr hr1 hr2 hln hby
  obtain ⟨N, hN⟩ : ∃ N : Nat, bv ((l.drop at_).take 4) = N := ⟨_, rfl⟩
  rw [hN] at hnb hbig ⊢
  have HN := Aside0.mk hN
  clear hN
  have hdd : decide (most < (N : Int)) = false := decide_eq_false (by omega)
  go_enter Try.func43, Try.ntmps43
  go_wp2_with (first
    | (go_at_call 68; (with_reducible refine (number_calls (some (ad.add at_)) 4 (c - at_) ((l.drop at_).take 4) HLN.out (by omega) _ (HR2.out _ (below_alloc (below_alloc (Below.refl _ _) _) _)) HBY.out).mono ?_); rw [HN.out]; rintro e w1 ⟨rfl, rfl⟩)
    | (go_at_call 65; go_in)
    | (go_at_call 70; go_in)
    | (go_at_call 69; go_in)
    | fail)
  first | go_end0 | refine bodyPost_ret (results_none rfl _ _ _) rfl ?_
  go_wp2
  exact bodyPost_ret (v := .int .i64 (N : Int)) (by simp [results, Try.results43, go_sem]) rfl ⟨rfl, (HR.out.setAt (at_ + 4)).below (below_alloc (below_alloc (Below.refl _ _) _) _), (below_alloc' (below_alloc' (HB.out.setCell hg _) (by simp [World.setCell]; omega) _) (by simp [World.setCell]; omega) _), (((kept_g w g 1 _).alloc _).alloc _)⟩
end Go.Proofs.Ytlngkcaaenpnaaa.Wire
