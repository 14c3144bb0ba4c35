/- Part 6 of a proof: De. Words and walks that a program printed for this claim stand here without what the claim does not use. -/
import Derived.RangeFuncNested
import Derived.RangeFuncLeaves
import Derived.OwnWalkIn
import Derived.RangeFuncBox
import Derived.Test.YtfnjbgggmddgpaaDe2
import Derived.Test.YtfnjbgggmddgpaaDe3
import Derived.Test.YtfnjbgggmddgpaaDe4
import Derived.Test.YtfnjbgggmddgpaaDe5
section
set_option linter.unusedVariables false
set_option linter.unusedSimpArgs false
namespace Go.Proofs.Ytfnjbgggmddgpaa.Q
open Go.RowKit Go.Proofs.Fn Go.Proofs.YtfnjbgggmddgpaaW.PrintWords Go.Proofs.Gr
inductive Path (T : List (List S80)) : Nat → List Int → Nat → Prop
  | nil (s : Nat) : Path T s [] s
  | cons (s : Nat) (e : S80) (t : Nat) (l : List Int) (z : Nat) : e ∈ T.getD s [] → e.f2 = (t : Int) → Path T t l z → Path T s (e.f1 :: l) z
structure Found (n : Nat) (T : List (List S80)) (g : Nat → Bool) (a : Int) (l : List Int) (ok : Bool) : Prop where
  out : ¬ (0 ≤ a ∧ a < (n : Int)) → l = [] ∧ ok = false
  len : ∀ s : Nat, a = (s : Int) → s < n → ∀ d, Lab n (E T) (fun i => g i = true) d → (l.length : Int) = (if d s < 0 then 0 else d s) ∧ (ok = true ↔ 0 ≤ d s)
  no : ok = false → l = []
  way : ok = true → ∃ s t : Nat, a = (s : Int) ∧ s < n ∧ t < n ∧ Path T s l t ∧ g t = true
end Go.Proofs.Ytfnjbgggmddgpaa.Q
end
section
namespace Go.Proofs.Ytfnjbgggmddgpaa.Q
open Go.RowKit Go.Proofs.Fn Go.Proofs.YtfnjbgggmddgpaaW.PrintWords Go.Proofs.YtfnjbgggmddgpaaW.PrintLast Go.Proofs.YtfnjbgggmddgpaaW.PrintMore
attribute [local go_sem] max2_int min2_int max_two min_two max_three min_three max_four min_four
set_option linter.unusedVariables false
set_option linter.unusedSimpArgs false
def l16_few.f (l0_0 : List (List Int)) (l0_1 : List (S80)) (a0_2 : Bool) : Option (Bool) := if (l0_0.length : Int) ≤ 16 then (some (decide ((l0_1.length : Int) ≤ 40))) else (some false)
set_option maxHeartbeats 8000000 in
set_option maxRecDepth 100000 in
theorem l16_few.calls (A0_0 : Option Addr) (c0_0 : Nat) (l0_0 : List (List Int)) (A0_1 : Option Addr) (c0_1 : Nat) (l0_1 : List (S80)) (a0_2 : Bool) (r : Bool) (w : World) (hr0_0 : Kd.C (Kd.slice 3 (Kd.int .i64)) w A0_0 l0_0.length l0_0) (hc0_0 : l0_0.length ≤ c0_0) (hr0_1 : Kd.C k80 w A0_1 l0_1.length l0_1) (hc0_1 : l0_1.length ≤ c0_1) (h : l16_few.f l0_0 l0_1 a0_2 = some r) :
  Calls Try.prog 9 #[.agg #[.slice A0_0 l0_0.length c0_0, .slice A0_1 l0_1.length c0_1, .bool a0_2]] w fun e w' => e = .returned (.bool r) ∧ Below w.heap.size w w' := by
 have hu25 := Try.underlying25
 have HR0_0 := Aside0.mk hr0_0
 have HC0_0 := Aside0.mk hc0_0
 clear hr0_0 hc0_0
 have HR0_1 := Aside0.mk hr0_1
 have HC0_1 := Aside0.mk hc0_1
 clear hr0_1 hc0_1
 have HB := Aside0.mk (Below.refl w.heap.size w)
 have H : (if (l0_0.length : Int) ≤ 16 then (some (decide ((l0_1.length : Int) ≤ 40))) else (some false)) = some r := h
 clear h
 by_cases c2 : (l0_0.length : Int) ≤ 16
 ·rw [if_pos c2] at H
  have c2b0 := decide_eq_true c2
  have c2b1 : decide (l0_0.length ≤ 16) = true := decide_eq_true (by omega)
  clear c2
  obtain rfl := Option.some.inj H
  go_enter Try.func9, Try.ntmps9
  go_wp2_with (first | ((with_reducible refine gate_dst (N := 1) rfl ?_); (try (refine gate_guard (by rfl) ?_; dsimp only)); refine tBx 1 25 #[.slice A0_0 l0_0.length c0_0, .slice A0_1 l0_1.length c0_1, .bool a0_2] ?_; intro gb101 hg w3 hbox hb; have BK101 := Aside0.mk (hbox); have GW101 := tW HB hg; have GE101 := tW HB hg; replace HB := tA HB hb; clear hb hbox hg; obtain ⟨hcz4_0, hcz4_1, hcz4_2, hfz4_0, hfz4_1, hfz4_2⟩ := zc3 BK101))
  go_ret
  exact ⟨tE, tB⟩
 rw [if_neg c2] at H
 have c2b0 := decide_eq_false c2
 have c2b1 : decide (l0_0.length ≤ 16) = false := decide_eq_false (by omega)
 clear c2
 obtain rfl := Option.some.inj H
 go_enter Try.func9, Try.ntmps9
 go_wp2_with (first | ((with_reducible refine gate_dst (N := 1) rfl ?_); (try (refine gate_guard (by rfl) ?_; dsimp only)); refine tBx 1 25 #[.slice A0_0 l0_0.length c0_0, .slice A0_1 l0_1.length c0_1, .bool a0_2] ?_; intro gb101 hg w5 hbox hb; have BK101 := Aside0.mk (hbox); have GW101 := tW HB hg; have GE101 := tW HB hg; replace HB := tA HB hb; clear hb hbox hg; obtain ⟨hcz6_0, hcz6_1, hcz6_2, hfz6_0, hfz6_1, hfz6_2⟩ := zc3 BK101))
 go_ret
 exact ⟨tE, tB⟩
def r04_Same.l0 : Nat → List Int → List Int → Int → Option (Bool)
 | 0, _, _, _ => none
 | k + 1, x0, x1, x5 => if x5 < (x0.length : Int) then (if 0 ≤ x5 then (if x5 < (x1.length : Int) then (if (rd x0 x5) = (rd x1 x5) then (r04_Same.l0 k x0 x1 (wrap64 (x5 + 1))) else (some false)) else (none)) else (none)) else (some true)
def r04_Same.f (k : Nat) (l0 : List Int) (l1 : List Int) : Option (Bool) := if (l0.length : Int) = (l1.length : Int) then (r04_Same.l0 k l0 l1 0) else (some false)
set_option maxHeartbeats 8000000 in
set_option maxRecDepth 100000 in
theorem r04_Same.calls (k : Nat) (A0 : Option Addr) (c0 : Nat) (l0 : List Int) (A1 : Option Addr) (c1 : Nat) (l1 : List Int) (r : Bool) (w : World) (hr0 : Kd.C (Kd.int .i64) w A0 l0.length l0) (hc0 : l0.length ≤ c0) (hr1 : Kd.C (Kd.int .i64) w A1 l1.length l1) (hc1 : l1.length ≤ c1) (h : r04_Same.f k l0 l1 = some r) :
  Calls Try.prog 13 #[.slice A0 l0.length c0, .slice A1 l1.length c1] w fun e w' => e = .returned (.bool r) ∧ Drawn0 w w' := by
 have HR0 := Aside0.mk hr0
 have HC0 := Aside0.mk hc0
 clear hr0 hc0
 have HR1 := Aside0.mk hr1
 have HC1 := Aside0.mk hc1
 clear hr1 hc1
 have H : (if (l0.length : Int) = (l1.length : Int) then (r04_Same.l0 k l0 l1 0) else (some false)) = some r := h
 clear h
 by_cases c3 : (l0.length : Int) = (l1.length : Int)
 ·rw [if_pos c3] at H
  have c3b0 := beq_iff_eq.mpr c3
  have c3b1 := bne_eq_false_iff_eq.mpr c3
  have c3b2 : (l0.length == l1.length) = true := by first | simpa using c3 | (simp at c3 ⊢; omega)
  clear c3
  have H' := Aside0.mk H
  clear H
  go_enter Try.func13, Try.ntmps13
  go_wp2
  repeat (go_quiet (fail); try go_wp2)
  go_loopg [5] k (fun kq v5 w' => ∃ (x5_1 : Int), v5 = .int .i64 x5_1 ∧ Aside0 (r04_Same.l0 kq l0 l1 x5_1 = some r) ∧ Aside0 (kq ≤ k) ∧ Drawn0 w w')
  case atStart => exact ⟨(0), tU, H', ⟨Nat.le_refl _⟩, by repeat (first | exact Drawn0.refl _ | apply Drawn0.step)⟩
  case round =>
   clear H'
   (try clear c1); (try clear p2); (try clear c3); (try clear c3b0); (try clear c3b1); (try clear c3b2)
   obtain ⟨x5_1, rfl, HA, HK1, ⟨m1, rfl⟩⟩ := hrel
   cases gk with
   | zero => exact absurd HA.out (by simp [r04_Same.l0])
   | succ k1 =>
    have H := HA.out
    clear HA
    simp only [r04_Same.l0] at H
    by_cases c4 : x5_1 < (l0.length : Int)
    ·rw [if_pos c4] at H
     have c4b0 := decide_eq_true c4
     clear c4
     replace H := tF H
     obtain ⟨c5, H⟩ := H
     have c5b0 := decide_eq_true c5
     clear c5
     replace H := tF H
     obtain ⟨c6, H⟩ := H
     have c6b0 := decide_eq_true c6
     clear c6
     by_cases c7 : (rd l0 x5_1) = (rd l1 x5_1)
     ·rw [if_pos c7] at H
      have c7b0 := beq_iff_eq.mpr c7
      have c7b1 := bne_eq_false_iff_eq.mpr c7
      clear c7
      have H' := Aside0.mk H
      clear H
      have p101 : 0 ≤ (x5_1 : Int) := tD
      have q101 : x5_1 < (l0.length : Int) := tD
      obtain ⟨ad101, e101, hx101_0⟩ := Kd.at_int HR0.out x5_1 p101 q101
      cases e101
      replace p101 := eq_true p101
      replace q101 := eq_true q101
      have p102 : 0 ≤ (x5_1 : Int) := tD
      have q102 : x5_1 < (l1.length : Int) := tD
      obtain ⟨ad102, e102, hx102_0⟩ := Kd.at_int HR1.out x5_1 p102 q102
      cases e102
      replace p102 := eq_true p102
      replace q102 := eq_true q102
      go_wp2
      repeat (go_quiet (fail); try go_wp2)
      go_roundg k1
      case measure => have := HK1.out; omega
      case rel => exact ⟨(wrap64 (x5_1 + 1)), tU, H', ⟨by have := HK1.out; omega⟩, by repeat (first | exact Drawn0.refl _ | apply Drawn0.step)⟩
     rw [if_neg c7] at H
     have c7b0 := beq_eq_false_iff_ne.mpr c7
     have c7b1 := bne_iff_ne.mpr c7
     obtain rfl := Option.some.inj H
     have p101 : 0 ≤ (x5_1 : Int) := tD
     have q101 : x5_1 < (l0.length : Int) := tD
     obtain ⟨ad101, e101, hx101_0⟩ := Kd.at_int HR0.out x5_1 p101 q101
     cases e101
     replace p101 := eq_true p101
     replace q101 := eq_true q101
     have p102 : 0 ≤ (x5_1 : Int) := tD
     have q102 : x5_1 < (l1.length : Int) := tD
     obtain ⟨ad102, e102, hx102_0⟩ := Kd.at_int HR1.out x5_1 p102 q102
     cases e102
     replace p102 := eq_true p102
     replace q102 := eq_true q102
     go_wp2
     repeat (go_quiet (fail); try go_wp2)
     go_ret
     exact ⟨by first | rfl | (simp; done) | (simp [*]; done), by repeat (first | exact Drawn0.refl _ | apply Drawn0.step)⟩
    rw [if_neg c4] at H
    have c4b0 := decide_eq_false c4
    clear c4
    obtain rfl := Option.some.inj H
    go_wp2
    repeat (go_quiet (fail); try go_wp2)
    go_ret
    exact ⟨by first | rfl | (simp; done) | (simp [*]; done), by repeat (first | exact Drawn0.refl _ | apply Drawn0.step)⟩
 rw [if_neg c3] at H
 have c3b0 := beq_eq_false_iff_ne.mpr c3
 have c3b1 := bne_iff_ne.mpr c3
 have c3b2 : (l0.length == l1.length) = false := by first | simpa using c3 | (simp at c3 ⊢; omega)
 obtain rfl := Option.some.inj H
 go_enter Try.func13, Try.ntmps13
 go_wp2
 repeat (go_quiet (fail); try go_wp2)
 go_ret
 exact ⟨by first | rfl | (simp; done) | (simp [*]; done), by repeat (first | exact Drawn0.refl _ | apply Drawn0.step)⟩
def l16_step.f  : Option ((List (List Int)) × (List (S80)) × Bool) := some ((([(([1] : List Int)), (([0] : List Int))] : List (List Int))), (([(⟨0, 0, 1⟩ : S80)] : List (S80))), true)
set_option maxHeartbeats 8000000 in
set_option maxRecDepth 100000 in
theorem l16_step.calls  (r1 : List (List Int)) (r2 : List (S80)) (r3 : Bool) (w : World) (h : l16_step.f  = some (r1, r2, r3)) :
  Calls Try.prog 33 #[] w fun e w' => ∃ v0_ v1_ : Value, e = .returned (.agg #[v0_, v1_, .bool r3]) ∧ Kd.N (Kd.slice 3 (Kd.int .i64)) 28 w' w.heap.size (fun k_ => (w.heap.size ≤ k_) ∧ some k_ ≠ (v1_ : Value).ownBlock) v0_ r1 ∧ Kd.R k80 80 w' w.heap.size (fun k_ => (w.heap.size ≤ k_)) v1_ r2 ∧ Below w.heap.size w w' := by
 have hu25 := Try.underlying25
 have hu80 := Try.underlying80
 have HB := Aside0.mk (Below.refl w.heap.size w)
 have H : (some ((([(([1] : List Int)), (([0] : List Int))] : List (List Int))), (([(⟨0, 0, 1⟩ : S80)] : List (S80))), true)) = some (r1, r2, r3) := h
 clear h
 obtain ⟨y102, hy102⟩ : ∃ y_ : List Int, y_ = (([1] : List Int)) := ⟨_, rfl⟩
 replace H : (some ((([y102, (([0] : List Int))] : List (List Int))), (([(⟨0, 0, 1⟩ : S80)] : List (S80))), true)) = some (r1, r2, r3) := tQ hy102 H
 have Ny102 := Aside0.mk hy102
 clear hy102
 obtain ⟨y105, hy105⟩ : ∃ y_ : List Int, y_ = (([0] : List Int)) := ⟨_, rfl⟩
 replace H : (some ((([y102, y105] : List (List Int))), (([(⟨0, 0, 1⟩ : S80)] : List (S80))), true)) = some (r1, r2, r3) := tQ hy105 H
 have Ny105 := Aside0.mk hy105
 clear hy105
 obtain ⟨y108, hy108⟩ : ∃ y_ : List (List Int), y_ = (([y102, y105] : List (List Int))) := ⟨_, rfl⟩
 replace H : (some (y108, (([(⟨0, 0, 1⟩ : S80)] : List (S80))), true)) = some (r1, r2, r3) := tQ hy108 H
 have Ny108 := Aside0.mk hy108
 clear hy108
 obtain ⟨y111, hy111⟩ : ∃ y_ : List (S80), y_ = (([(⟨0, 0, 1⟩ : S80)] : List (S80))) := ⟨_, rfl⟩
 replace H : (some (y108, y111, true)) = some (r1, r2, r3) := tQ hy111 H
 have Ny111 := Aside0.mk hy111
 clear hy111
 simp only [Option.some.injEq, Prod.mk.injEq] at H
 obtain ⟨rfl, rfl, rfl⟩ := H
 go_enter Try.func33, Try.ntmps33
 go_wp2_with (first | ((with_reducible refine gate_dst (N := 0) rfl ?_); refine tBx 0 25 #[.slice none 0 0, .slice none 0 0, .bool false] ?_; intro gb101 hg w1 hbox hb; have BK101 := Aside0.mk (hbox); have GW101 := tW HB hg; have GE101 := tW HB hg; replace HB := tA HB hb; clear hb hbox hg) | ((with_reducible refine gate_dst (N := 1) rfl ?_); refine Kd.R_lit (Kd.int .i64) _ 3 ?hg (N := 1) ?hd (xs := ([1] : List Int)) (inner := [.int .i64 1]) (ok := fun _ => True) (okp := fun _ => True) ?hr ?hp (fun _ hk => hk) trivial (Below.refl _ _) (Nat.le_refl _) (by simp) ?_; (case hd => rfl); (case hg => rfl); (case hr => first | (go_simp; done) | (go_simp; rfl)); (case hp => exact (Reps.one (show Kd.M (Kd.int .i64) _ _ _ 1 [.int .i64 1] from rfl) (Reps.none _ _))); intro v103 w2 ho3 hb hg_ hnew_; clear hg_ hnew_; (first | rw [← Ny102.out] at ho3 | (simp only [Int.reduceToNat] at ho3; rw [← Ny102.out] at ho3)); have HO104 := Aside0.mk (Kd.R_lower (Kd.R_newM (M := fun k_ => (w.heap.size ≤ k_)) ho3 (below_size (tB)) (fun k_ h_ => h_)) (below_size (tB))); replace BK101 := tL BK101 hb; replace HB := tA HB hb; clear hb ho3) | ((with_reducible refine gate_dst (N := 2) rfl ?_); refine Kd.R_lit (Kd.int .i64) _ 3 ?hg (N := 2) ?hd (xs := ([0] : List Int)) (inner := [.int .i64 0]) (ok := fun _ => True) (okp := fun _ => True) ?hr ?hp (fun _ hk => hk) trivial (Below.refl _ _) (Nat.le_refl _) (by simp) ?_; (case hd => rfl); (case hg => rfl); (case hr => first | (go_simp; done) | (go_simp; rfl)); (case hp => exact (Reps.one (show Kd.M (Kd.int .i64) _ _ _ 0 [.int .i64 0] from rfl) (Reps.none _ _))); intro v106 w4 ho5 hb hg_ hnew_; clear hg_ hnew_; (first | rw [← Ny105.out] at ho5 | (simp only [Int.reduceToNat] at ho5; rw [← Ny105.out] at ho5)); have HO107 := Aside0.mk (Kd.R_lower (Kd.R_new' (Kd.R_newM (M := fun k_ => (w.heap.size ≤ k_)) ho5 (below_size (tB)) (fun k_ h_ => h_)) (Kd.R_lt (tR HO104))) (below_size (tB))); replace HO104 := Aside0.mk (Kd.R_elder' (tR HO104) (Kd.R_base ho5) hb); replace BK101 := tL BK101 hb; replace HB := tA HB hb; clear hb ho5; obtain ⟨Ao6, co6, eo6⟩ := Kd.R_slice HO104.out; subst eo6; obtain ⟨Ao7, co7, eo7⟩ := Kd.R_slice HO107.out; subst eo7) | ((with_reducible refine gate_dst (N := 3) rfl ?_); refine Kd.N_lit (Kd.slice 3 (Kd.int .i64)) _ 28 ?hg (N' := 3) ?hd (xs := ([y102, y105] : List (List Int))) (inner := [.slice Ao6 y102.length co6, .slice Ao7 y105.length co7]) (ok := (fun k_ => (w.heap.size ≤ k_) ∧ k_ ≠ gb101)) (okp := (fun k_ => (w.heap.size ≤ k_) ∧ k_ ≠ gb101)) ?hr ?hp (fun _ hk => hk) ((show ∀ k_, w4.heap.size ≤ k_ → (fun k_ => (w.heap.size ≤ k_) ∧ k_ ≠ gb101) k_ from fun k_ hk => ⟨(Nat.le_trans (below_size (tB)) hk), Kd.freshB (g := gb101) (o := .cells #[.slice none 0 0, .slice none 0 0, .bool false] 25 (0, 0)) (tK BK101) k_ hk⟩) _ (Nat.le_refl _)) (Below.refl _ _) (Nat.le_refl _) (by simp) ?_; (case hd => rfl); (case hg => rfl); (case hr => first | (go_simp; done) | (go_simp; rfl)); (case hp => exact (Reps.one (show Kd.FK (Kd.slice 3 (Kd.int .i64)) _ _ y102 [.slice Ao6 y102.length co6] from (Kd.FK_slice_mk (Kd.R_reads' (Kd.R_mono (ok' := (fun k_ => (w.heap.size ≤ k_) ∧ k_ ≠ gb101)) (Kd.R_types (HO104.out) BK101.out (by decide)) (fun k_ hk => ⟨hk.1.1.1, hk.2⟩))).2.1 (Kd.R_F (Kd.R_mono (ok' := (fun k_ => (w.heap.size ≤ k_) ∧ k_ ≠ gb101)) (Kd.R_types (HO104.out) BK101.out (by decide)) (fun k_ hk => ⟨hk.1.1.1, hk.2⟩))))) (Reps.one (show Kd.FK (Kd.slice 3 (Kd.int .i64)) _ _ y105 [.slice Ao7 y105.length co7] from (Kd.FK_slice_mk (Kd.R_reads' (Kd.R_mono (ok' := (fun k_ => (w.heap.size ≤ k_) ∧ k_ ≠ gb101)) (Kd.R_types (HO107.out) BK101.out (by decide)) (fun k_ hk => ⟨hk.1.1.1, hk.2⟩))).2.1 (Kd.R_F (Kd.R_mono (ok' := (fun k_ => (w.heap.size ≤ k_) ∧ k_ ≠ gb101)) (Kd.R_types (HO107.out) BK101.out (by decide)) (fun k_ hk => ⟨hk.1.1.1, hk.2⟩))))) (Reps.none _ _)))); intro v109 w8 ho9 hb hg_ hnew_; clear hg_ hnew_; (first | rw [← Ny108.out] at ho9 | (simp only [Int.reduceToNat] at ho9; rw [← Ny108.out] at ho9)); have HO110 := Aside0.mk (Kd.N_lower ho9 (below_size (tB))); replace BK101 := tL BK101 hb; replace HB := tA HB hb; clear HO104 HO107; clear hb ho9) | ((with_reducible refine gate_dst (N := 5) rfl ?_); refine Kd.R_lit k80 _ 80 ?hg (N := 5) ?hd (xs := ([(⟨0, 0, 1⟩ : S80)] : List (S80))) (inner := [.int .i64 0, .int .i64 0, .int .i64 1]) (ok := fun _ => True) (okp := fun _ => True) ?hr ?hp (fun _ hk => hk) trivial (Below.refl _ _) (Nat.le_refl _) (by simp) ?_; (case hd => rfl); (case hg => rfl); (case hr => first | (go_simp; done) | (go_simp; rfl)); (case hp => exact (Reps.c3 (show Kd.M k80 _ _ _ (⟨0, 0, 1⟩ : S80) [.int .i64 0, .int .i64 0, .int .i64 1] from (k80_mkM _ _ _ (⟨0, 0, 1⟩ : S80) )) (Reps.none _ _))); intro v112 w10 ho11 hb hg_ hnew_; clear hg_ hnew_; (first | rw [← Ny111.out] at ho11 | (simp only [Int.reduceToNat] at ho11; rw [← Ny111.out] at ho11)); replace HO110 := Aside0.mk (Kd.N_elder' (tR HO110) (Kd.R_base ho11) hb); have HO113 := Aside0.mk (Kd.R_lower (Kd.R_newM (M := fun k_ => (w.heap.size ≤ k_)) ho11 (below_size (tB)) (fun k_ h_ => h_)) (below_size (tB))); replace BK101 := tL BK101 hb; replace HB := tA HB hb; clear hb ho11; obtain ⟨Ao12, co12, eo12⟩ := Kd.R_slice HO113.out; subst eo12; obtain ⟨Ao13, co13, eo13⟩ := Kd.N_slice HO110.out; subst eo13; obtain ⟨hcz14_0, hcz14_1, hcz14_2, hfz14_0, hfz14_1, hfz14_2⟩ := zc3 BK101))
 refine bodyPost_ret (results_cell_row rfl _ _ gb101 25 #[.slice Ao13 y108.length co13, .slice Ao12 y111.length co12, .bool true] (0, 0) _ rfl (by (with_reducible repeat (first | refine blk_drewN ?_ _ | refine blk_drew ?_ | refine blk_alloc ?_ _)); refine blk_put (cs := #[.slice Ao13 y108.length co13, .slice Ao12 y111.length co12, .bool false]) ?_ 2 _ rfl; (with_reducible repeat (first | refine blk_drewN ?_ _ | refine blk_drew ?_ | refine blk_alloc ?_ _)); refine blk_put (cs := #[.slice Ao13 y108.length co13, .slice none 0 0, .bool false]) ?_ 1 _ rfl; (with_reducible repeat (first | refine blk_drewN ?_ _ | refine blk_drew ?_ | refine blk_alloc ?_ _)); refine blk_put (cs := #[.slice none 0 0, .slice none 0 0, .bool false]) ?_ 0 _ rfl; (with_reducible repeat (first | refine blk_drewN ?_ _ | refine blk_drew ?_ | refine blk_alloc ?_ _)); exact BK101.out) Try.underlying25 rfl (by kernel_rfl)) rfl ?_
 exact ⟨_, _, tE, by (with_reducible repeat (first | apply Kd.N_alloc | apply Kd.N_drewN | apply Kd.N_drew)); exact Kd.N_mono (Kd.N_far (p := ⟨gb101, 2, none⟩) (Kd.N_far (p := ⟨gb101, 1, none⟩) (Kd.N_far (p := ⟨gb101, 0, none⟩) (Kd.N_mono HO110.out (fun k_ hk => (⟨hk, hk.1.2⟩ : _ ∧ k_ ≠ gb101))) (fun _ hk => hk.2) (.slice Ao13 y108.length co13)) (fun _ hk => hk.2) (.slice Ao12 y111.length co12)) (fun _ hk => hk.2) (.bool true)) (fun _ hk => ⟨hk.1.1.1, hk.1.2⟩), by (with_reducible repeat (first | apply Kd.R_alloc | apply Kd.R_drewN | apply Kd.R_drew)); exact Kd.R_mono (Kd.R_far (p := ⟨gb101, 2, none⟩) (Kd.R_far (p := ⟨gb101, 1, none⟩) (Kd.R_far (p := ⟨gb101, 0, none⟩) (Kd.R_types HO113.out BK101.out (by decide)) (fun _ hk => hk.2) (.slice Ao13 y108.length co13)) (fun _ hk => hk.2) (.slice Ao12 y111.length co12)) (fun _ hk => hk.2) (.bool true)) (fun _ hk => hk.1.1), tB⟩
def l16_alive.f (k : Nat)  : Option (Bool) := (l16_step.f).bind fun bt101 => ((witness_Dead.f k bt101.1 bt101.2.1 bt101.2.2).bind fun bt108 => (if bt108.2 = true then ((r04_Same.f k bt108.1 (([0] : List Int))).bind fun t115 => (if t115 = true then ((l16_step.f).bind fun bt116 => ((witness_Diameter.f k bt116.1 bt116.2.1 bt116.2.2).bind fun t123 => (if t123 = 1 then ((witness_Diameter.f k ([] : List (List Int)) ([] : List (S80)) false).bind fun t124 => (some (t124 == (-1)))) else (some false)))) else (some false))) else (some false)))
set_option maxHeartbeats 8000000 in
set_option maxRecDepth 100000 in
theorem l16_alive.calls (k : Nat)  (r : Bool) (w : World) (h : l16_alive.f k  = some r) :
  Calls Try.prog 10 #[] w fun e w' => e = .returned (.bool r) ∧ Below w.heap.size w w' := by
 have hu25 := Try.underlying25
 have HB := Aside0.mk (Below.refl w.heap.size w)
 have H : ((l16_step.f).bind fun bt101 => ((witness_Dead.f k bt101.1 bt101.2.1 bt101.2.2).bind fun bt108 => (if bt108.2 = true then ((r04_Same.f k bt108.1 (([0] : List Int))).bind fun t115 => (if t115 = true then ((l16_step.f).bind fun bt116 => ((witness_Diameter.f k bt116.1 bt116.2.1 bt116.2.2).bind fun t123 => (if t123 = 1 then ((witness_Diameter.f k ([] : List (List Int)) ([] : List (S80)) false).bind fun t124 => (some (t124 == (-1)))) else (some false)))) else (some false))) else (some false)))) = some r := h
 clear h
 replace H := Option.bind_eq_some_iff.mp H
 obtain ⟨⟨t101, t104, t107⟩, A10, H⟩ := H
 (try dsimp only at H)
 have A1 := Aside0.mk A10
 clear A10
 replace H := Option.bind_eq_some_iff.mp H
 obtain ⟨⟨t108, t111⟩, A20, H⟩ := H
 (try dsimp only at H)
 have A2 := Aside0.mk A20
 clear A20
 by_cases c3 : t111 = true
 ·subst c3
  rw [if_pos rfl] at H
  obtain ⟨y112, hy112⟩ : ∃ y_ : List Int, y_ = (([0] : List Int)) := ⟨_, rfl⟩
  replace H : ((r04_Same.f k t108 y112).bind fun t115 => (if t115 = true then ((l16_step.f).bind fun bt116 => ((witness_Diameter.f k bt116.1 bt116.2.1 bt116.2.2).bind fun t123 => (if t123 = 1 then ((witness_Diameter.f k ([] : List (List Int)) ([] : List (S80)) false).bind fun t124 => (some (t124 == (-1)))) else (some false)))) else (some false))) = some r := tQ hy112 H
  have Ny112 := Aside0.mk hy112
  clear hy112
  replace H := Option.bind_eq_some_iff.mp H
  obtain ⟨t115, A40, H⟩ := H
  (try dsimp only at H)
  have A4 := Aside0.mk A40
  clear A40
  by_cases c5 : t115 = true
  ·subst c5
   rw [if_pos rfl] at H
   replace H := Option.bind_eq_some_iff.mp H
   obtain ⟨⟨t116, t119, t122⟩, A60, H⟩ := H
   (try dsimp only at H)
   have A6 := Aside0.mk A60
   clear A60
   replace H := Option.bind_eq_some_iff.mp H
   obtain ⟨t123, A70, H⟩ := H
   (try dsimp only at H)
   have A7 := Aside0.mk A70
   clear A70
   by_cases c8 : t123 = 1
   ·rw [if_pos c8] at H
    have c8b0 := beq_iff_eq.mpr c8
    have c8b1 := bne_eq_false_iff_eq.mpr c8
    clear c8
    replace H := Option.bind_eq_some_iff.mp H
    obtain ⟨t124, A90, H⟩ := H
    (try dsimp only at H)
    have A9 := Aside0.mk A90
    clear A90
    obtain rfl := Option.some.inj H
    go_enter Try.func10, Try.ntmps10
    go_wp2_with (first | ((with_reducible refine gate_callee (f := 33) rfl ?_); refine goesL_ (some 4) rfl rfl Try.func33 (by kernel_rfl) rfl #[] rfl (by (try simp only [List.map_toArray, List.map_cons, List.map_nil]); first | done | rfl | (simp only [List.length_drop, List.length_take]; rfl)) ?_; (with_reducible refine (l16_step.calls  t101 t104 t107 _ A1.out).mono ?_); rintro e w10 ⟨v102, v105, rfl, ho0, ho1, hb⟩; refine ⟨_, rfl, ?_⟩; have HO103 := Aside0.mk (Kd.N_lower (Kd.N_mono (ok' := fun k_ => some k_ ≠ (v105 : Value).ownBlock) ho0 (fun k_ hk_ => hk_.2)) (below_size (tB))); have HO106 := Aside0.mk (Kd.R_lower (Kd.R_mono (ok' := fun k_ => True) ho1 (fun _ hk_ => trivial)) (below_size (tB))); replace HB := tA HB hb; (try clear hb); (try clear hb2); (try clear hk); (try clear hi); (try clear ho0); (try clear ho1); obtain ⟨Ao11, co11, eo11⟩ := Kd.N_slice HO103.out; subst eo11; obtain ⟨Ao12, co12, eo12⟩ := Kd.R_slice HO106.out; subst eo12) | ((with_reducible refine gate_callee (f := 11) rfl ?_); refine goesL_ (some 5) rfl rfl Try.func11 (by kernel_rfl) rfl #[.agg #[.slice Ao11 t101.length co11, .slice Ao12 t104.length co12, .bool t107]] rfl (by (try simp only [List.map_toArray, List.map_cons, List.map_nil]); first | done | rfl | (simp only [List.length_drop, List.length_take]; rfl)) ?_; (with_reducible refine (witness_Dead.calls k _ _ t101 _ _ t104 t107 t108 true _ (tC (Kd.N_reads' HO103.out).2.2) ((Kd.N_reads' HO103.out).2.1) (tC (Kd.R_reads' HO106.out).2.2) ((Kd.R_reads' HO106.out).2.1) A2.out).mono ?_); rintro e w13 ⟨v109, rfl, ho0, hb⟩; refine ⟨_, rfl, ?_⟩; replace HO103 := Aside0.mk (Kd.N_elder' (tR HO103) (Kd.R_base ho0) hb); replace HO106 := Aside0.mk (Kd.R_below (tR HO106) hb); have HO110 := Aside0.mk (Kd.R_lower ho0 (below_size (tB))); replace HB := tA HB hb; (try clear hb); (try clear hb2); (try clear hk); (try clear hi); (try clear ho0)) | ((with_reducible refine gate_dst (N := 11) rfl ?_); (try (refine gate_guard (by rfl) ?_; dsimp only)); refine Kd.R_lit (Kd.int .i64) _ 3 ?hg (N := 11) ?hd (xs := ([0] : List Int)) (inner := [.int .i64 0]) (ok := fun _ => True) (okp := fun _ => True) ?hr ?hp (fun _ hk => hk) trivial (Below.refl _ _) (Nat.le_refl _) (by simp) ?_; (case hd => rfl); (case hg => rfl); (case hr => first | (go_simp; done) | (go_simp; rfl)); (case hp => exact (Reps.one (show Kd.M (Kd.int .i64) _ _ _ 0 [.int .i64 0] from rfl) (Reps.none _ _))); intro v113 w14 ho15 hb hg_ hnew_; clear hg_ hnew_; (first | rw [← Ny112.out] at ho15 | (simp only [Int.reduceToNat] at ho15; rw [← Ny112.out] at ho15)); replace HO103 := Aside0.mk (Kd.N_elder' (tR HO103) (Kd.R_base ho15) hb); replace HO106 := Aside0.mk (Kd.R_below (tR HO106) hb); have HO114 := Aside0.mk (Kd.R_lower (Kd.R_new' ho15 (Kd.R_lt (tR HO110))) (below_size (tB))); replace HO110 := Aside0.mk (Kd.R_elder' (tR HO110) (Kd.R_base ho15) hb); replace HB := tA HB hb; clear hb ho15; obtain ⟨Ao16, co16, eo16⟩ := Kd.R_slice HO110.out; subst eo16; obtain ⟨Ao17, co17, eo17⟩ := Kd.R_slice HO114.out; subst eo17) | (go_at_call 13; (with_reducible refine (r04_Same.calls k _ _ t108 _ _ y112 true _ (tC (Kd.R_reads' HO110.out).2.2) ((Kd.R_reads' HO110.out).2.1) (tC (Kd.R_reads' HO114.out).2.2) ((Kd.R_reads' HO114.out).2.1) A4.out).mono ?_); rintro e w' ⟨rfl, ⟨nd, rfl⟩⟩) | (go_at_call 33; (with_reducible refine (l16_step.calls  t116 t119 t122 _ A6.out).mono ?_); rintro e w18 ⟨v117, v120, rfl, ho0, ho1, hb⟩; have HO118 := Aside0.mk (Kd.N_lower (Kd.N_mono (ok' := fun k_ => some k_ ≠ (v120 : Value).ownBlock ∧ some k_ ≠ (.slice Ao11 t101.length co11 : Value).ownBlock ∧ some k_ ≠ (.slice Ao12 t104.length co12 : Value).ownBlock ∧ some k_ ≠ (.slice Ao16 t108.length co16 : Value).ownBlock ∧ some k_ ≠ (.slice Ao17 y112.length co17 : Value).ownBlock) ho0 (fun k_ hk_ => ⟨hk_.2, (Kd.fresh' (Kd.N_lt (tR HO103)) k_ hk_.1), (Kd.fresh' (Kd.R_lt (tR HO106)) k_ hk_.1), (Kd.fresh' (Kd.R_lt (tR HO110)) k_ hk_.1), (Kd.fresh' (Kd.R_lt (tR HO114)) k_ hk_.1)⟩)) (below_size (tB))); replace HO103 := Aside0.mk (Kd.N_mono (Kd.N_told (Kd.N_told (Kd.N_old (tR HO103) hb) (Kd.N_base ho0)) (Kd.R_base ho1)) (fun _ h_ => h_.1)); replace HO110 := Aside0.mk (Kd.R_below (tR HO110) hb); replace HO114 := Aside0.mk (Kd.R_below (tR HO114) hb); have HO121 := Aside0.mk (Kd.R_lower (Kd.R_new' (Kd.R_mono (ok' := fun k_ => True) ho1 (fun _ hk_ => trivial)) (Kd.R_lt (tR HO106))) (below_size (tB))); replace HO106 := Aside0.mk (Kd.R_elder' (tR HO106) (Kd.R_base ho1) hb); replace HB := tA HB hb; (try clear hb); (try clear hb2); (try clear hk); (try clear hi); (try clear ho0); (try clear ho1); obtain ⟨Ao19, co19, eo19⟩ := Kd.N_slice HO118.out; subst eo19; obtain ⟨Ao20, co20, eo20⟩ := Kd.R_slice HO121.out; subst eo20) | (go_at_call 14; (with_reducible refine (witness_Diameter.calls k _ _ t116 _ _ t119 t122 t123 _ (tC (Kd.N_reads' HO118.out).2.2) ((Kd.N_reads' HO118.out).2.1) (tC (Kd.R_reads' HO121.out).2.2) ((Kd.R_reads' HO121.out).2.1) A7.out).mono ?_); rintro e w21 ⟨rfl, hb⟩; replace HO103 := Aside0.mk (Kd.N_below (tR HO103) hb); replace HO106 := Aside0.mk (Kd.R_below (tR HO106) hb); replace HO110 := Aside0.mk (Kd.R_below (tR HO110) hb); replace HO114 := Aside0.mk (Kd.R_below (tR HO114) hb); replace HO118 := Aside0.mk (Kd.N_below (tR HO118) hb); replace HO121 := Aside0.mk (Kd.R_below (tR HO121) hb); replace HB := tA HB hb; (try clear hb); (try clear hb2); (try clear hk); (try clear hi)) | (go_at_call 14; (refine (witness_Diameter.calls k _ _ ([] : List (List Int)) _ _ ([] : List (S80)) false t124 _ ?side1 ?side2 ?side3 ?side4 A9.out).mono ?_); (case side1 => exact Kd.C_nil _ _); (case side2 => exact Nat.le_refl _); (case side3 => exact Kd.C_nil _ _); (case side4 => exact Nat.le_refl _); rintro e w22 ⟨rfl, hb⟩; replace HO103 := Aside0.mk (Kd.N_below (tR HO103) hb); replace HO106 := Aside0.mk (Kd.R_below (tR HO106) hb); replace HO110 := Aside0.mk (Kd.R_below (tR HO110) hb); replace HO114 := Aside0.mk (Kd.R_below (tR HO114) hb); replace HO118 := Aside0.mk (Kd.N_below (tR HO118) hb); replace HO121 := Aside0.mk (Kd.R_below (tR HO121) hb); replace HB := tA HB hb; (try clear hb); (try clear hb2); (try clear hk); (try clear hi)))
    go_ret
    exact ⟨tE, tB⟩
   rw [if_neg c8] at H
   have c8b0 := beq_eq_false_iff_ne.mpr c8
   have c8b1 := bne_iff_ne.mpr c8
   obtain rfl := Option.some.inj H
   go_enter Try.func10, Try.ntmps10
   go_wp2_with (first | ((with_reducible refine gate_callee (f := 33) rfl ?_); refine goesL_ (some 4) rfl rfl Try.func33 (by kernel_rfl) rfl #[] rfl (by (try simp only [List.map_toArray, List.map_cons, List.map_nil]); first | done | rfl | (simp only [List.length_drop, List.length_take]; rfl)) ?_; (with_reducible refine (l16_step.calls  t101 t104 t107 _ A1.out).mono ?_); rintro e w23 ⟨v102, v105, rfl, ho0, ho1, hb⟩; refine ⟨_, rfl, ?_⟩; have HO103 := Aside0.mk (Kd.N_lower (Kd.N_mono (ok' := fun k_ => some k_ ≠ (v105 : Value).ownBlock) ho0 (fun k_ hk_ => hk_.2)) (below_size (tB))); have HO106 := Aside0.mk (Kd.R_lower (Kd.R_mono (ok' := fun k_ => True) ho1 (fun _ hk_ => trivial)) (below_size (tB))); replace HB := tA HB hb; (try clear hb); (try clear hb2); (try clear hk); (try clear hi); (try clear ho0); (try clear ho1); obtain ⟨Ao24, co24, eo24⟩ := Kd.N_slice HO103.out; subst eo24; obtain ⟨Ao25, co25, eo25⟩ := Kd.R_slice HO106.out; subst eo25) | ((with_reducible refine gate_callee (f := 11) rfl ?_); refine goesL_ (some 5) rfl rfl Try.func11 (by kernel_rfl) rfl #[.agg #[.slice Ao24 t101.length co24, .slice Ao25 t104.length co25, .bool t107]] rfl (by (try simp only [List.map_toArray, List.map_cons, List.map_nil]); first | done | rfl | (simp only [List.length_drop, List.length_take]; rfl)) ?_; (with_reducible refine (witness_Dead.calls k _ _ t101 _ _ t104 t107 t108 true _ (tC (Kd.N_reads' HO103.out).2.2) ((Kd.N_reads' HO103.out).2.1) (tC (Kd.R_reads' HO106.out).2.2) ((Kd.R_reads' HO106.out).2.1) A2.out).mono ?_); rintro e w26 ⟨v109, rfl, ho0, hb⟩; refine ⟨_, rfl, ?_⟩; replace HO103 := Aside0.mk (Kd.N_elder' (tR HO103) (Kd.R_base ho0) hb); replace HO106 := Aside0.mk (Kd.R_below (tR HO106) hb); have HO110 := Aside0.mk (Kd.R_lower ho0 (below_size (tB))); replace HB := tA HB hb; (try clear hb); (try clear hb2); (try clear hk); (try clear hi); (try clear ho0)) | ((with_reducible refine gate_dst (N := 11) rfl ?_); (try (refine gate_guard (by rfl) ?_; dsimp only)); refine Kd.R_lit (Kd.int .i64) _ 3 ?hg (N := 11) ?hd (xs := ([0] : List Int)) (inner := [.int .i64 0]) (ok := fun _ => True) (okp := fun _ => True) ?hr ?hp (fun _ hk => hk) trivial (Below.refl _ _) (Nat.le_refl _) (by simp) ?_; (case hd => rfl); (case hg => rfl); (case hr => first | (go_simp; done) | (go_simp; rfl)); (case hp => exact (Reps.one (show Kd.M (Kd.int .i64) _ _ _ 0 [.int .i64 0] from rfl) (Reps.none _ _))); intro v113 w27 ho28 hb hg_ hnew_; clear hg_ hnew_; (first | rw [← Ny112.out] at ho28 | (simp only [Int.reduceToNat] at ho28; rw [← Ny112.out] at ho28)); replace HO103 := Aside0.mk (Kd.N_elder' (tR HO103) (Kd.R_base ho28) hb); replace HO106 := Aside0.mk (Kd.R_below (tR HO106) hb); have HO114 := Aside0.mk (Kd.R_lower (Kd.R_new' ho28 (Kd.R_lt (tR HO110))) (below_size (tB))); replace HO110 := Aside0.mk (Kd.R_elder' (tR HO110) (Kd.R_base ho28) hb); replace HB := tA HB hb; clear hb ho28; obtain ⟨Ao29, co29, eo29⟩ := Kd.R_slice HO110.out; subst eo29; obtain ⟨Ao30, co30, eo30⟩ := Kd.R_slice HO114.out; subst eo30) | (go_at_call 13; (with_reducible refine (r04_Same.calls k _ _ t108 _ _ y112 true _ (tC (Kd.R_reads' HO110.out).2.2) ((Kd.R_reads' HO110.out).2.1) (tC (Kd.R_reads' HO114.out).2.2) ((Kd.R_reads' HO114.out).2.1) A4.out).mono ?_); rintro e w' ⟨rfl, ⟨nd, rfl⟩⟩) | (go_at_call 33; (with_reducible refine (l16_step.calls  t116 t119 t122 _ A6.out).mono ?_); rintro e w31 ⟨v117, v120, rfl, ho0, ho1, hb⟩; have HO118 := Aside0.mk (Kd.N_lower (Kd.N_mono (ok' := fun k_ => some k_ ≠ (v120 : Value).ownBlock ∧ some k_ ≠ (.slice Ao24 t101.length co24 : Value).ownBlock ∧ some k_ ≠ (.slice Ao25 t104.length co25 : Value).ownBlock ∧ some k_ ≠ (.slice Ao29 t108.length co29 : Value).ownBlock ∧ some k_ ≠ (.slice Ao30 y112.length co30 : Value).ownBlock) ho0 (fun k_ hk_ => ⟨hk_.2, (Kd.fresh' (Kd.N_lt (tR HO103)) k_ hk_.1), (Kd.fresh' (Kd.R_lt (tR HO106)) k_ hk_.1), (Kd.fresh' (Kd.R_lt (tR HO110)) k_ hk_.1), (Kd.fresh' (Kd.R_lt (tR HO114)) k_ hk_.1)⟩)) (below_size (tB))); replace HO103 := Aside0.mk (Kd.N_mono (Kd.N_told (Kd.N_told (Kd.N_old (tR HO103) hb) (Kd.N_base ho0)) (Kd.R_base ho1)) (fun _ h_ => h_.1)); replace HO110 := Aside0.mk (Kd.R_below (tR HO110) hb); replace HO114 := Aside0.mk (Kd.R_below (tR HO114) hb); have HO121 := Aside0.mk (Kd.R_lower (Kd.R_new' (Kd.R_mono (ok' := fun k_ => True) ho1 (fun _ hk_ => trivial)) (Kd.R_lt (tR HO106))) (below_size (tB))); replace HO106 := Aside0.mk (Kd.R_elder' (tR HO106) (Kd.R_base ho1) hb); replace HB := tA HB hb; (try clear hb); (try clear hb2); (try clear hk); (try clear hi); (try clear ho0); (try clear ho1); obtain ⟨Ao32, co32, eo32⟩ := Kd.N_slice HO118.out; subst eo32; obtain ⟨Ao33, co33, eo33⟩ := Kd.R_slice HO121.out; subst eo33) | (go_at_call 14; (with_reducible refine (witness_Diameter.calls k _ _ t116 _ _ t119 t122 t123 _ (tC (Kd.N_reads' HO118.out).2.2) ((Kd.N_reads' HO118.out).2.1) (tC (Kd.R_reads' HO121.out).2.2) ((Kd.R_reads' HO121.out).2.1) A7.out).mono ?_); rintro e w34 ⟨rfl, hb⟩; replace HO103 := Aside0.mk (Kd.N_below (tR HO103) hb); replace HO106 := Aside0.mk (Kd.R_below (tR HO106) hb); replace HO110 := Aside0.mk (Kd.R_below (tR HO110) hb); replace HO114 := Aside0.mk (Kd.R_below (tR HO114) hb); replace HO118 := Aside0.mk (Kd.N_below (tR HO118) hb); replace HO121 := Aside0.mk (Kd.R_below (tR HO121) hb); replace HB := tA HB hb; (try clear hb); (try clear hb2); (try clear hk); (try clear hi)))
   go_ret
   exact ⟨tE, tB⟩
  replace c5 := Bool.eq_false_iff.mpr c5
  subst c5
  rw [if_neg (show ¬ (false = true) by decide)] at H
  obtain rfl := Option.some.inj H
  go_enter Try.func10, Try.ntmps10
  go_wp2_with (first | ((with_reducible refine gate_callee (f := 33) rfl ?_); refine goesL_ (some 4) rfl rfl Try.func33 (by kernel_rfl) rfl #[] rfl (by (try simp only [List.map_toArray, List.map_cons, List.map_nil]); first | done | rfl | (simp only [List.length_drop, List.length_take]; rfl)) ?_; (with_reducible refine (l16_step.calls  t101 t104 t107 _ A1.out).mono ?_); rintro e w35 ⟨v102, v105, rfl, ho0, ho1, hb⟩; refine ⟨_, rfl, ?_⟩; have HO103 := Aside0.mk (Kd.N_lower (Kd.N_mono (ok' := fun k_ => some k_ ≠ (v105 : Value).ownBlock) ho0 (fun k_ hk_ => hk_.2)) (below_size (tB))); have HO106 := Aside0.mk (Kd.R_lower (Kd.R_mono (ok' := fun k_ => True) ho1 (fun _ hk_ => trivial)) (below_size (tB))); replace HB := tA HB hb; (try clear hb); (try clear hb2); (try clear hk); (try clear hi); (try clear ho0); (try clear ho1); obtain ⟨Ao36, co36, eo36⟩ := Kd.N_slice HO103.out; subst eo36; obtain ⟨Ao37, co37, eo37⟩ := Kd.R_slice HO106.out; subst eo37) | ((with_reducible refine gate_callee (f := 11) rfl ?_); refine goesL_ (some 5) rfl rfl Try.func11 (by kernel_rfl) rfl #[.agg #[.slice Ao36 t101.length co36, .slice Ao37 t104.length co37, .bool t107]] rfl (by (try simp only [List.map_toArray, List.map_cons, List.map_nil]); first | done | rfl | (simp only [List.length_drop, List.length_take]; rfl)) ?_; (with_reducible refine (witness_Dead.calls k _ _ t101 _ _ t104 t107 t108 true _ (tC (Kd.N_reads' HO103.out).2.2) ((Kd.N_reads' HO103.out).2.1) (tC (Kd.R_reads' HO106.out).2.2) ((Kd.R_reads' HO106.out).2.1) A2.out).mono ?_); rintro e w38 ⟨v109, rfl, ho0, hb⟩; refine ⟨_, rfl, ?_⟩; replace HO103 := Aside0.mk (Kd.N_elder' (tR HO103) (Kd.R_base ho0) hb); replace HO106 := Aside0.mk (Kd.R_below (tR HO106) hb); have HO110 := Aside0.mk (Kd.R_lower ho0 (below_size (tB))); replace HB := tA HB hb; (try clear hb); (try clear hb2); (try clear hk); (try clear hi); (try clear ho0)) | ((with_reducible refine gate_dst (N := 11) rfl ?_); (try (refine gate_guard (by rfl) ?_; dsimp only)); refine Kd.R_lit (Kd.int .i64) _ 3 ?hg (N := 11) ?hd (xs := ([0] : List Int)) (inner := [.int .i64 0]) (ok := fun _ => True) (okp := fun _ => True) ?hr ?hp (fun _ hk => hk) trivial (Below.refl _ _) (Nat.le_refl _) (by simp) ?_; (case hd => rfl); (case hg => rfl); (case hr => first | (go_simp; done) | (go_simp; rfl)); (case hp => exact (Reps.one (show Kd.M (Kd.int .i64) _ _ _ 0 [.int .i64 0] from rfl) (Reps.none _ _))); intro v113 w39 ho40 hb hg_ hnew_; clear hg_ hnew_; (first | rw [← Ny112.out] at ho40 | (simp only [Int.reduceToNat] at ho40; rw [← Ny112.out] at ho40)); replace HO103 := Aside0.mk (Kd.N_elder' (tR HO103) (Kd.R_base ho40) hb); replace HO106 := Aside0.mk (Kd.R_below (tR HO106) hb); have HO114 := Aside0.mk (Kd.R_lower (Kd.R_new' ho40 (Kd.R_lt (tR HO110))) (below_size (tB))); replace HO110 := Aside0.mk (Kd.R_elder' (tR HO110) (Kd.R_base ho40) hb); replace HB := tA HB hb; clear hb ho40; obtain ⟨Ao41, co41, eo41⟩ := Kd.R_slice HO110.out; subst eo41; obtain ⟨Ao42, co42, eo42⟩ := Kd.R_slice HO114.out; subst eo42) | (go_at_call 13; (with_reducible refine (r04_Same.calls k _ _ t108 _ _ y112 false _ (tC (Kd.R_reads' HO110.out).2.2) ((Kd.R_reads' HO110.out).2.1) (tC (Kd.R_reads' HO114.out).2.2) ((Kd.R_reads' HO114.out).2.1) A4.out).mono ?_); rintro e w' ⟨rfl, ⟨nd, rfl⟩⟩))
  go_ret
  exact ⟨tE, tB⟩
 replace c3 := Bool.eq_false_iff.mpr c3
 subst c3
 rw [if_neg (show ¬ (false = true) by decide)] at H
 obtain rfl := Option.some.inj H
 go_enter Try.func10, Try.ntmps10
 go_wp2_with (first | ((with_reducible refine gate_callee (f := 33) rfl ?_); refine goesL_ (some 4) rfl rfl Try.func33 (by kernel_rfl) rfl #[] rfl (by (try simp only [List.map_toArray, List.map_cons, List.map_nil]); first | done | rfl | (simp only [List.length_drop, List.length_take]; rfl)) ?_; (with_reducible refine (l16_step.calls  t101 t104 t107 _ A1.out).mono ?_); rintro e w43 ⟨v102, v105, rfl, ho0, ho1, hb⟩; refine ⟨_, rfl, ?_⟩; have HO103 := Aside0.mk (Kd.N_lower (Kd.N_mono (ok' := fun k_ => some k_ ≠ (v105 : Value).ownBlock) ho0 (fun k_ hk_ => hk_.2)) (below_size (tB))); have HO106 := Aside0.mk (Kd.R_lower (Kd.R_mono (ok' := fun k_ => True) ho1 (fun _ hk_ => trivial)) (below_size (tB))); replace HB := tA HB hb; (try clear hb); (try clear hb2); (try clear hk); (try clear hi); (try clear ho0); (try clear ho1); obtain ⟨Ao44, co44, eo44⟩ := Kd.N_slice HO103.out; subst eo44; obtain ⟨Ao45, co45, eo45⟩ := Kd.R_slice HO106.out; subst eo45) | ((with_reducible refine gate_callee (f := 11) rfl ?_); refine goesL_ (some 5) rfl rfl Try.func11 (by kernel_rfl) rfl #[.agg #[.slice Ao44 t101.length co44, .slice Ao45 t104.length co45, .bool t107]] rfl (by (try simp only [List.map_toArray, List.map_cons, List.map_nil]); first | done | rfl | (simp only [List.length_drop, List.length_take]; rfl)) ?_; (with_reducible refine (witness_Dead.calls k _ _ t101 _ _ t104 t107 t108 false _ (tC (Kd.N_reads' HO103.out).2.2) ((Kd.N_reads' HO103.out).2.1) (tC (Kd.R_reads' HO106.out).2.2) ((Kd.R_reads' HO106.out).2.1) A2.out).mono ?_); rintro e w46 ⟨v109, rfl, ho0, hb⟩; refine ⟨_, rfl, ?_⟩; replace HO103 := Aside0.mk (Kd.N_elder' (tR HO103) (Kd.R_base ho0) hb); replace HO106 := Aside0.mk (Kd.R_below (tR HO106) hb); have HO110 := Aside0.mk (Kd.R_lower ho0 (below_size (tB))); replace HB := tA HB hb; (try clear hb); (try clear hb2); (try clear hk); (try clear hi); (try clear ho0)))
 go_ret
 exact ⟨tE, tB⟩
end Go.Proofs.Ytfnjbgggmddgpaa.Q
end
section
set_option linter.unusedVariables false
set_option linter.unusedSimpArgs false
namespace Go.Proofs.Ytfnjbgggmddgpaa.Q
open Go.RowKit Go.Proofs.Fn Go.Proofs.YtfnjbgggmddgpaaW.PrintWords Go.Proofs.Gr
theorem mem_row {n : Nat} {es : List S80} {s : Int} {e : S80} (h : e ∈ row n es s) : e ∈ es ∧ cnt n s e = true := by
  have key : ∀ (l a : List S80), e ∈ l.foldl (fun l e => insE e l) a → e ∈ a ∨ e ∈ l := by
    intro l
    induction l with
    | nil => intro a h; exact .inl h
    | cons x l ih =>
      intro a h
      rcases ih _ h with h | h
      · rcases mem_insE h with rfl | h
        · exact .inr List.mem_cons_self
        · exact .inl h
      · exact .inr (List.mem_cons_of_mem _ h)
  rcases key _ _ h with h | h
  · cases h
  · exact List.mem_filter.1 h
theorem row_len (n : Nat) (es : List S80) (s : Int) : (row n es s).length ≤ es.length := by
  have key : ∀ (l a : List S80), (l.foldl (fun l e => insE e l) a).length ≤ a.length + l.length := by
    intro l
    induction l with
    | nil => intro a; simp
    | cons x l ih =>
      intro a
      have h1 := ih (insE x a)
      have h2 := insE_len x a
      simp only [List.foldl_cons, List.length_cons]; omega
  have h1 := key (es.filter (cnt n s)) []
  have h2 := List.length_filter_le (cnt n s) es
  have h3 : (row n es s).length ≤ ([] : List S80).length + (es.filter (cnt n s)).length := h1
  simp only [List.length_nil] at h3
  omega
theorem tab_get {n : Nat} {es : List S80} {i : Nat} (h : i < n) : (tab n es).getD i [] = row n es (i : Int) := by simp [tab, h]
theorem tab_ok {n : Nat} {es : List S80} (hn : n ≤ 1000000) (he : es.length ≤ 1000000) : OkT n (tab n es) := by
  refine ⟨by simp [tab], hn, fun i hi => ?_, fun i hi e h => ?_⟩
  · rw [tab_get hi]; exact Nat.le_trans (row_len _ _ _) he
  · rw [tab_get hi] at h
    have := (mem_row h).2
    simp only [cnt, Bool.and_eq_true, decide_eq_true_eq] at this
    omega
theorem Found.none {n : Nat} {T : List (List S80)} {g : Nat → Bool} {a : Int} {l : List Int} {ok : Bool} (h : Found n T g a l ok) (hg : ∀ i, i < n → g i = false) : l = [] ∧ ok = false := by
  cases ok with
  | false => exact ⟨h.no rfl, rfl⟩
  | true =>
    obtain ⟨s, t, _, _, ht, _, h2⟩ := h.way rfl
    rw [hg t ht] at h2; cases h2
theorem alive_ev : Evn (fun k => l16_alive.f k) true :=
  ⟨20, fun k hk => by
    obtain ⟨n, rfl⟩ := Nat.exists_eq_add_of_le' hk
    kernel_rfl⟩
theorem few_eq (st : List (List Int)) (es : List S80) (b : Bool) : l16_few.f st es b = some (decide (st.length ≤ 16 ∧ es.length ≤ 40)) := by
  unfold l16_few.f
  by_cases c : (st.length : Int) ≤ 16
  · rw [if_pos c]; congr 1; rw [Bool.eq_iff_iff]; simp only [decide_eq_true_eq]; omega
  · rw [if_neg c]; congr 1; symm; rw [decide_eq_false_iff_not]; omega
end Go.Proofs.Ytfnjbgggmddgpaa.Q
end
section
namespace Go.Proofs.Ytfnjbgggmddgpaa.Q
open Go.RowKit Go.Proofs.Fn Go.Proofs.YtfnjbgggmddgpaaW.PrintWords Go.Proofs.YtfnjbgggmddgpaaW.PrintLast Go.Proofs.YtfnjbgggmddgpaaW.PrintMore
attribute [local go_sem] max2_int min2_int max_two min_two max_three min_three max_four min_four
set_option linter.unusedVariables false
set_option linter.unusedSimpArgs false
def r04_Copy.l0 : Nat → List Int → List Int → Int → Option (List Int)
 | 0, _, _, _ => none
 | k + 1, x0, x3, x4 => if x4 < (x0.length : Int) then (if 0 ≤ x4 then (if x3.length < 17592186044416 then (r04_Copy.l0 k x0 (x3 ++ [rd x0 x4]) (wrap64 (x4 + 1))) else (none)) else (none)) else (some x3)
def r04_Copy.f (k : Nat) (l0 : List Int) : Option (List Int) := r04_Copy.l0 k l0 ([] : List Int) 0
set_option maxHeartbeats 8000000 in
set_option maxRecDepth 100000 in
theorem r04_Copy.calls (k : Nat) (A0 : Option Addr) (c0 : Nat) (l0 : List Int) (r : List Int) (w : World) (hr0 : Kd.C (Kd.int .i64) w A0 l0.length l0) (hc0 : l0.length ≤ c0) (h : r04_Copy.f k l0 = some r) :
  Calls Try.prog 47 #[.slice A0 l0.length c0] w fun e w' => ∃ v0_ : Value, e = .returned (v0_) ∧ Kd.R (Kd.int .i64) 3 w' w.heap.size (fun _ => True) v0_ r ∧ Below w.heap.size w w' := by
 have HR0 := Aside0.mk hr0
 have HC0 := Aside0.mk hc0
 clear hr0 hc0
 have HB := Aside0.mk (Below.refl w.heap.size w)
 have H : (r04_Copy.l0 k l0 ([] : List Int) 0) = some r := h
 clear h
 have H' := Aside0.mk H
 clear H
 go_enter Try.func47, Try.ntmps47
 go_wp2
 go_loopg [3, 4] k (fun kq v3 v4 w' => ∃ (x3_1 : List Int) (x4_1 : Int), v4 = .int .i64 x4_1 ∧ Aside0 (r04_Copy.l0 kq l0 x3_1 x4_1 = some r) ∧ Aside0 (kq ≤ k) ∧ Aside0 (Kd.R (Kd.int .i64) 3 w' w.heap.size (fun _ => True) v3 x3_1) ∧ Aside0 (Below w.heap.size w w'))
 case atStart => exact ⟨(([] : List Int)), (0), tU, H', ⟨Nat.le_refl _⟩, ⟨tV⟩, ⟨tB⟩⟩
 case round =>
  clear H'
  obtain ⟨x3_1, x4_1, rfl, HA, HK1, HO_3, HB⟩ := hrel
  cases gk with
  | zero => exact absurd HA.out (by simp [r04_Copy.l0])
  | succ k1 =>
   have H := HA.out
   clear HA
   simp only [r04_Copy.l0] at H
   by_cases c2 : x4_1 < (l0.length : Int)
   ·rw [if_pos c2] at H
    have c2b0 := decide_eq_true c2
    clear c2
    replace H := tF H
    obtain ⟨c3, H⟩ := H
    have c3b0 := decide_eq_true c3
    clear c3
    replace H := tF H
    obtain ⟨c4, H⟩ := H
    have LMc4 := Aside0.mk c4
    clear c4
    obtain ⟨y102, hy102⟩ : ∃ y_ : List Int, y_ = (x3_1 ++ [rd l0 x4_1]) := ⟨_, rfl⟩
    replace H : (r04_Copy.l0 k1 l0 y102 (wrap64 (x4_1 + 1))) = some r := tQ hy102 H
    have Ny102 := Aside0.mk hy102
    clear hy102
    have H' := Aside0.mk H
    clear H
    have p101 : 0 ≤ (x4_1 : Int) := tD
    have q101 : x4_1 < (l0.length : Int) := tD
    obtain ⟨ad101, e101, hx101_0⟩ := Kd.at_int HR0.out x4_1 p101 q101
    cases e101
    replace hx101_0 := tH HB hx101_0
    replace p101 := eq_true p101
    replace q101 := eq_true q101
    go_wp2_with (first | ((with_reducible refine gate_builtin (b := .append) (xs := #[.tmp 11, .tmp 16]) rfl ?_); at_builtin; refine Kd.R_append (Kd.int .i64) (w0 := w) w.heap.size rfl (.tmp 11) (.tmp 16) 28 3 (.int .i64 0) 8 rfl Try.underlying28 info3 rfl (by decide) (by omega) u3 x3_1 (rd l0 x4_1) [.int .i64 (rd l0 x4_1)] (fun _ => True) (fun _ => False) rfl rfl ?aP (fun _ hk => hk.elim) ?aF ?aO ?aB ?aS ?aL ?_; (case aP => exact rfl); (case aB => exact (tB)); (case aF => exact (fun _ _ => trivial)); (case aO => exact (tR HO_3)); (case aS => exact (below_size (tB))); (case aL => have := LMc4.out; omega); intro v103 w5 ho hb hg hat; rw [← Ny102.out] at ho; replace HB := Aside0.mk (hb); have HO104 := Aside0.mk (ho); clear HO_3; clear ho hb hg hat))
    go_roundg k1
    case measure => have := HK1.out; omega
    case rel => exact ⟨(y102), (wrap64 (x4_1 + 1)), tU, H', ⟨by have := HK1.out; omega⟩, ⟨tR HO104⟩, ⟨tB⟩⟩
   rw [if_neg c2] at H
   have c2b0 := decide_eq_false c2
   clear c2
   obtain rfl := Option.some.inj H
   go_wp2
   go_ret
   exact ⟨_, tE, by (with_reducible repeat (first | apply Kd.R_alloc | apply Kd.R_drewN | apply Kd.R_drew)); exact HO_3.out, tB⟩
theorem eqA46 (d : Nat) (w : World) (x0 y0 : Int) (x1 y1 : Int) :
  (Op.equalIn (d + 2) 46 (.agg #[.int .i64 x0, .int .i64 x1]) (.agg #[.int .i64 y0, .int .i64 y1])).run Try.prog w = .ok (x0 == y0 && (x1 == y1)) w := by
 refine eqA_of Try.underlying46 (by kernel_rfl) ?_
 refine eqf_cons (by rfl) (by go_simp; rfl) (by go_simp; rfl) (by go_simp) ?_
 exact eqf_last (by rfl) (by go_simp; rfl) (by go_simp; rfl) (by go_simp)
end Go.Proofs.Ytfnjbgggmddgpaa.Q
end
section
set_option linter.unusedVariables false
set_option linter.unusedSimpArgs false
namespace Go.Proofs.Ytfnjbgggmddgpaa.Q
open Go.RowKit Go.Proofs.Fn Go.Proofs.YtfnjbgggmddgpaaW.PrintWords Go.Proofs.YtfnjbgggmddgpaaW.PrintMore Go.Proofs.Gr
theorem rd_get {xs : List Int} {i : Nat} (h : i < xs.length) : rd xs (i : Int) = xs[i] := by simp [rd, h]
theorem rdL3 {xs : List (List Int)} {i : Nat} (h : i < xs.length) : rd_L3 xs (i : Int) = xs[i] := by simp [rd_L3, h]
theorem same2_ev (a b : List Int) (ha : a.length ≤ 1000000) : Evn (fun k => r04_Same.f k a b) (decide (a = b)) := by
  unfold r04_Same.f
  by_cases hl : a.length = b.length
  · refine Evn.pos (by omega) ?_
    have key : ∀ (m i : Nat), i + m = a.length → Evn (fun k => r04_Same.l0 k a b (i : Int)) (decide (a.drop i = b.drop i)) := by
      intro m
      induction m with
      | zero =>
        intro i hi
        refine Evn.succ ?_
        simp only [r04_Same.l0]
        refine Evn.neg (by omega) ?_
        rw [List.drop_of_length_le (by omega), List.drop_of_length_le (by omega)]
        exact Evn.const _
      | succ m ih =>
        intro i hi
        have h1 : i < a.length := by omega
        have h2 : i < b.length := by omega
        refine Evn.succ ?_
        simp only [r04_Same.l0, wrap_succ (show i < 9223372036854775807 by omega), rd_get h1, rd_get h2]
        refine Evn.pos (by omega) (Evn.pos (by omega) (Evn.pos (by omega) ?_))
        rw [List.drop_eq_getElem_cons h1, List.drop_eq_getElem_cons h2]
        by_cases c : a[i] = b[i]
        · have := ih (i + 1) (by omega)
          refine Evn.pos c ?_
          rw [show decide (a[i] :: a.drop (i + 1) = b[i] :: b.drop (i + 1)) = decide (a.drop (i + 1) = b.drop (i + 1)) by rw [c]; congr 1; rw [List.cons.injEq]; simp only [true_and]]
          exact this
        · refine Evn.neg c ?_
          have : decide (a[i] :: a.drop (i + 1) = b[i] :: b.drop (i + 1)) = false := by
            rw [decide_eq_false_iff_not, List.cons.injEq]; exact fun h => c h.1
          rw [this]
          exact Evn.const _
    exact key a.length 0 (by omega)
  · refine Evn.neg (by omega) ?_
    have : decide (a = b) = false := by
      rw [decide_eq_false_iff_not]; intro h; exact hl (by rw [h])
    rw [this]
    exact Evn.const _
theorem copy_ev (m : List Int) (hm : m.length ≤ 1000000) : Evn (fun k => r04_Copy.f k m) m := by
  have key : ∀ (j i : Nat), i + j = m.length → Evn (fun k => r04_Copy.l0 k m (m.take i) (i : Int)) m := by
    intro j
    induction j with
    | zero =>
      intro i hi
      refine Evn.succ ?_
      simp only [r04_Copy.l0]
      refine Evn.neg (by omega) ?_
      rw [List.take_of_length_le (by omega)]
      exact Evn.const _
    | succ j ih =>
      intro i hi
      have hil : i < m.length := by omega
      refine Evn.succ ?_
      simp only [r04_Copy.l0, wrap_succ (show i < 9223372036854775807 by omega), rd_get hil]
      refine Evn.pos (by omega) (Evn.pos (by omega) (Evn.pos (by simp; omega) ?_))
      have := ih (i + 1) (by omega)
      rwa [List.take_succ_eq_append_getElem hil] at this
  exact key m.length 0 (by omega)
end Go.Proofs.Ytfnjbgggmddgpaa.Q
end
section
set_option linter.unusedVariables false
set_option linter.unusedSimpArgs false
namespace Go.Proofs.Ytfnjbgggmddgpaa.Q
open Go.RowKit Go.Proofs.Fn Go.Proofs.YtfnjbgggmddgpaaW.PrintWords Go.Proofs.YtfnjbgggmddgpaaW.PrintLast Go.Proofs.YtfnjbgggmddgpaaW.PrintMore
attribute [local go_sem] max2_int min2_int max_two min_two max_three min_three max_four min_four
abbrev Pth := List Int × Int
def kP : Kd Pth := Kd.pair (Kd.slice 3 (Kd.int .i64)) (Kd.int .i64)
def plev (T : List (List S66)) : List Pth → List (List Int) → List Pth → List (List Int) × List Pth × Bool
  | [], out, nxt => (out, nxt, false)
  | p :: lev, out, nxt => if out.length = 5000 then (out, nxt, true) else plev T lev (out ++ [p.1]) (nxt ++ (rd_L66 T p.2).map (fun x => (p.1 ++ [x.f0], x.f1)))
def lang (T : List (List S66)) : Nat → List Pth → List (List Int) → List (List Int) × Bool
  | 0, _, out => (out, false)
  | n + 1, lev, out => if (plev T lev out []).2.2 = true then ((plev T lev out []).1, true) else lang T n (plev T lev out []).2.1 (plev T lev out []).1
def okTab (T : List (List S66)) : Bool := decide (0 < T.length ∧ T.length ≤ 1000000) && T.all (fun r => decide (r.length ≤ 1000) && r.all (fun x => decide (0 ≤ x.f1 ∧ x.f1 < (T.length : Int))))
theorem info100 : (Try.prog.info? 100).map (fun i => (i.zero, i.size, i.bytes)) = some (some (.agg #[.slice none 0 0, .int .i64 0]), 2, 32) := by kernel_rfl
structure JOK (J : Bool → List (List Int) → World → (Nat → Prop) → (Nat → Prop) → Prop) : Prop where
  step : ∀ {s o W W' M ok}, J s o W M ok → W.heap.size ≤ W'.heap.size → (∀ k, ok k → k < W.heap.size → W'.heap[k]? = W.heap[k]?) → J s o W' M ok
  mono : ∀ {s o W M ok ok'}, J s o W M ok → (∀ k, ok k → ok' k) → J s o W M ok'
  bound : ∀ {s o W M ok}, J s o W M ok → J s o W M (fun k => ok k ∧ k < W.heap.size)
  mu : ∀ {s o W M ok}, J s o W M ok → ∀ k, M k → ok k ∧ k < W.heap.size
def GB (T : List (List S66)) (kk : Int) (bk bg : Nat) (Ag : Option Addr) (cg : Nat) (W : World) : Prop :=
  W.heap[bk]? = some (.cells #[.int .i64 kk] 3 (0, 0)) ∧ W.heap[bg]? = some (.cells #[.slice Ag T.length cg] 56 (0, 0)) ∧ Kd.C (Kd.slice 66 k66) W Ag T.length T
def YH (J : Bool → List (List Int) → World → (Nat → Prop) → (Nat → Prop) → Prop) (w : World) (l m : Nat) : Prop :=
  ∀ o W M ok okx (x : List Int) A c, o.length ≤ 5000 → J false o W M ok → Below w.heap.size w W → Kd.F (Kd.int .i64) W okx A x.length x → x.length ≤ c → (∀ k, M k → ¬ okx k) →
    YieldAt Fence.wide m Try.prog l #[.slice A x.length c] W fun e W' => ∃ M' ok', (∀ k, M' k → M k ∨ W.heap.size ≤ k) ∧ (∀ k, ok' k → ok k ∨ okx k ∨ W.heap.size ≤ k) ∧ Kept W W' M ∧ Below w.heap.size w W' ∧
      ((o.length ≠ 5000 ∧ e = .returned (.bool true) ∧ J false (o ++ [x]) W' M' ok') ∨ (o.length = 5000 ∧ e = .returned (.bool false) ∧ J true o W' M' ok'))
theorem kP_K {W : World} {x : List Int} {a : Int} {A : Option Addr} {c : Nat} (hc : x.length ≤ c) (h : Kd.C (Kd.int .i64) W A x.length x) : kP.K W (x, a) [.slice A x.length c, .int .i64 a] :=
  ⟨[.slice A x.length c], [.int .i64 a], rfl, ⟨A, c, rfl, hc, h⟩, rfl⟩
theorem kP_open {W : World} {x : Pth} {cs : List Value} (h : kP.K W x cs) : ∃ A c, cs = [.slice A x.1.length c, .int .i64 x.2] ∧ x.1.length ≤ c ∧ Kd.C (Kd.int .i64) W A x.1.length x.1 := by
  obtain ⟨_, _, rfl, ⟨A, c, rfl, hl, hC⟩, rfl⟩ := h
  exact ⟨A, c, rfl, hl, hC⟩
theorem reps_one {α : Type} {d : Kd α} {W : World} {ok : Nat → Prop} {x : α} {cs : List Value} (h : Kd.FK d W ok x cs) : Reps (Kd.FK d W ok) d.sz [x] cs := by
  have hl := d.K_len (Kd.FK_now h)
  refine ⟨by simpa using hl, fun j p hj => ?_⟩
  rcases j with _ | j
  · simp only [List.getElem?_cons_zero, Option.some.injEq] at hj
    subst hj
    rw [Nat.zero_mul, List.drop_zero, List.take_of_length_le (by omega)]
    exact h
  · simp at hj
theorem at_P {w : World} {base : Nat} {ok : Nat → Prop} {ad : Addr} {n cap : Nat} {xs : List Pth} (h : Kd.N kP 100 w base ok (.slice (some ad) n cap) xs) (i : Nat) (h1 : i < n) {x : List Int} {a : Int} (hx : xs.getD i ([], 0) = (x, a)) :
    ∃ A c, w.cell? (ad.add (i * 2)) = some (.slice A x.length c) ∧ w.cell? ⟨(ad.add (i * 2)).block, (ad.add (i * 2)).off + 1, none⟩ = some (.int .i64 a) ∧ x.length ≤ c ∧ Kd.F (Kd.int .i64) w ok A x.length x := by
  obtain ⟨cs, hcl, hK, hcc⟩ := Kd.N_get h ([], 0) (i : Int) (by omega) (by omega)
  simp only [Int.toNat_natCast] at hK hcc
  rw [hx] at hK
  obtain ⟨A, c, rfl, hl, hC⟩ := kP_open (Kd.FK_now hK)
  have e0 := hcc 0 _ rfl
  have e1 := hcc 1 _ rfl
  have hsz : kP.sz = 2 := rfl
  rw [hsz] at e0 e1
  refine ⟨A, c, by simpa using e0, by rw [← add_field _ _ 1 (by omega)]; exact e1, hl, ?_⟩
  refine Foot.mono (Foot.imp hK (fun W' hk => ?_)) (fun k hk => hk.1)
  obtain ⟨A', c', e, _, hC'⟩ := kP_open hk
  injection e with e _
  injection e with ea _ _
  subst ea
  exact hC'
def Lv (J : Bool → List (List Int) → World → (Nat → Prop) → (Nat → Prop) → Prop) (w : World) (T : List (List S66)) (kk : Int) (bk bg : Nat) (Ag : Option Addr) (cg : Nat) (R : List (List Int) × Bool) (kq : Nat) (n : Nat) (v4 : Value) (W : World) (lev : List Pth) (out : List (List Int)) (M : Nat → Prop) : Prop :=
  n + kq = kk.toNat + 1 ∧ lang T kq lev out = R ∧ out.length ≤ 5000 ∧ (∀ p ∈ lev, p.1.length ≤ n ∧ 0 ≤ p.2 ∧ p.2 < (T.length : Int)) ∧ J false out W M (fun _ => True) ∧ Kd.N kP 100 W w.heap.size (fun k => ¬ M k) v4 lev ∧
    Foot (GB T kk bk bg Ag cg) W (fun k => ¬ M k) ∧ Below w.heap.size w W
def Lw (J : Bool → List (List Int) → World → (Nat → Prop) → (Nat → Prop) → Prop) (w : World) (T : List (List S66)) (kk : Int) (bk bg : Nat) (Ag : Option Addr) (cg : Nat) (R : List (List Int) × List Pth × Bool) (n : Nat) (lev : List Pth) (v4 : Value) (i : Nat) (v6 : Value) (W : World) (nxt : List Pth) (out : List (List Int)) (M : Nat → Prop) : Prop :=
  i ≤ lev.length ∧ plev T (lev.drop i) out nxt = R ∧ out.length ≤ 5000 ∧ nxt.length ≤ 1000 * out.length ∧ (∀ p ∈ nxt, p.1.length ≤ n + 1 ∧ 0 ≤ p.2 ∧ p.2 < (T.length : Int)) ∧ J false out W M (fun k => some k ≠ v6.ownBlock) ∧ Kd.N kP 100 W w.heap.size (fun k => ¬ M k ∧ some k ≠ v6.ownBlock) v4 lev ∧
    Kd.N kP 100 W w.heap.size (fun k => ¬ M k) v6 nxt ∧ Foot (GB T kk bk bg Ag cg) W (fun k => ¬ M k ∧ some k ≠ v6.ownBlock) ∧ Below w.heap.size w W
def Lx (J : Bool → List (List Int) → World → (Nat → Prop) → (Nat → Prop) → Prop) (w : World) (T : List (List S66)) (kk : Int) (bk bg : Nat) (Ag : Option Addr) (cg : Nat) (lev : List Pth) (v4 : Value) (gp : Nat) (ps : List Int) (pa : Int) (Ap : Option Addr) (cp : Nat) (Ar : Option Addr) (row : List S66) (out : List (List Int)) (M : Nat → Prop) (v6 : Value) (W : World) (nxt : List Pth) : Prop :=
  J false out W M (fun k => some k ≠ v6.ownBlock ∧ k ≠ gp) ∧ Kd.N kP 100 W w.heap.size (fun k => (¬ M k ∧ some k ≠ v6.ownBlock) ∧ k ≠ gp) v4 lev ∧ Kd.N kP 100 W w.heap.size (fun k => ¬ M k ∧ k ≠ gp) v6 nxt ∧
    Kd.F (Kd.int .i64) W (fun k => (¬ M k ∧ some k ≠ v6.ownBlock) ∧ k ≠ gp) Ap ps.length ps ∧ Foot (GB T kk bk bg Ag cg) W (fun k => (¬ M k ∧ some k ≠ v6.ownBlock) ∧ k ≠ gp) ∧
    Kd.F k66 W (fun k => (¬ M k ∧ some k ≠ v6.ownBlock) ∧ k ≠ gp) Ar row.length row ∧ W.heap[gp]? = some (.cells #[.slice Ap ps.length cp, .int .i64 pa] 100 (0, 0)) ∧ ¬ M gp ∧ Below w.heap.size w W
theorem at_row {W : World} {ok : Nat → Prop} {A : Option Addr} {T : List (List S66)} (h : Kd.F (Kd.slice 66 k66) W ok A T.length T) (a : Int) (h0 : 0 ≤ a) (h1 : a < (T.length : Int)) :
    ∃ ad A0 c0, A = some ad ∧ W.cell? (ad.add a.toNat) = some (.slice A0 (rd_L66 T a).length c0) ∧ (rd_L66 T a).length ≤ c0 ∧ Kd.F k66 W ok A0 (rd_L66 T a).length (rd_L66 T a) := by
  obtain ⟨ad, cs, e, hcl, hK, hcc, _⟩ := Kd.F_get h ([] : List S66) a h0 h1
  obtain ⟨A0, c0, rfl, hl, hC⟩ := Kd.FK_now hK
  refine ⟨ad, A0, c0, e, ?_, hl, Foot.imp hK (fun W' hk => ?_)⟩
  · have := hcc 0 _ rfl
    rw [show (Kd.slice 66 k66).sz = 1 from rfl, Nat.mul_one, Nat.add_zero] at this
    exact this
  · obtain ⟨A', c', e, _, hC'⟩ := hk
    injection e with e _
    injection e with ea _ _
    subst ea
    exact hC'
theorem R_make0 {P : Program} {ops : Array Oper} {Q : Exit → Act → World → Prop} {rest : List Oper} {o : Oper} {a : Act} {w0 W : World} (base : Nat) (hgd : o.guard = none) {N' : Tmp} (hd : o.dst = some N') (t : TypeId) (x y : Operand) (ho : o.op = .makeSlice t x y) (c : Nat) (hx : a.eval x = .int .i64 0) (hy : a.eval y = .int .i64 (c : Int))
    (ht : P.underlying t = some (.slice 3)) (hinfo : (P.info? 3).map (fun i => (i.zero, i.size, i.bytes)) = some (some (.int .i64 0), 1, 8)) (hc : c ≤ 1000) (HB : Below base w0 W) (hbase : base ≤ W.heap.size)
    (h : ∀ v1 w1, (Kd.int .i64).R 3 w1 base (fun _ => True) v1 [] → Below base w0 w1 → W.grownBy w1 none → (∃ b, v1.ownBlock = some b ∧ W.heap.size ≤ b) → wpList P ops Q rest (a.put o.dst v1) w1) :
    wpList P ops Q (o :: rest) a W := by
  obtain ⟨i0, hi, hzz⟩ := Option.map_eq_some_iff.1 hinfo
  simp only [Prod.mk.injEq] at hzz
  obtain ⟨hz0, hz1, hz2⟩ := hzz
  have hr := run_make (P := P) W t 3 i0 (.int .i64 0) ht hi hz0 .i64 .i64 0 (c : Int) (by omega) (by omega) (by rw [hz2]; omega) (by omega)
  simp only [Int.toNat_natCast] at hr
  rw [hz1] at hr
  refine Kd.event_run hgd (v := .slice (some ⟨W.heap.size, 0, none⟩) 0 c) (w1 := W.alloc (.cells (madeCells (Value.int .i64 0).cells (c * 1)) 3)) ?_ (h _ _ ⟨fun _ _ => trivial, [], ?_, ?_⟩ (HB.alloc hbase _) (World.grownBy_alloc W _ none) ⟨W.heap.size, by simp [Value.ownBlock], Nat.le_refl _⟩)
  · simp [execOp, ho, hx, hy, hr]
  · refine ⟨rfl, .inr ⟨W.heap.size, c, _, rfl, hbase, blk_new W _, Nat.zero_le _, by simp [maxLen]; omega, ?_, by simp⟩⟩
    simp [madeCells]; exact (Nat.mul_one c).symm
  · exact ⟨by simp, fun j p hj => by simp at hj⟩
def seq65T : Bool × List (List Nat × List Nat) := (true, [([], []), ([], []), ([1], [1]), ([0, 2], [0, 2]), ([], []), ([4], [4]), ([5], [5]), ([3, 6, 3], [3, 6]), ([7, 7, 0, 1, 2, 3, 4, 5, 6, 7], [0, 7])])
def seq65B : List Nat := [0, 0, 2, 7, 0, 16, 48, 127, 255]
theorem seq65_tab : rtab .any (opsOf Try.f65 13) = seq65T := by kernel_rfl
theorem seq65_bits : waitsOk seq65T.2 seq65B = true := by kernel_rfl
theorem C_one {W : World} {b : Nat} {y : Int} (h : W.heap[b]? = some (.cells #[.int .i64 y] 3 (0, 0))) : Kd.C (Kd.int .i64) W (some ⟨b, 0, none⟩) 1 [y] := by
  refine ⟨rfl, by decide, fun _ => ⟨_, rfl, fun j p hj => ?_⟩⟩
  rcases j with _ | j
  · simp only [List.getElem?_cons_zero, Option.some.injEq] at hj
    subst hj
    refine ⟨[.int .i64 y], rfl, rfl, fun i u hu => ?_⟩
    rcases i with _ | i
    · simp only [List.getElem?_cons_zero, Option.some.injEq] at hu
      subst hu
      exact (blk_cell h 0).trans rfl
    · simp at hu
  · simp at hj
def Sq (base : Nat) (wr : World) (gp gx : Nat) (vp : Value) (pa u0 u1 : Int) (W : World) : Prop :=
  Below base wr W ∧ W.heap[gp]? = some (.cells #[vp, .int .i64 pa] 100 (0, 0)) ∧ W.heap[gx]? = some (.cells #[.int .i64 u0, .int .i64 u1] 66 (0, 0))
theorem Sq.held {base : Nat} {wr : World} {gp gx : Nat} {vp : Value} {pa u0 u1 : Int} {W : World} (h : Sq base wr gp gx vp pa u0 u1 W) : W.cell? ⟨gp, 0, none⟩ = some vp ∧ W.cell? ⟨gx, 0, none⟩ = some (.int .i64 u0) :=
  ⟨(blk_cell h.2.1 0).trans rfl, (blk_cell h.2.2 0).trans rfl⟩
theorem Sq.grown {base : Nat} {wr : World} {gp gx : Nat} {vp : Value} {pa u0 u1 : Int} {W W' : World} (h : Sq base wr gp gx vp pa u0 u1 W) {v : Value} {xs : List Int} {ok : Nat → Prop} (hR : (Kd.int .i64).R 3 W base ok v xs) (hg : W.grownBy W' v.ownBlock) (hB : Below base wr W') : Sq base wr gp gx vp pa u0 u1 W' :=
  ⟨hB, (hg.block _ (Array.getElem?_eq_some_iff.1 h.2.1).1 (Kd.R_ne hR h.2.1 (by decide))).trans h.2.1, (hg.block _ (Array.getElem?_eq_some_iff.1 h.2.2).1 (Kd.R_ne hR h.2.2 (by decide))).trans h.2.2⟩
theorem Sq.alloc {base : Nat} {wr : World} {gp gx : Nat} {vp : Value} {pa u0 u1 : Int} {W : World} (h : Sq base wr gp gx vp pa u0 u1 W) (hb : base ≤ W.heap.size) (o : Obj) : Sq base wr gp gx vp pa u0 u1 (W.alloc o) :=
  ⟨h.1.alloc hb o, blk_alloc h.2.1 o, blk_alloc h.2.2 o⟩
set_option maxHeartbeats 4000000 in
set_option maxRecDepth 100000 in
theorem seq65 {J : Bool → List (List Int) → World → (Nat → Prop) → (Nat → Prop) → Prop} (hJ : JOK J) (w : World) (l m : Nat) (kk : Int) (T : List (List S66)) (hT : okTab T = true) (bk bg : Nat) (Ag : Option Addr) (cg : Nat)
    (hY : YH J w l m) (W : World) (M ok okG : Nat → Prop) (h0 : J false [] W M ok) (hB : Below w.heap.size w W) (hG : Foot (GB T kk bk bg Ag cg) W okG) (hGM : ∀ k, okG k → ¬ M k) (hkk : 0 ≤ kk ∧ kk ≤ 6) :
    Calls Try.prog 65 #[.func (.yield l) #[] #[], .pointer (some ⟨bk, 0, none⟩), .pointer (some ⟨bg, 0, none⟩)] W fun e W' => (∃ v, e = .returned v) ∧ ∃ M' ok', J (lang T (kk.toNat + 1) [([], 0)] []).2 (lang T (kk.toNat + 1) [([], 0)] []).1 W' M' ok' ∧ Below w.heap.size w W' := by
  have hu100 := Try.underlying100
  have hT1 : 0 < T.length ∧ T.length ≤ 1000000 := by simp only [okTab, Bool.and_eq_true, decide_eq_true_eq] at hT; exact hT.1
  have hT2 : ∀ r ∈ T, r.length ≤ 1000 ∧ ∀ x ∈ r, 0 ≤ x.f1 ∧ x.f1 < (T.length : Int) := by
    simp only [okTab, Bool.and_eq_true, List.all_eq_true, decide_eq_true_eq] at hT
    exact hT.2
  have HT1 := Aside0.mk hT1
  have HT2 := Aside0.mk hT2
  have HJ0 := Aside0.mk h0
  have HB := Aside0.mk hB
  have HG := Aside0.mk (Foot.mono hG hGM)
  have HKK := Aside0.mk hkk
  have HY := Aside0.mk hY
  obtain ⟨R, hR⟩ : ∃ R, lang T (kk.toNat + 1) [([], 0)] [] = R := ⟨_, rfl⟩
  rw [hR]
  have HR := Aside0.mk hR
  clear h0 hB hG hGM hY hT hT1 hT2 hR
  have hM0 : ¬ M W.heap.size := fun h => by have := (hJ.mu HJ0.out _ h).2; omega
  have fk0 : Kd.FK kP W (fun _ => False) (([] : List Int), (0 : Int)) [.slice none 0 0, .int .i64 0] := fun W' _ => kP_K (Nat.le_refl 0) (Kd.C_nil _ W')
  go_enter Try.func65, Try.ntmps65
  go_wp2_with ((with_reducible refine gate_dst (N := 13) rfl ?_); refine Kd.N_lit kP w.heap.size 100 rfl (N' := 13) rfl (xs := [(([] : List Int), (0 : Int))]) (inner := [.slice none 0 0, .int .i64 0]) (okp := fun _ => False) (ok := fun k => ¬ M k) ?hr (reps_one fk0) (fun _ h => h.elim) hM0 HB.out HB.out.size (by decide) ?_; (case hr => first | (go_simp; done) | (go_simp; rfl)); rintro v4 w1 hN hB1 hg1 -; have HJ1 := Aside0.mk (hJ.mono (hJ.step (hJ.bound HJ0.out) hg1.size (fun k hk hlt => hg1.block k hlt (by simp))) (ok' := fun _ => True) (fun _ _ => trivial)); have HG1 := Aside0.mk (Foot.step HG.out (fun k hk hlt => hg1.block k hlt (by simp))); have HN := Aside0.mk hN; replace HB := Aside0.mk hB1; clear hN hB1 hg1 HJ0 HG fk0 hM0)
  go_loopg [4, 5] (kk.toNat + 1) (fun kq v4 v5 w' => ∃ (n : Nat) (lev : List Pth) (out : List (List Int)) (M : Nat → Prop), v5 = .int .i64 (n : Int) ∧ Aside0 (Lv J w T kk bk bg Ag cg R kq n v4 w' lev out M))
  case atStart => exact ⟨0, _, [], M, rfl, ⟨by omega, HR.out, by simp, (by intro p hp; rw [List.mem_singleton.1 hp]; have := HT1.out; simp; omega), HJ1.out, HN.out, HG1.out, HB.out⟩⟩
  case round =>
    clear HJ1 HN HG1 HB HR
    obtain ⟨n, lev, out, M, rfl, HL⟩ := hrel
    obtain ⟨hnk, hlang, ho, hlev, hJ1, hN, hG, hB⟩ := HL.out
    have HJ1 := Aside0.mk hJ1
    have HN := Aside0.mk hN
    have HG := Aside0.mk hG
    have HB := Aside0.mk hB
    have HLEV := Aside0.mk hlev
    have HO := Aside0.mk ho
    have HBK := Aside0.mk (Foot.now hG).1
    clear HL hJ1 hN hG hB hlev ho
    obtain ⟨hcz1, hfz1⟩ := zc1 HBK
    have hkk := HKK.out
    cases gk with
    | zero =>
      have hle : decide ((n : Int) ≤ kk) = false := decide_eq_false (by omega)
      have hR : R = (out, false) := by rw [← hlang]; rfl
      subst hR
      clear hlang hnk hkk
      go_wp2
      go_end0
      exact ⟨⟨_, rfl⟩, ⟨M, _, HJ1.out⟩, HB.out⟩
    | succ k1 =>
      have hle : decide ((n : Int) ≤ kk) = true := decide_eq_true (by omega)
      have HNK := Aside0.mk hnk
      have HLANG := Aside0.mk hlang
      clear hlang hnk hkk
      obtain ⟨A4, c4, rfl⟩ := Kd.N_slice HN.out
      go_wp2
      go_loopg [6, 21] lev.length (fun kq v6 v21 w' => ∃ (i : Nat) (nxt : List Pth) (out' : List (List Int)) (M : Nat → Prop), v21 = .int .i64 (i : Int) ∧ Aside0 (i + kq = lev.length) ∧ Aside0 (Lw J w T kk bk bg Ag cg (plev T lev out []) n lev (.slice A4 lev.length c4) i v6 w' nxt out' M))
      case atStart => exact ⟨0, [], out, M, rfl, ⟨by omega⟩, ⟨by omega, by rw [List.drop_zero], HO.out, by simp, (fun p hp => by cases hp), hJ.mono HJ1.out (fun _ _ => by simp [Value.ownBlock]), Kd.N_mono HN.out (fun k hk => ⟨hk, by simp [Value.ownBlock]⟩), Kd.N_nil _ _ _ _ _, Foot.mono HG.out (fun k hk => ⟨hk, by simp [Value.ownBlock]⟩), HB.out⟩⟩
      case round =>
        clear hcz1 hfz1 hle HBK HJ1 HN HG HB HO
        obtain ⟨i, nxt, out2, M2, rfl, HI, HL⟩ := hrel
        obtain ⟨hi, hplev, ho, hnl, hnx, hJ1, hN, hNx, hG, hB⟩ := HL.out
        have HJ1 := Aside0.mk hJ1
        have HN := Aside0.mk hN
        have HNX := Aside0.mk hNx
        have HG := Aside0.mk hG
        have HB := Aside0.mk hB
        have HX := Aside0.mk hnx
        have HO := Aside0.mk ho
        have HNL := Aside0.mk hnl
        clear HL hJ1 hN hNx hG hB hnx ho hnl
        cases gk with
        | zero =>
          have hc : decide ((i : Int) < (lev.length : Int)) = false := decide_eq_false (by have := HI.out; omega)
          have hil : i = lev.length := by have := HI.out; omega
          subst hil
          rw [List.drop_length] at hplev
          have hlang := HLANG.out
          rw [lang, ← hplev] at hlang
          simp only [plev, Bool.false_eq_true, if_false] at hlang
          have HLANG2 := Aside0.mk hlang
          clear hlang hplev HLANG
          go_wp2
          go_roundg k1
          case measure => omega
          case rel =>
            refine ⟨n + 1, nxt, out2, M2, ?_, ⟨by have := HNK.out; omega, HLANG2.out, HO.out, HX.out, hJ.mono HJ1.out (fun _ _ => trivial), HNX.out, Foot.mono HG.out (fun k hk => hk.1), HB.out⟩⟩
            first | rfl | (have := HNK.out; have := HKK.out; simp; unfold wrap64; omega)
        | succ k2 =>
          have hc : decide ((i : Int) < (lev.length : Int)) = true := decide_eq_true (by have := HI.out; omega)
          have hil : i < lev.length := by have := HI.out; omega
          have HLL := Aside0.mk (Kd.N_reads' HN.out).2.2.2.1
          obtain ⟨ad4, rfl, _⟩ := (Kd.N_reads' HN.out).2.2.2.2 (by omega)
          have p1 : (0 ≤ (i : Int)) = True := eq_true (by omega)
          have q1 : ((i : Int) < (lev.length : Int)) = True := eq_true (by omega)
          obtain ⟨ps, pa, hp⟩ : ∃ ps pa, lev.getD i ([], 0) = (ps, pa) := ⟨_, _, rfl⟩
          have hmem : (ps, pa) ∈ lev := by rw [← hp, List.getD_eq_getElem?_getD, List.getElem?_eq_getElem hil]; exact List.getElem_mem hil
          have hps := HLEV.out _ hmem
          have hdrop : lev.drop i = (ps, pa) :: lev.drop (i + 1) := by
            rw [List.drop_eq_getElem_cons hil, ← hp, List.getD_eq_getElem?_getD, List.getElem?_eq_getElem hil]; rfl
          rw [hdrop] at hplev
          have HPL := Aside0.mk hplev
          have HPS := Aside0.mk hps
          obtain ⟨Ap, cp, hx0, hx1, hpc, hF⟩ := at_P HN.out i hil hp
          have HF := Aside0.mk hF
          have HPC := Aside0.mk hpc
          clear hF hpc hplev hdrop hmem hps hp
          go_upto_region 8 with fail
          clear hx0 hx1 hc p1 q1
          obtain ⟨W2, hW2⟩ : ∃ W2, wr.alloc (.cells #[.slice Ap ps.length cp, .int .i64 pa] 100) = W2 := ⟨_, rfl⟩
          have hb2 : Below wr.heap.size wr W2 := hW2 ▸ below_alloc (Below.refl _ _) _
          have hgp : W2.heap[wr.heap.size]? = some (.cells #[.slice Ap ps.length cp, .int .i64 pa] 100 (0, 0)) := hW2 ▸ blk_new wr _
          rw [hW2]
          clear hW2
          have keep2 : ∀ {p : Nat → Prop} k, p k ∧ k < wr.heap.size → k < wr.heap.size → W2.heap[k]? = wr.heap[k]? := fun k _ hk => hb2.block k hk
          have hJ2 := hJ.step (hJ.bound HJ1.out) hb2.size keep2
          have hN2 := Kd.N_step (Kd.N_bound HN.out) keep2
          have hX2 := Kd.N_step (Kd.N_bound HNX.out) keep2
          have hF2 := Kd.F_step (Kd.F_bound HF.out) keep2
          have hG2 := Foot.step (Foot.bound HG.out) keep2
          have hB2 : Below w.heap.size w W2 := below_then HB.out HB.out.size hb2
          obtain ⟨fn, tmps, assign, body, hy, hYR⟩ := HY.out out2 W2 M2 _ _ ps Ap cp HO.out hJ2 hB2 hF2 HPC.out (fun k hk hk2 => hk2.1.1 hk)
          obtain ⟨hcz0, hcz1, hfz0, hfz1⟩ := zc2 (Aside0.mk hgp)
          have HJ2 := Aside0.mk hJ2
          have HN2 := Aside0.mk hN2
          have HX2 := Aside0.mk hX2
          have HF2 := Aside0.mk hF2
          have HG2 := Aside0.mk hG2
          have HYR := Aside0.mk hYR
          have HGP := Aside0.mk hgp
          have HB2 := Aside0.mk hb2
          clear hJ2 hN2 hX2 hF2 hG2 hB2 hYR hgp hb2 keep2 HJ1 HN HNX HF HG HB
          refine (wpIn_wide (n := m + 1)).mp ?_
          gi_wp2
          refine HYR.out.mono ?_
          clear HYR
          rintro e W3 ⟨M3, ok3, hM3, hok3, hkept, hB3, (⟨ho3, rfl, hJ3⟩ | ⟨ho3, rfl, hJ3⟩)⟩
          rotate_left
          · have hlang := HLANG.out
            rw [lang, ← HPL.out] at hlang
            simp only [plev, ho3, if_true] at hlang
            subst hlang
            clear HLANG HPL hcz0 hcz1 hfz0 hfz1 hkept hM3 hok3 hy
            gi_wp2
            (try go_wp2)
            (try simp only [Exit.inBlock, Exit.then])
            refine bodyPost_ret (results_none rfl _ _ _) rfl ?_
            exact ⟨⟨_, rfl⟩, ⟨M3, _, hJ3⟩, hB3⟩
          obtain ⟨gp, hgp⟩ : ∃ g, wr.heap.size = g := ⟨_, rfl⟩
          have hsz2 : gp < W2.heap.size := by rw [← hgp]; exact (Array.getElem?_eq_some_iff.1 HGP.out).1
          have hM2 : ∀ k, M2 k → k < gp := fun k hk => by have := (hJ.mu HJ2.out k hk).1.2; omega
          have hu6 : ∀ k, u6.ownBlock = some k → k < W2.heap.size := Kd.N_lt HX2.out
          have hnM3 : ∀ k, ¬ M2 k → k < gp → ¬ M3 k := fun k h1 h2 h3 => by
            rcases hM3 k h3 with h | h
            · exact h1 h
            · omega
          have hJ4 : J false (out2 ++ [ps]) W3 M3 (fun k => some k ≠ u6.ownBlock ∧ k ≠ gp) := hJ.mono hJ3 (fun k hk => by
            rcases hok3 k hk with h | h | h
            · exact ⟨h.1, by have := h.2; omega⟩
            · exact ⟨h.1.2, by have := h.2; omega⟩
            · exact ⟨fun e => by have := hu6 k e.symm; omega, by omega⟩)
          have wk : ∀ {p : Nat → Prop} k, (¬ M2 k ∧ p k) ∧ k < wr.heap.size → (¬ M3 k ∧ p k) ∧ k ≠ gp := fun k hk => ⟨⟨hnM3 k hk.1.1 (by have := hk.2; omega), hk.1.2⟩, by have := hk.2; omega⟩
          have hN4 := Kd.N_mono (Kd.N_kept HN2.out hkept (fun k hk => hk.1.1)) (wk (p := fun k => some k ≠ u6.ownBlock))
          have hX4 : Kd.N kP 100 W3 w.heap.size (fun k => ¬ M3 k ∧ k ≠ gp) u6 nxt := Kd.N_mono (Kd.N_kept HX2.out hkept (fun k hk => hk.1)) (fun k hk => ⟨hnM3 k hk.1 (by have := hk.2; omega), by have := hk.2; omega⟩)
          have hF4 := Kd.F_mono (Kd.F_kept HF2.out hkept (fun k hk => hk.1.1)) (wk (p := fun k => some k ≠ u6.ownBlock))
          have hG4 := Foot.mono (Foot.step HG2.out (fun k hk hlt => hkept.2 k hlt (fun h => hk.1.1 h))) (wk (p := fun k => some k ≠ u6.ownBlock))
          have hgp4 : W3.heap[gp]? = some (.cells #[.slice Ap ps.length cp, .int .i64 pa] 100 (0, 0)) := by
            rw [hkept.2 gp hsz2 (fun h => by have := hM2 gp h; omega), ← hgp]; exact HGP.out
          have hMgp : ¬ M3 gp := fun h => by
            rcases hM3 gp h with h | h
            · have := hM2 gp h; omega
            · omega
          obtain ⟨adg, Ar, cr, hAg, hcr, hlr, hFr⟩ := at_row (Foot.imp hG4 (fun _ h => h.2.2)) pa HPS.out.2.1 HPS.out.2.2
          have hrow : (rd_L66 T pa).length ≤ 1000 ∧ ∀ x ∈ rd_L66 T pa, 0 ≤ x.f1 ∧ x.f1 < (T.length : Int) := by
            have : pa.toNat < T.length := by have := HPS.out.2; omega
            refine HT2.out _ ?_
            unfold rd_L66
            rw [List.getD_eq_getElem?_getD, List.getElem?_eq_getElem this]
            exact List.getElem_mem this
          have hpl := HPL.out
          rw [plev, if_neg ho3] at hpl
          obtain ⟨row, hrw⟩ : ∃ row, rd_L66 T pa = row := ⟨_, rfl⟩
          rw [hrw] at hcr hlr hFr hrow hpl
          have HPL2 := Aside0.mk hpl
          have HROW := Aside0.mk hrow
          have HLR := Aside0.mk hlr
          have HO3 := Aside0.mk ho3
          subst hAg
          have hbg := (Foot.now hG4).2.1
          have HX0 : Aside0 (Lx J w T kk bk bg (some adg) cg lev (.slice (some ad4) lev.length c4) gp ps pa Ap cp Ar row (out2 ++ [ps]) M3 u6 W3 nxt) := ⟨hJ4, hN4, hX4, hF4, hG4, hFr, hgp4, hMgp, hB3⟩
          obtain ⟨hcz0, hcz1, hfz0, hfz1⟩ := zc2 (Aside0.mk hgp4)
          obtain ⟨hcz2, hfz2⟩ := zc1 (Aside0.mk hbg)
          have p2 : (0 ≤ pa) = True := eq_true HPS.out.2.1
          have q2 : (pa < (T.length : Int)) = True := eq_true HPS.out.2.2
          rw [hgp]
          clear hJ4 hN4 hX4 hF4 hG4 hFr hgp4 hMgp hB3 hbg HJ2 HN2 HX2 HF2 HG2 HGP HB2 hkept hok3 hM3 hM2 hu6 hnM3 wk hJ3 hsz2 hlr hrow hpl ho3 HPL hy hrw hgp
          gi_wp2
          go_wp2
          go_loopg [6, 36] row.length (fun kq v6 v36 w' => ∃ (j : Nat), v36 = .int .i64 (j : Int) ∧ Aside0 (j + kq = row.length) ∧ Aside0 (Lx J w T kk bk bg (some adg) cg lev (.slice (some ad4) lev.length c4) gp ps pa Ap cp Ar row (out2 ++ [ps]) M3 v6 w' (nxt ++ (row.take j).map (fun x => (ps ++ [x.f0], x.f1)))))
          case atStart => exact ⟨0, rfl, ⟨by omega⟩, by rw [List.take_zero, List.map_nil, List.append_nil]; exact HX0⟩
          case round =>
            clear HX0 hcz0 hcz1 hfz0 hfz1 hcz2 hfz2 p2 q2 hcr
            obtain ⟨j, rfl, HJI, HLX⟩ := hrel
            cases gk with
            | zero =>
              have hjl : j = row.length := by have := HJI.out; omega
              subst hjl
              have hc : decide ((row.length : Int) < (row.length : Int)) = false := decide_eq_false (by omega)
              obtain ⟨kJ, kN, kX, kF, kG, kR, kgp, kM, kB⟩ := HLX.out
              rw [List.take_length] at kX
              have KJ := Aside0.mk kJ
              have KN := Aside0.mk kN
              have KX := Aside0.mk kX
              have KG := Aside0.mk kG
              have KB := Aside0.mk kB
              clear HLX kJ kN kX kF kG kR kgp kM kB
              go_wp2
              go_roundg k2
              case measure => omega
              case rel =>
                refine ⟨i + 1, _, out2 ++ [ps], M3, ?_, ⟨by have := HI.out; omega⟩, ⟨by omega, HPL2.out, by have := HO.out; have := HO3.out; simp; omega, ?_, ?_, hJ.mono KJ.out (fun k hk => hk.1), Kd.N_mono KN.out (fun k hk => hk.1), Kd.N_mono KX.out (fun k hk => hk.1), Foot.mono KG.out (fun k hk => hk.1), KB.out⟩⟩
                · first | rfl | (simp; done) | (have := HI.out; have := HLL.out; simp; unfold wrap64; omega)
                · have := HNL.out; have := HROW.out.1; simp; omega
                · intro p hp
                  rcases List.mem_append.1 hp with hp | hp
                  · exact HX.out p hp
                  · obtain ⟨x, hx, rfl⟩ := List.mem_map.1 hp
                    have := HPS.out.1
                    have := HROW.out.2 x hx
                    simp; omega
            | succ k3 =>
              have hjl : j < row.length := by have := HJI.out; omega
              have hc : decide ((j : Int) < (row.length : Int)) = true := decide_eq_true (by omega)
              obtain ⟨kJ, kN, kX, kF, kG, kR, kgp, kM, kB⟩ := HLX.out
              obtain ⟨adr, eAr, hx0, hx1⟩ := at_T66 (Kd.F_now kR) (j : Int) (by omega) (by omega)
              have kgl := (Array.getElem?_eq_some_iff.1 kgp).1
              have KGP := Aside0.mk kgp
              subst eAr
              have p3 : (0 ≤ (j : Int)) = True := eq_true (by omega)
              have q3 : ((j : Int) < (row.length : Int)) = True := eq_true (by omega)
              obtain ⟨x, hx⟩ : ∃ x, rd_T66 row (j : Int) = x := ⟨_, rfl⟩
              rw [hx] at hx0 hx1
              simp only [Int.toNat_natCast] at hx0 hx1
              clear kJ kN kX kF kG kR kgp kM kB
              go_upto_region 12 with fail
              clear hx0 hx1 p3 q3 hc
              obtain ⟨W4, hW4⟩ : ∃ W4, wr.alloc (.cells #[.int .i64 x.f0, .int .i64 x.f1] 66) = W4 := ⟨_, rfl⟩
              have hb4 : Below wr.heap.size wr W4 := hW4 ▸ below_alloc (Below.refl _ _) _
              have hgx : W4.heap[wr.heap.size]? = some (.cells #[.int .i64 x.f0, .int .i64 x.f1] 66 (0, 0)) := hW4 ▸ blk_new wr _
              have hgp4 : W4.heap[gp]? = some (.cells #[.slice Ap ps.length cp, .int .i64 pa] 100 (0, 0)) := (hb4.block gp kgl).trans KGP.out
              rw [hW4]
              clear hW4 KGP
              have HB4 := Aside0.mk hb4
              have HGX := Aside0.mk hgx
              have HGP4 := Aside0.mk hgp4
              obtain ⟨hcz0, hcz1, hfz0, hfz1⟩ := zc2 HGP4
              have hpl : ps.length ≤ 7 := by have := HPS.out.1; have := HNK.out; have := HKK.out; omega
              have hlen : wrap64 ((ps.length : Int) + 1) = ((ps.length + 1 : Nat) : Int) := by unfold wrap64; omega
              clear hb4 hgx hgp4
              go_wp2_with ((with_reducible refine gate_dst (N := 44) rfl ?_); refine R_make0 (w0 := wr) wr.heap.size rfl (N' := 44) rfl 28 (.const (.int .i64 0)) (.tmp 43) rfl (ps.length + 1) rfl ?hy Try.underlying28 info3 (by omega) HB4.out HB4.out.size ?_; (case hy => first | (go_simp; done) | (simp [hlen]; done) | rfl); rintro v11 W5 hR5 hB5 hg5 -; have HR5 := Aside0.mk hR5; have HGX5 := Aside0.mk ((hg5.block _ (Array.getElem?_eq_some_iff.1 HGX.out).1 (by simp)).trans HGX.out); have HGP5 := Aside0.mk ((hg5.block _ (Array.getElem?_eq_some_iff.1 HGP4.out).1 (by simp)).trans HGP4.out); have HB5 := Aside0.mk hB5; clear hR5 hB5 hg5 HGX HGP4 HB4 hcz0 hcz1 hfz0 hfz1)
              go_upto_region 13 with fail
              obtain ⟨kJ, kN, kX, kF, kG, kR, kgp, kM, kB⟩ := HLX.out
              have HSQ : Aside0 (Sq wr.heap.size wr gp wr.heap.size (.slice Ap ps.length cp) pa x.f0 x.f1 W5) := ⟨HB5.out, HGP5.out, HGX5.out⟩
              have hCp : ∀ W', Below wr.heap.size wr W' → Kd.C (Kd.int .i64) W' Ap ps.length ps := fun W' hb => Kd.F_now (Kd.F_step kF (fun k _ hlt => hb.block k hlt))
              have HCP := Aside0.mk hCp
              clear kJ kN kX kF kG kR kgp kM kB hCp HGX5 HGP5 HB5
              refine sS2 9 [] rfl seq65_tab seq65_bits HSQ.out.held (fun hHeld HT_ HW_ => ?_)
              have HR6 := Aside0.mk (Kd.R_drew HR5.out)
              have HSQ6 : Aside0 (Sq wr.heap.size wr gp wr.heap.size (.slice Ap ps.length cp) pa x.f0 x.f1 W5.drew) := ⟨below_drew1 HSQ.out.1, blk_drew HSQ.out.2.1, blk_drew HSQ.out.2.2⟩
              clear HR5 HSQ
              generalize W5.drew = W6 at HR6 HSQ6 hHeld ⊢
              refine sP 0 45 HT_ rfl rfl ?_
              refine sP 1 46 HT_ rfl rfl ?_
              refine sT 2 47 HT_ HW_ rfl rfl hHeld ?_
              refine sP 4 49 HT_ rfl rfl ?_
              refine sT 5 50 HT_ HW_ rfl rfl hHeld ?_
              refine join_ (σ := Value × Value) 2 (Q.bk 9 127) (fun s => [(48, s.1), (51, s.2)]) (fun s W' => Sq wr.heap.size wr gp wr.heap.size (.slice Ap ps.length cp) pa x.f0 x.f1 W' ∧ (Kd.int .i64).R 3 W' wr.heap.size (fun _ => True) s.1 ps ∧ ∃ b, s.2 = .slice (some ⟨b, 0, none⟩) 1 1 ∧ W'.heap[b]? = some (.cells #[.int .i64 x.f0] 3 (0, 0)) ∧ some b ≠ s.1.ownBlock) ?cont ?fork
              case fork =>
                intro hCont
                refine two_ (i := 3) (j := 6) (Ni := some 48) (Nj := some 51) (Q.bk 9 63) (Q.bk 9 119) rfl rfl rfl rfl (two_of HT_.out (by kernel_rfl)) (by decide) (by decide) (fun K hK => ?_) (fun K hK => ?_)
                · refine Kd.R_append_rows_step (Kd.int .i64) (Rr := (Kd.int .i64).K W6) (w0 := wr) wr.heap.size (by rfl) (.tmp 45) (.tmp 47) 28 3 (.int .i64 0) 8 rfl Try.underlying28 info3 rfl (by decide) (by decide) v11 [] ps Ap ps.length cp (fun _ => True) (fun _ => False) rfl rfl HR6.out (HCP.out _ HSQ6.out.1) (fun _ _ h => h) (fun _ h => h.elim) (fun _ _ => trivial) HSQ6.out.1 HSQ6.out.1.size (by simp; omega) ?_
                  intro v48 W7 hR7 hB7 hg7 hat7
                  have hS7 := HSQ6.out.grown HR6.out hg7 hB7
                  refine hK.out _ _ hS7.held (fun _ => ?_)
                  refine one_ (i := 6) (N := some 51) (Q.bk 9 127) rfl rfl (one_of HT_.out (by kernel_rfl)) (by decide) (fun K2 hK2 => ?_)
                  refine event_step (v := .slice (some ⟨W7.heap.size, 0, none⟩) 1 1) (w1 := W7.alloc (.cells #[.int .i64 x.f0] 3)) (by rfl) (by first | (go_simp; done) | (go_simp; rfl)) ?_
                  have hS8 := hS7.alloc hB7.size (.cells #[.int .i64 x.f0] 3)
                  refine hK2.out _ _ hS8.held (fun _ => ?_)
                  exact norm_ (by first | rfl | (simp only [putAll, tS]; done) | (simp only [putAll, tS]; rfl) | (simp only [putAll, tS, i64_w]; rfl)) (hCont (v48, .slice (some ⟨W7.heap.size, 0, none⟩) 1 1) _ ⟨hS8, Kd.R_alloc (by simpa using hR7) _, _, rfl, blk_new W7 _, fun e => by have := Kd.R_lt hR7 _ e.symm; omega⟩)
                · refine event_step (v := .slice (some ⟨W6.heap.size, 0, none⟩) 1 1) (w1 := W6.alloc (.cells #[.int .i64 x.f0] 3)) (by rfl) (by first | (go_simp; done) | (go_simp; rfl)) ?_
                  have hS7 := HSQ6.out.alloc HSQ6.out.1.size (.cells #[.int .i64 x.f0] 3)
                  have hR7 := Kd.R_alloc HR6.out (.cells #[.int .i64 x.f0] 3)
                  have hb7 : (W6.alloc (.cells #[.int .i64 x.f0] 3)).heap[W6.heap.size]? = some (.cells #[.int .i64 x.f0] 3 (0, 0)) := blk_new W6 _
                  have hne7 : some W6.heap.size ≠ v11.ownBlock := fun e => by have := Kd.R_lt HR6.out _ e.symm; omega
                  have hsz7 : W6.heap.size < (W6.alloc (.cells #[.int .i64 x.f0] 3)).heap.size := by simp
                  generalize W6.alloc (.cells #[.int .i64 x.f0] 3) = W7 at hS7 hR7 hb7 hsz7 ⊢
                  refine hK.out _ _ hS7.held (fun _ => ?_)
                  refine one_ (i := 3) (N := some 48) (Q.bk 9 127) rfl rfl (one_of HT_.out (by kernel_rfl)) (by decide) (fun K2 hK2 => ?_)
                  refine Kd.R_append_rows_step (Kd.int .i64) (Rr := (Kd.int .i64).K W7) (w0 := wr) wr.heap.size (by rfl) (.tmp 45) (.tmp 47) 28 3 (.int .i64 0) 8 rfl Try.underlying28 info3 rfl (by decide) (by decide) v11 [] ps Ap ps.length cp (fun _ => True) (fun _ => False) rfl rfl hR7 (HCP.out _ hS7.1) (fun _ _ h => h) (fun _ h => h.elim) (fun _ _ => trivial) hS7.1 hS7.1.size (by simp; omega) ?_
                  intro v48 W8 hR8 hB8 hg8 hat8
                  have hS8 := hS7.grown hR7 hg8 hB8
                  refine hK2.out _ _ hS8.held (fun _ => ?_)
                  exact norm_ (by first | rfl | (simp only [putAll, tS]; done) | (simp only [putAll, tS]; rfl) | (simp only [putAll, tS, i64_w]; rfl)) (hCont (v48, .slice (some ⟨W6.heap.size, 0, none⟩) 1 1) _ ⟨hS8, by simpa using hR8, _, rfl, (hg8.block _ hsz7 hne7).trans hb7, fun e => by
                    rcases hat8 with h | ⟨b, h, hle⟩
                    · rw [h] at e; exact hne7 e
                    · rw [h] at e; injection e with e; omega⟩)
              case cont =>
                rintro ⟨v48, v51⟩ W9 ⟨hS9, hR9, b, rfl, hb9, hnb⟩
                refine norm_ (a' := ?_) ?_ ?_
                rotate_left
                · simp only [putAll, Act.put, List.setIfInBounds_toArray, List.set_cons_zero, List.set_cons_succ]
                  rfl
                refine one_ (i := 7) (N := some 52) (Q.bk 9 255) rfl rfl (one_of HT_.out (by kernel_rfl)) (by decide) (fun K hK => ?_)
                refine Kd.R_append_rows_step (Kd.int .i64) (Rr := (Kd.int .i64).K W9) (w0 := wr) wr.heap.size (by rfl) (.tmp 48) (.tmp 51) 28 3 (.int .i64 0) 8 rfl Try.underlying28 info3 rfl (by decide) (by decide) v48 ps [x.f0] (some ⟨b, 0, none⟩) 1 1 (fun _ => True) (fun _ => False) rfl rfl hR9 (C_one hb9) (fun _ _ h => h) (fun _ h => h.elim) (fun _ _ => trivial) hS9.1 hS9.1.size (by omega) ?_
                intro v52 W10 hR10 hB10 hg10 hat10
                have HS10 := Aside0.mk (hS9.grown hR9 hg10 hB10)
                obtain ⟨sq, hsq⟩ : ∃ sq, ps ++ [x.f0] = sq := ⟨_, rfl⟩
                rw [hsq] at hR10
                obtain ⟨As, cs, rfl⟩ := Kd.R_slice hR10
                have HR10 := Aside0.mk hR10
                clear hS9 hR9 hb9 hnb hR10 hB10 hg10 hat10
                refine hK.out _ _ HS10.out.held (fun hHeld => ?_)
                clear hK K
                refine sN 52 ?_
                refine pure_ (i := 8) (N := some 11) (v := ?_) (a' := ?_) (Q.bk 9 511) rfl rfl (any_of HT_.out (by kernel_rfl)) (fun _ _ _ h => h) (Or.inl ⟨by rfl, ?_⟩) ?_ ?_
                rotate_left
                · intro w'
                  go_simp
                  with_reducible rfl
                rotate_left
                · simp only [tS, i64_w, i32_w]
                  rfl
                refine sD HT_ ?_
                obtain ⟨kJ, kN, kX, kF, kG, kR, kgp, kM, kB⟩ := HLX.out
                have hS := HS10.out
                have hMw : ∀ k, M3 k → k < wr.heap.size := fun k hk => (hJ.mu kJ k hk).2
                have hgl : gp < wr.heap.size := (Array.getElem?_eq_some_iff.1 kgp).1
                have hul : ∀ k, u6.ownBlock = some k → k < wr.heap.size := Kd.N_lt kX
                have hX10 := Kd.N_step kX (fun k _ hlt => hS.1.block k hlt)
                have hB10 := below_then kB kB.size hS.1
                have hsc := (Kd.R_reads' HR10.out).2.1
                have hfk : Kd.FK kP W10 (fun k => wr.heap.size ≤ k) (sq, x.f1) [.slice As sq.length cs, .int .i64 x.f1] :=
                  Foot.imp (Kd.R_F (Kd.R_mono (Kd.R_bound HR10.out) (fun k hk => hk.2.1))) (fun W' h => kP_K hsc h)
                have hokp : ∀ k, wr.heap.size ≤ k → (¬ M3 k ∧ k ≠ gp) ∧ some k ≠ u6.ownBlock := fun k hk => ⟨⟨fun h => by have := hMw k h; omega, by omega⟩, fun e => by have := hul k e.symm; omega⟩
                have hfr : ∀ k, W10.heap.size ≤ k → ¬ M3 k ∧ k ≠ gp := fun k hk => (hokp k (by have := hS.1.size; omega)).1
                have hll : ((nxt ++ (row.take j).map (fun x => (ps ++ [x.f0], x.f1))).length + 1) * 32 ≤ 140737488355328 := by
                  have := HNL.out; have := HO.out; have := HROW.out.1; simp; omega
                obtain ⟨hcz0, hcz1, hfz0, hfz1⟩ := zc2 (Aside0.mk hS.2.2)
                have HKJ := Aside0.mk kJ
                have HKN := Aside0.mk kN
                have HKX := Aside0.mk kX
                have HKF := Aside0.mk kF
                have HKG := Aside0.mk kG
                have HKR := Aside0.mk kR
                have HKP := Aside0.mk kgp
                have HKM := Aside0.mk kM
                have HHS := Aside0.mk hS
                clear kJ kN kX kF kG kR kgp kM kB hS HLX HS10 HSQ6 HR6 hHeld HT_ HW_
                go_wp2_with ((with_reducible refine gate_builtin (b := .append) (xs := #[.tmp 53, .tmp 58]) rfl ?_); at_builtin; refine Kd.N_append kP (w0 := w) w.heap.size rfl (.tmp 53) (.tmp 58) 101 100 (.agg #[.slice none 0 0, .int .i64 0]) 32 rfl Try.underlying101 info100 rfl (by decide) (by decide) u6 (nxt ++ (row.take j).map (fun x => (ps ++ [x.f0], x.f1))) (sq, x.f1) [.slice As sq.length cs, .int .i64 x.f1] (fun k => ¬ M3 k ∧ k ≠ gp) (fun k => wr.heap.size ≤ k) rfl rfl hfk hokp hfr hX10 hB10 hB10.size hll ?_; intro v7 W11 hN' hB' hg' hat'; have HN' := Aside0.mk hN'; have HB' := Aside0.mk hB'; have HG' := Aside0.mk hg'; have HAT' := Aside0.mk hat'; clear hN' hB' hg' hat' hfk hX10 hB10)
                go_roundg k3
                case measure => omega
                case rel =>
                  have hst : ∀ k, k < wr.heap.size → some k ≠ u6.ownBlock → W11.heap[k]? = wr.heap[k]? ∧ some k ≠ v7.ownBlock := fun k hk hne =>
                    ⟨(HG'.out.block k (by have := HHS.out.1.size; omega) hne).trans (HHS.out.1.block k hk), by
                      rcases HAT'.out with h | ⟨b, h, hle⟩
                      · rw [h]; exact hne
                      · rw [h]; intro e; injection e with e; have := HHS.out.1.size; omega⟩
                  have hsz : wr.heap.size ≤ W11.heap.size := Nat.le_trans HHS.out.1.size HG'.out.size
                  have hxr : row[j] = x := by rw [← hx]; simp [rd_T66, hjl]
                  refine ⟨j + 1, ?_, ⟨by have := HJI.out; omega⟩, ⟨hJ.mono (hJ.step (hJ.bound HKJ.out) hsz (fun k hk _ => (hst k hk.2 hk.1.1).1)) (fun k hk => ⟨(hst k hk.2 hk.1.1).2, hk.1.2⟩), ?_, ?_, ?_, ?_, ?_, (hst gp hgl (Kd.N_away HKX.out (fun k hk => hk.2))).1.trans HKP.out, HKM.out, HB'.out⟩⟩
                  · first | rfl | (have := HROW.out.1; simp; unfold wrap64; omega)
                  · exact Kd.N_mono (Kd.N_step (Kd.N_bound HKN.out) (fun k hk _ => (hst k hk.2 hk.1.1.2).1)) (fun k hk => ⟨⟨hk.1.1.1, (hst k hk.2 hk.1.1.2).2⟩, hk.1.2⟩)
                  · rw [List.take_succ_eq_append_getElem hjl, List.map_append, ← List.append_assoc, List.map_singleton, hxr, hsq]
                    exact HN'.out
                  · exact Kd.F_mono (Kd.F_step (Kd.F_bound HKF.out) (fun k hk _ => (hst k hk.2 hk.1.1.2).1)) (fun k hk => ⟨⟨hk.1.1.1, (hst k hk.2 hk.1.1.2).2⟩, hk.1.2⟩)
                  · exact Foot.mono (Foot.step (Foot.bound HKG.out) (fun k hk _ => (hst k hk.2 hk.1.1.2).1)) (fun k hk => ⟨⟨hk.1.1.1, (hst k hk.2 hk.1.1.2).2⟩, hk.1.2⟩)
                  · exact Kd.F_mono (Kd.F_step (Kd.F_bound HKR.out) (fun k hk _ => (hst k hk.2 hk.1.1.2).1)) (fun k hk => ⟨⟨hk.1.1.1, (hst k hk.2 hk.1.1.2).2⟩, hk.1.2⟩)
end Go.Proofs.Ytfnjbgggmddgpaa.Q
end
section
set_option linter.unusedVariables false
set_option linter.unusedSimpArgs false
namespace Go.Proofs.Ytfnjbgggmddgpaa.Q
open Go.RowKit Go.Proofs.Fn Go.Proofs.YtfnjbgggmddgpaaW.PrintWords Go.Proofs.YtfnjbgggmddgpaaW.PrintLast Go.Proofs.YtfnjbgggmddgpaaW.PrintMore
attribute [local go_sem] max2_int min2_int max_two min_two max_three min_three max_four min_four
attribute [local go_sem] Oper.semAt_some
theorem upon_in {F : Fence} {n : Nat} {P : Program} {o : Oper} {a : Act} {next : Act → World → Prop} {Q : Exit → Act → World → Prop} {r : Result Next} (h : o.upon P a next Q r)
    (h1 : ∀ f args w', r ≠ .ok (.enter f args) w') (h2 : ∀ row args w', r ≠ .ok (.row row args) w') : o.uponIn F n P a next Q r := by
  cases r with
  | ok x w => cases x <;> first | exact h | exact absurd rfl (h1 _ _ _) | exact absurd rfl (h2 _ _ _) | exact h.elim
  | halt x w => cases x <;> first | exact h | exact h.elim
theorem N_appendIn {F : Fence} {n : Nat} {P : Program} {ops : Array Oper} {Q : Exit → Act → World → Prop} {rest : List Oper} {o : Oper} {a : Act} {α : Type} (d : Kd α) {w0 W : World} (base : Nat) (hgd : o.guard = none) (s x : Operand) (t e : TypeId) (z : Value) (bytes : Nat)
    (ho : o.op = .call { callee := .builtin .append, args := #[s, x], argTypes := #[t, t] })
    (ht : P.underlying t = some (.slice e)) (hinfo : (P.info? e).map (fun i => (i.zero, i.size, i.bytes)) = some (some z, d.sz, bytes)) (hz : z.cells.size = d.sz) (hs0 : 0 < d.sz) (hb0 : 0 < bytes)
    (v : Value) (xs : List α) (p : α) (cs : List Value) (ok okp : Nat → Prop) (hs : a.eval s = v) (hx : a.eval x = .slice (some ⟨W.heap.size, 0, none⟩) 1 1) (hp : Kd.FK d W okp p cs) (hokp : ∀ k, okp k → ok k ∧ some k ≠ v.ownBlock) (hfresh : ∀ k, W.heap.size ≤ k → ok k)
    (HO : Kd.N d e W base ok v xs) (HB : Below base w0 W) (hbase : base ≤ W.heap.size) (hl : (xs.length + 1) * bytes ≤ 140737488355328)
    (h : ∀ v1 w1, Kd.N d e w1 base ok v1 (xs ++ [p]) → Below base w0 w1 → W.grownBy w1 v.ownBlock → (v1.ownBlock = v.ownBlock ∨ ∃ b, v1.ownBlock = some b ∧ W.heap.size ≤ b) → wpListIn F n P ops Q rest (a.put o.dst v1) w1) :
    wpListIn F n P ops Q (o :: rest) a (W.alloc (.cells cs.toArray e)) := by
  refine wpListIn_plain hgd fun K hK => ?_
  have hw : Region.wanted o (yielded ops a.tmps) = true := by simp [Region.wanted, hgd]
  have h1 := Kd.N_append_step (P := P) (ops := ops) (Q := Q) (Kc := K) d base hw s x t e z bytes ho ht hinfo hz hs0 hb0 v xs p cs ok okp hs hx hp hokp hfresh HO HB hbase hl (fun v1 w1 a1 a2 a3 a4 => hK _ _ (h v1 w1 a1 a2 a3 a4))
  rw [if_pos hw] at h1
  unfold Oper.wp at h1
  unfold Oper.wpIn
  refine ⟨?_, ?_⟩
  · simp [Oper.about, ho, resolve, Target.leads, Sem.run_pure]
  · rw [Oper.semAt_plain F _ _ (by rw [ho]; intro c hc'; cases hc')]
    refine upon_in h1 ?_ ?_
    · intro f args w' hq_
      cases hr : (Builtin.append_ #[t, t] o.type #[v, .slice (some ⟨W.heap.size, 0, none⟩) 1 1]).run P (W.alloc (.cells cs.toArray e)) <;> simp [execOp, ho, resolve, invoke, builtin, hs, hx, hr, Result.andThen] at hq_
    · intro f args w' hq_
      cases hr : (Builtin.append_ #[t, t] o.type #[v, .slice (some ⟨W.heap.size, 0, none⟩) 1 1]).run P (W.alloc (.cells cs.toArray e)) <;> simp [execOp, ho, resolve, invoke, builtin, hs, hx, hr, Result.andThen] at hq_
def JL (base bo l D : Nat) (rec : LoopState → Option Code → Loop) (s : Bool) (o : List (List Int)) (W : World) (M ok : Nat → Prop) : Prop :=
  ∃ v, W.heap[bo]? = some (.cells #[v] 22 (0, 0)) ∧ W.heap[l]? = some (.loop (rec (if s then .done else .ready) (if s then some (.exit 0) else none))) ∧ W.heap[D]? = some (.deferred (some [])) ∧
    Kd.N (Kd.slice 3 (Kd.int .i64)) 28 W base (fun k => ok k ∧ k ≠ bo ∧ k ≠ l ∧ k ≠ D) v o ∧ ok bo ∧ ok l ∧ ok D ∧ ∀ k, M k ↔ (k = bo ∨ k = l ∨ k = D ∨ v.ownBlock = some k)
theorem JL.jok (base bo l D : Nat) (rec : LoopState → Option Code → Loop) : JOK (JL base bo l D rec) where
  step := by
    rintro s o W W' M ok ⟨v, h1, h2, h3, h4, h5, h6, h7, h8⟩ hs hm
    exact ⟨v, (hm _ h5 (Array.getElem?_eq_some_iff.1 h1).1).trans h1, (hm _ h6 (Array.getElem?_eq_some_iff.1 h2).1).trans h2, (hm _ h7 (Array.getElem?_eq_some_iff.1 h3).1).trans h3, Kd.N_step h4 (fun k hk hlt => hm k hk.1 hlt), h5, h6, h7, h8⟩
  mono := by
    rintro s o W M ok ok' ⟨v, h1, h2, h3, h4, h5, h6, h7, h8⟩ hm
    exact ⟨v, h1, h2, h3, Kd.N_mono h4 (fun k hk => ⟨hm k hk.1, hk.2⟩), hm _ h5, hm _ h6, hm _ h7, h8⟩
  bound := by
    rintro s o W M ok ⟨v, h1, h2, h3, h4, h5, h6, h7, h8⟩
    exact ⟨v, h1, h2, h3, Kd.N_mono (Kd.N_bound h4) (fun k hk => ⟨⟨hk.1.1, hk.2⟩, hk.1.2⟩), ⟨h5, (Array.getElem?_eq_some_iff.1 h1).1⟩, ⟨h6, (Array.getElem?_eq_some_iff.1 h2).1⟩, ⟨h7, (Array.getElem?_eq_some_iff.1 h3).1⟩, h8⟩
  mu := by
    rintro s o W M ok ⟨v, h1, h2, h3, h4, h5, h6, h7, h8⟩ k hk
    rcases (h8 k).1 hk with rfl | rfl | rfl | h
    · exact ⟨h5, (Array.getElem?_eq_some_iff.1 h1).1⟩
    · exact ⟨h6, (Array.getElem?_eq_some_iff.1 h2).1⟩
    · exact ⟨h7, (Array.getElem?_eq_some_iff.1 h3).1⟩
    · exact ⟨(h4.1 k h).1, Kd.N_lt h4 k h⟩
theorem seq52 (A : Option Addr) (n c : Nat) (kk : Int) (W : World) : Calls Try.prog 52 #[.slice A n c, .int .i64 kk] W fun e W' => e = .returned (.func (.func 65) #[] #[.pointer (some ⟨W.heap.size + 1, 0, none⟩), .pointer (some ⟨W.heap.size, 0, none⟩)]) ∧ W' = (W.alloc (.cells #[.slice A n c] 56)).alloc (.cells #[.int .i64 kk] 3) := by
  go_enter Try.func52, Try.ntmps52
  go_wp2
  go_ret
  exact ⟨rfl, rfl⟩
def witness_Language.f (k : Nat) (l0_0 : List (List Int)) (l0_1 : List S80) (a0_2 : Bool) (a1 : Int) : Option (List (List Int)) :=
  if a1 < 0 ∨ a1 > 6 ∨ l0_0.length = 0 then some [] else (witness_steps.f k l0_0 l0_1 a0_2).bind fun T => if okTab T = true then some (lang T (a1.toNat + 1) [([], 0)] []).1 else none
def PB (w : World) (bo : Nat) (o : List (List Int)) (x : List Int) (v : Value) (okN : Nat → Prop) (W : World) : Exit → Act → World → Prop
  | .normal, _, W' => o.length ≠ 5000 ∧ ∃ v', W'.heap[bo]? = some (.cells #[v'] 22 (0, 0)) ∧ Kd.N (Kd.slice 3 (Kd.int .i64)) 28 W' w.heap.size okN v' (o ++ [x]) ∧ W.heap.size ≤ W'.heap.size ∧ (∀ k, k < W.heap.size → k ≠ bo → some k ≠ v.ownBlock → W'.heap[k]? = W.heap[k]?) ∧ Below w.heap.size w W' ∧ (v'.ownBlock = v.ownBlock ∨ ∃ b, v'.ownBlock = some b ∧ W.heap.size ≤ b)
  | .exit 0, _, W' => o.length = 5000 ∧ W' = W
  | _, _, _ => False
theorem range65 {assign body : Code} {Q : Exit → Act → World → Prop} {a : Act} (w W0 : World) (bo : Nat) (T : List (List S66)) (hT : okTab T = true) (kk : Int) (hkk : 0 ≤ kk ∧ kk ≤ 6) (bk bg : Nat) (Ag : Option Addr) (cg : Nat)
    (hg : a.eval (.tmp 22) = .func (.func 65) #[] #[.pointer (some ⟨bk, 0, none⟩), .pointer (some ⟨bg, 0, none⟩)])
    (hbo : W0.heap[bo]? = some (.cells #[.slice none 0 0] 22 (0, 0))) (hB : Below w.heap.size w W0) (hbw : w.heap.size ≤ bo)
    (hG : Foot (GB T kk bk bg Ag cg) W0 (fun k => k ≠ bo)) (a₁ : Value → Act)
    (hassign : ∀ (l : Nat) (x : Value) (W : World) (K : Act → World → Prop), K (a₁ x) W → assign.wpIn (Fence.wide.inRound l) 0 Try.prog (Exit.then K (fun _ _ _ => False)) { tmps := ((#[23] : Array Tmp).zip #[x]).foldl (fun t (p, v) => t.setIfInBounds p v) a.tmps, defers := [] } W)
    (hbody : ∀ (l : Nat) (o : List (List Int)) (v : Value) (W : World) (okN okx : Nat → Prop) (x : List Int) (A : Option Addr) (c : Nat), W.heap[bo]? = some (.cells #[v] 22 (0, 0)) → Kd.N (Kd.slice 3 (Kd.int .i64)) 28 W w.heap.size okN v o → (∀ k, okN k → k ≠ bo) → (∀ k, W.heap.size ≤ k → okN k) → Kd.F (Kd.int .i64) W okx A x.length x → x.length ≤ c → (∀ k, okx k → okN k ∧ some k ≠ v.ownBlock) → o.length ≤ 5000 → Below w.heap.size w W →
      body.wpIn (Fence.wide.inRound l) 0 Try.prog (PB w bo o x v okN W) (a₁ (.slice A x.length c)) W)
    (hQ : ∀ (v : Value) (W : World) (e : Exit), (e = .normal ∨ e = .exit 0) → W.heap[bo]? = some (.cells #[v] 22 (0, 0)) → Kd.N (Kd.slice 3 (Kd.int .i64)) 28 W w.heap.size (fun k => k ≠ W0.heap.size) v (lang T (kk.toNat + 1) [([], 0)] []).1 → W.heap[W0.heap.size]? = some (.deferred (some [])) → Below w.heap.size w W →
      Q e { a with defers := { target := .collected W0.heap.size, args := #[] } :: a.defers } W) :
    (Code.rangeFunc (.tmp 22) #[23] assign body).wp Try.prog Q a W0 := by
  refine (wpIn_wide (n := 1)).mp (wpIn_rangeFunc ?_)
  intro fn hfn
  obtain ⟨rec, hrec⟩ : ∃ rec : LoopState → Option Code → Loop, rec = fun st pe => { state := st, pending := pe, fn, tmps := a.tmps, params := #[23], assign, body, defers := W0.heap.size } := ⟨_, rfl⟩
  obtain ⟨W1, hW1⟩ : ∃ W1, (W0.alloc (.deferred (some []))).alloc (.loop (rec .ready none)) = W1 := ⟨_, rfl⟩
  have hlb : bo < W0.heap.size := (Array.getElem?_eq_some_iff.1 hbo).1
  have hL1 : W1.heap[W0.heap.size + 1]? = some (.loop (rec .ready none)) := by
    rw [← hW1]; have := World.alloc_heap_new (W0.alloc (.deferred (some []))) (.loop (rec .ready none)); rwa [World.size_alloc] at this
  have hK1 : W1.heap[W0.heap.size]? = some (.deferred (some [])) := by
    rw [← hW1]; exact (Below.heap_alloc _ _ _ (by simp)).trans (World.alloc_heap_new W0 _)
  have hb01 : Below W0.heap.size W0 W1 := by rw [← hW1]; exact ((Below.refl _ W0).alloc (Nat.le_refl _) _).alloc (by simp) _
  have hB1 : Below w.heap.size w W1 := below_then hB hB.size hb01
  refine ⟨W0.heap.size + 1, [{ target := .collected W0.heap.size, args := #[] }], W1, { target := .fn (.func 65) #[.pointer (some ⟨bk, 0, none⟩), .pointer (some ⟨bg, 0, none⟩)], args := #[.func (.yield (W0.heap.size + 1)) #[] #[]] }, W1, 65,
    #[.func (.yield (W0.heap.size + 1)) #[] #[]] ++ #[.pointer (some ⟨bk, 0, none⟩), .pointer (some ⟨bg, 0, none⟩)], W1, ?_, ?_, ?_, ?_, (fun h => by cases h), ?_⟩
  · rw [← hW1, hrec]; exact run_enterLoop_outer _ _ _ _ _
  · simp only [resolve, hg]
    simp [go_sem]
  · intro f' hf'; trivial
  · simp [invoke, go_sem, enters_ Try.func65 (by kernel_rfl) rfl]
  · refine callsIn_wide.2 ?_
    have hY : YH (JL w.heap.size bo (W0.heap.size + 1) W0.heap.size rec) w (W0.heap.size + 1) 0 := by
      intro o W M ok okx x A c ho5 hj hBW hF hxc hMx
      obtain ⟨v, h1, h2, h3, h4, h5, h6, h7, h8⟩ := hj
      simp only [Bool.false_eq_true, if_false] at h2
      have hb1 := (Array.getElem?_eq_some_iff.1 h1).1
      have hb2 := (Array.getElem?_eq_some_iff.1 h2).1
      have hb3 := (Array.getElem?_eq_some_iff.1 h3).1
      have hy := run_yield (P := Try.prog) (args := #[.slice A x.length c]) h2 (by rw [hrec]; rfl)
      rw [hrec] at hy
      refine ⟨fn, _, assign, body, hy, roundIn_of_wpIn hfn ?_⟩
      refine hassign (W0.heap.size + 1) (.slice A x.length c) W _ ?_
      refine ⟨_, run_beginRound h2 (by rw [hrec]), ?_⟩
      obtain ⟨W2, hW2⟩ : ∃ W2, W.putObj (W0.heap.size + 1) (.loop { rec .ready none with state := .busy }) = W2 := ⟨_, rfl⟩
      rw [hW2]
      have hs2 : W2.heap.size = W.heap.size := by rw [← hW2]; simp
      have h22 : W2.heap[W0.heap.size + 1]? = some (.loop { rec .ready none with state := .busy }) := by rw [← hW2]; exact World.putObj_heap_same hb2
      have ho2 : ∀ k, k ≠ W0.heap.size + 1 → W2.heap[k]? = W.heap[k]? := fun k hk => by rw [← hW2]; exact World.putObj_heap_other hk
      have hB2 : Below w.heap.size w W2 := by rw [← hW2]; exact hBW.grown (grownBy_putObj' _ _ _) hBW.size (fun k e => by cases e; have := hB.size; omega)
      clear hW2
      have hvl : some (W0.heap.size + 1) ≠ v.ownBlock := fun e => (h4.1 _ e.symm).2.2.1 rfl
      have hvb : some bo ≠ v.ownBlock := fun e => (h4.1 _ e.symm).2.1 rfl
      have hvD : some W0.heap.size ≠ v.ownBlock := fun e => (h4.1 _ e.symm).2.2.2 rfl
      have hx1 : ∀ k, okx k → k ≠ bo ∧ k ≠ W0.heap.size + 1 ∧ k ≠ W0.heap.size ∧ some k ≠ v.ownBlock := fun k hk =>
        ⟨fun e => hMx k ((h8 k).2 (.inl e)) hk, fun e => hMx k ((h8 k).2 (.inr (.inl e))) hk, fun e => hMx k ((h8 k).2 (.inr (.inr (.inl e)))) hk, fun e => hMx k ((h8 k).2 (.inr (.inr (.inr e.symm)))) hk⟩
      have hN2 : Kd.N (Kd.slice 3 (Kd.int .i64)) 28 W2 w.heap.size (fun k => (ok k ∨ okx k ∨ W.heap.size ≤ k) ∧ k ≠ bo ∧ k ≠ W0.heap.size + 1 ∧ k ≠ W0.heap.size) v o := Kd.N_mono (Kd.N_step h4 (fun k hk _ => ho2 k hk.2.2.1)) (fun k hk => ⟨.inl hk.1, hk.2⟩)
      have hF2 : Kd.F (Kd.int .i64) W2 okx A x.length x := Kd.F_step hF (fun k hk _ => ho2 k (hx1 k hk).2.1)
      refine wpIn_mono (hbody (W0.heap.size + 1) o v W2 _ okx x A c ((ho2 bo (by omega)).trans h1) hN2 (fun k hk => hk.2.1) (fun k hk => ⟨.inr (.inr (by omega)), by omega, by omega, by omega⟩) hF2 hxc (fun k hk => ⟨⟨.inr (.inl hk), (hx1 k hk).1, (hx1 k hk).2.1, (hx1 k hk).2.2.1⟩, (hx1 k hk).2.2.2⟩) ho5 hB2) ?_
      rintro e a3 W3 hp
      cases e with
      | normal =>
        obtain ⟨hne, v', b1, b2, b3, b4, b5, b6⟩ := hp
        have hl3 : W3.heap[W0.heap.size + 1]? = some (.loop { rec .ready none with state := .busy }) := (b4 _ (by omega) (by omega) hvl).trans h22
        have hb3l := (Array.getElem?_eq_some_iff.1 hl3).1
        refine ⟨_, _, run_endRound none hl3, fun k => k = bo ∨ k = W0.heap.size + 1 ∨ k = W0.heap.size ∨ v'.ownBlock = some k, fun k => ok k ∨ okx k ∨ W.heap.size ≤ k, ?_, fun _ h => h, ⟨by simp; omega, ?_⟩, b5.grown (grownBy_putObj' _ _ _) b5.size (fun k e => by cases e; have := hB.size; omega), .inl ⟨hne, rfl, v', ?_, ?_, ?_, ?_, .inl h5, .inl h6, .inl h7, fun _ => Iff.rfl⟩⟩
        · intro k hk
          rcases hk with h | h | h | h
          · exact .inl ((h8 k).2 (.inl h))
          · exact .inl ((h8 k).2 (.inr (.inl h)))
          · exact .inl ((h8 k).2 (.inr (.inr (.inl h))))
          · rcases b6 with h' | ⟨b, h', hle⟩
            · exact .inl ((h8 k).2 (.inr (.inr (.inr (h' ▸ h)))))
            · rw [h'] at h; injection h with h; exact .inr (by omega)
        · intro k hk hnM
          have n1 : k ≠ bo := fun e => hnM ((h8 k).2 (.inl e))
          have n2 : k ≠ W0.heap.size + 1 := fun e => hnM ((h8 k).2 (.inr (.inl e)))
          have n3 : some k ≠ v.ownBlock := fun e => hnM ((h8 k).2 (.inr (.inr (.inr e.symm))))
          exact (World.putObj_heap_other n2).trans ((b4 k (by omega) n1 n3).trans (ho2 k n2))
        · exact (World.putObj_heap_other (by omega)).trans b1
        · rw [World.putObj_heap_same hb3l, hrec]; rfl
        · exact (World.putObj_heap_other (by omega)).trans ((b4 _ (by omega) (by omega) hvD).trans ((ho2 _ (by omega)).trans h3))
        · exact Kd.N_step b2 (fun k hk _ => World.putObj_heap_other hk.2.2.1)
      | exit id =>
        rcases id with _ | id
        · obtain ⟨ho, rfl⟩ := hp
          refine ⟨_, _, run_endRound (some (.exit 0)) h22, M, ok, fun _ h => .inl h, fun _ h => .inl h, ⟨by simp; omega, ?_⟩, hB2.grown (grownBy_putObj' _ _ _) hB2.size (fun k e => by cases e; have := hB.size; omega), .inr ⟨ho, rfl, v, ?_, ?_, ?_, ?_, h5, h6, h7, h8⟩⟩
          · intro k hk hnM
            have n2 : k ≠ W0.heap.size + 1 := fun e => hnM ((h8 k).2 (.inr (.inl e)))
            exact (World.putObj_heap_other n2).trans (ho2 k n2)
          · exact (World.putObj_heap_other (by omega)).trans ((ho2 bo (by omega)).trans h1)
          · rw [World.putObj_heap_same (Array.getElem?_eq_some_iff.1 h22).1, hrec]; rfl
          · exact (World.putObj_heap_other (by omega)).trans ((ho2 _ (by omega)).trans h3)
          · exact Kd.N_step (Kd.N_step h4 (fun k hk _ => ho2 k hk.2.2.1)) (fun k hk _ => World.putObj_heap_other hk.2.2.1)
        · exact hp.elim
      | ret => exact hp.elim
      | goto t => exact hp.elim
      | panic ch => exact hp.elim
      | outgrown => exact hp.elim
    have hJ0 : JL w.heap.size bo (W0.heap.size + 1) W0.heap.size rec false [] W1 (fun k => k = bo ∨ k = W0.heap.size + 1 ∨ k = W0.heap.size ∨ (Value.slice none 0 0).ownBlock = some k) (fun _ => True) :=
      ⟨.slice none 0 0, (hb01.block bo hlb).trans hbo, by simpa using hL1, hK1, Kd.N_nil _ _ _ _ _, trivial, trivial, trivial, fun _ => Iff.rfl⟩
    refine (seq65 (JL.jok _ _ _ _ _) w (W0.heap.size + 1) 0 kk T hT bk bg Ag cg hY W1 _ _ (fun k => k ≠ bo ∧ k < W0.heap.size) hJ0 hB1 (Foot.step (Foot.bound hG) (fun k hk hlt => hb01.block k hk.2)) ?_ hkk).mono ?_
    · rintro k ⟨h1, h2⟩ h3
      rcases h3 with h | h | h | h
      · exact h1 h
      · omega
      · omega
      · simp [Value.ownBlock] at h
    · rintro e W2 ⟨⟨v0, rfl⟩, M', ok', ⟨v, h1, h2, h3, h4, h5, h6, h7, h8⟩, hB'⟩
      have hb2 := (Array.getElem?_eq_some_iff.1 h2).1
      have g1 : ∀ o', (W2.putObj (W0.heap.size + 1) o').heap[bo]? = some (.cells #[v] 22 (0, 0)) := fun o' => (World.putObj_heap_other (by omega)).trans h1
      have g2 : ∀ o', (W2.putObj (W0.heap.size + 1) o').heap[W0.heap.size]? = some (.deferred (some [])) := fun o' => (World.putObj_heap_other (by omega)).trans h3
      have g3 : ∀ o', Kd.N (Kd.slice 3 (Kd.int .i64)) 28 (W2.putObj (W0.heap.size + 1) o') w.heap.size (fun k => k ≠ W0.heap.size) v (lang T (kk.toNat + 1) [([], 0)] []).1 := fun o' => Kd.N_mono (Kd.N_step h4 (fun k hk _ => World.putObj_heap_other hk.2.2.1)) (fun k hk => hk.2.2.2)
      have g4 : ∀ o', Below w.heap.size w (W2.putObj (W0.heap.size + 1) o') := fun o' => hB'.grown (grownBy_putObj' _ _ _) hB'.size (fun k e => by cases e; have := hB.size; omega)
      cases hs : (lang T (kk.toNat + 1) [([], 0)] []).2 with
      | false =>
        rw [hs] at h2
        simp only [Bool.false_eq_true, if_false] at h2
        exact ⟨none, _, by have := run_endLoop (P := Try.prog) h2 (by rw [hrec]; simp); rw [hrec] at this; exact this, hQ v _ .normal (.inl rfl) (g1 _) (g3 _) (g2 _) (g4 _)⟩
      | true =>
        rw [hs] at h2
        simp only [if_true] at h2
        exact ⟨some (.exit 0), _, by have := run_endLoop (P := Try.prog) h2 (by rw [hrec]; simp); rw [hrec] at this; exact this, wpIn_exit (hQ v _ (.exit 0) (.inr rfl) (g1 _) (g3 _) (g2 _) (g4 _))⟩
set_option maxHeartbeats 4000000 in
set_option maxRecDepth 100000 in
theorem witness_Language.calls (k : Nat) (A0_0 : Option Addr) (c0_0 : Nat) (l0_0 : List (List Int)) (A0_1 : Option Addr) (c0_1 : Nat) (l0_1 : List S80) (a0_2 : Bool) (a1 : Int) (r : List (List Int)) (w : World)
    (hr0_0 : Kd.C (Kd.slice 3 (Kd.int .i64)) w A0_0 l0_0.length l0_0) (hc0_0 : l0_0.length ≤ c0_0) (hr0_1 : Kd.C k80 w A0_1 l0_1.length l0_1) (hc0_1 : l0_1.length ≤ c0_1) (h : witness_Language.f k l0_0 l0_1 a0_2 a1 = some r) :
    Calls Try.prog 27 #[.agg #[.slice A0_0 l0_0.length c0_0, .slice A0_1 l0_1.length c0_1, .bool a0_2], .int .i64 a1] w fun e w' => ∃ v0_ : Value, e = .returned (v0_) ∧ Kd.N (Kd.slice 3 (Kd.int .i64)) 28 w' w.heap.size (fun _ => True) v0_ r ∧ Below w.heap.size w w' := by
  have hu25 := Try.underlying25
  unfold witness_Language.f at h
  refine callsIn_wide.1 (callsIn_of_wp_marks (n := 1) Try.func27 rfl trivial (wpIn_wide.mpr ?_) rfl)
  simp only [Try.ntmps27, List.size_toArray, List.length_cons, List.length_nil, Nat.reduceAdd, Nat.reduceSub, Array.replicate_succ, Array.replicate_zero, List.push_toArray, List.append_toArray, List.nil_append, List.cons_append]
  have HR0 := Aside0.mk hr0_0
  have HC0 := Aside0.mk hc0_0
  have HR1 := Aside0.mk hr0_1
  have HC1 := Aside0.mk hc0_1
  clear hr0_0 hc0_0 hr0_1 hc0_1
  by_cases c1 : a1 < 0
  · rw [if_pos (.inl c1)] at h
    obtain rfl := Option.some.inj h
    have d1 := decide_eq_true c1
    clear h c1
    go_wp2
    exact ⟨_, results_tmp rfl _ _ _, _, rfl, Kd.N_nil _ _ _ _ _, below_alloc (Below.refl _ _) _⟩
  by_cases c2 : a1 > 6
  · rw [if_pos (.inr (.inl c2))] at h
    obtain rfl := Option.some.inj h
    have d1 := decide_eq_false c1
    have d2 := tdGi c2
    clear h c1 c2
    go_wp2
    exact ⟨_, results_tmp rfl _ _ _, _, rfl, Kd.N_nil _ _ _ _ _, below_alloc (Below.refl _ _) _⟩
  by_cases c3 : l0_0.length = 0
  · rw [if_pos (.inr (.inr c3))] at h
    obtain rfl := Option.some.inj h
    have d1 := decide_eq_false c1
    have d2 := tdHi c2
    have d3 : ((l0_0.length : Int) == 0) = true := by simp [c3]
    have d4 : ((l0_0.length : Int) != 0) = false := by simp [c3]
    clear h c1 c2
    go_wp2
    exact ⟨_, results_tmp rfl _ _ _, _, rfl, Kd.N_nil _ _ _ _ _, below_alloc (Below.refl _ _) _⟩
  rw [if_neg (by omega)] at h
  obtain ⟨T, h1, h2⟩ := Option.bind_eq_some_iff.1 h
  have hok : okTab T = true := by
    cases ho : okTab T with
    | true => rfl
    | false => rw [ho] at h2; cases h2
  rw [if_pos hok] at h2
  obtain rfl := Option.some.inj h2
  have d1 := decide_eq_false c1
  have d2 := tdHi c2
  have d3 : ((l0_0.length : Int) == 0) = false := beq_eq_false_iff_ne.mpr (by omega)
  have d4 : ((l0_0.length : Int) != 0) = true := bne_iff_ne.mpr (by omega)
  have HKK : Aside0 (0 ≤ a1 ∧ a1 ≤ 6) := ⟨by omega⟩
  have H1 := Aside0.mk h1
  have HOK := Aside0.mk hok
  clear h h1 h2 hok c1 c2 c3
  go_wp2_with fail
  refine (witness_steps.calls k _ _ l0_0 _ _ l0_1 a0_2 T _ (Kd.C_below HR0.out ?b1) HC0.out (Kd.C_below HR1.out ?b2) HC1.out H1.out).mono ?_
  case b1 => repeat (first | exact Below.refl _ _ | apply below_alloc | apply below_drew1)
  case b2 => repeat (first | exact Below.refl _ _ | apply below_alloc | apply below_drew1)
  rintro e w1 ⟨v, rfl, hS, hb⟩
  have hpb : Below w.heap.size w ((w.alloc (.cells #[.slice A0_0 l0_0.length c0_0, .slice A0_1 l0_1.length c0_1, .bool a0_2] 25)).alloc (.cells #[.slice none 0 0] 22)) := ((Below.refl _ w).alloc (Nat.le_refl _) _).alloc (by simp) _
  have hbo := blk_new (w.alloc (.cells #[.slice A0_0 l0_0.length c0_0, .slice A0_1 l0_1.length c0_1, .bool a0_2] 25)) (.cells #[.slice none 0 0] 22)
  rw [World.size_alloc] at hbo
  have hps : ((w.alloc (.cells #[.slice A0_0 l0_0.length c0_0, .slice A0_1 l0_1.length c0_1, .bool a0_2] 25)).alloc (.cells #[.slice none 0 0] 22)).heap.size = w.heap.size + 2 := by simp
  obtain ⟨A, c, rfl, hcap, hC⟩ := Kd.S_reads hS
  have hF := Kd.R_F (Kd.R_mono (Kd.R_bound (Kd.S_R hS)) (fun k hk => hk.2.1))
  have hbo1 : w1.heap[w.heap.size + 1]? = some (.cells #[.slice none 0 0] 22 (0, 0)) := (hb.block _ (by rw [hps]; omega)).trans hbo
  have HB1 := Aside0.mk (below_then hpb hpb.size hb)
  rw [hps] at hF
  have HF := Aside0.mk hF
  have HBO := Aside0.mk hbo1
  clear hpb hbo hps hC hcap hS hb hF hbo1 H1
  go_wp2_with fail
  refine (seq52 A T.length c a1 w1).mono ?_
  rintro e w2 ⟨rfl, rfl⟩
  go_wp2_with fail
  obtain ⟨W0, hW0⟩ : ∃ W0, (w1.alloc (.cells #[.slice A T.length c] 56)).alloc (.cells #[.int .i64 a1] 3) = W0 := ⟨_, rfl⟩
  have hb0 : Below w1.heap.size w1 W0 := by rw [← hW0]; exact ((Below.refl _ w1).alloc (Nat.le_refl _) _).alloc (by simp) _
  have hbk : W0.heap[w1.heap.size + 1]? = some (.cells #[.int .i64 a1] 3 (0, 0)) := by
    rw [← hW0]; have := blk_new (w1.alloc (.cells #[.slice A T.length c] 56)) (.cells #[.int .i64 a1] 3); rwa [World.size_alloc] at this
  have hbg : W0.heap[w1.heap.size]? = some (.cells #[.slice A T.length c] 56 (0, 0)) := by rw [← hW0]; exact blk_alloc (blk_new w1 _) _
  rw [hW0]
  clear hW0
  have hl1 : w.heap.size + 1 < w1.heap.size := (Array.getElem?_eq_some_iff.1 HBO.out).1
  have hG : Foot (GB T a1 (w1.heap.size + 1) w1.heap.size A c) W0 (fun k => k ≠ w.heap.size + 1) := fun W' hW =>
    ⟨(hW _ (by omega) (Array.getElem?_eq_some_iff.1 hbk).1).trans hbk, (hW _ (by omega) (Array.getElem?_eq_some_iff.1 hbg).1).trans hbg, Kd.F_now (Kd.F_step (Kd.F_step HF.out (fun k _ hlt => hb0.block k hlt)) (fun k hk hlt => hW k (by omega) hlt))⟩
  refine range65 w W0 (w.heap.size + 1) T HOK.out a1 HKK.out (w1.heap.size + 1) w1.heap.size A c (by rfl) ((hb0.block _ hl1).trans HBO.out) (below_then HB1.out HB1.out.size hb0) (by omega) hG ?a1 ?assign ?body ?hQ
  case assign =>
    intro l x W K hK
    gi_wp2
    exact hK
  case body =>
    intro l o v W okN okx x A' c' hbox hN hob hfr hF hxc hox ho5 hBW
    obtain ⟨Av, cv, rfl⟩ := Kd.N_slice hN
    have hfk : Kd.FK (Kd.slice 3 (Kd.int .i64)) W okx x [.slice A' x.length c'] := Foot.imp hF (fun W' h => ⟨A', c', rfl, hxc, h⟩)
    have HN := Aside0.mk hN
    have HBW := Aside0.mk hBW
    have HBX := Aside0.mk hbox
    have HOB := Aside0.mk hob
    have HFK := Aside0.mk hfk
    obtain ⟨hcz, hfz⟩ := zc1 HBX
    clear hN hBW hbox hfk hF HF HBO HB1 hb0 hbk hbg hG
    by_cases h5 : o.length = 5000
    · have e1 : ((o.length : Int) == 5000) = true := beq_iff_eq.mpr (by omega)
      have e2 : ((o.length : Int) != 5000) = false := bne_eq_false_iff_eq.mpr (by omega)
      gi_wp2
      exact ⟨h5, rfl⟩
    · have e1 : ((o.length : Int) == 5000) = false := beq_eq_false_iff_ne.mpr (by omega)
      have e2 : ((o.length : Int) != 5000) = true := bne_iff_ne.mpr (by omega)
      gi_wp2_with (gi_at_builtin; refine N_appendIn (Kd.slice 3 (Kd.int .i64)) (w0 := w) w.heap.size rfl (.tmp 27) (.tmp 29) 22 28 (.slice none 0 0) 24 rfl Try.underlying22 info28 rfl (by decide) (by decide) (.slice Av o.length cv) o x [.slice A' x.length c'] okN okx rfl rfl HFK.out hox hfr HN.out HBW.out HBW.out.size (by omega) ?_; intro v' W2 hN' hB' hg' hat'; have hbox2 := (hg'.block _ (Array.getElem?_eq_some_iff.1 HBX.out).1 (fun e => HOB.out _ (HN.out.1 _ e.symm) rfl)).trans HBX.out; obtain ⟨Av', cv', rfl⟩ := Kd.N_slice hN'; have HN2 := Aside0.mk hN'; have HB2 := Aside0.mk hB'; have HG2 := Aside0.mk hg'; have HAT := Aside0.mk hat'; have HBX2 := Aside0.mk hbox2; clear hN' hB' hg' hat' hbox2 hcz hfz; obtain ⟨hcz, hfz⟩ := zc1 HBX2)
      have hl2 : (o ++ [x]).length = o.length + 1 := by simp
      have hset := Boxed.set (.slice Av' (o.length + 1) cv') (show Boxed W2 (w.heap.size + 1) 22 _ from HBX2.out)
      have hN3 := Kd.N_far (p := ⟨w.heap.size + 1, 0, none⟩) HN2.out (fun k hk => HOB.out k hk) (.slice Av' (o.length + 1) cv')
      rw [hl2] at hN3
      refine ⟨h5, _, hset, hN3, Nat.le_trans HG2.out.size (grownBy_setCell' W2 (w.heap.size + 1) _).size, fun k hk h1 h2 => ?_, HB2.out.setCell (p := ⟨w.heap.size + 1, 0, none⟩) (by show w.heap.size ≤ w.heap.size + 1; omega) _, ?_⟩
      · exact (Below.heap_setCell W2 ⟨w.heap.size + 1, 0, none⟩ _ k h1).trans (HG2.out.block k hk h2)
      · have := HAT.out
        rw [hl2] at this
        exact this
  case hQ =>
    intro v W e he hbox hN hD hBW
    have HN := Aside0.mk hN
    have HBW := Aside0.mk hBW
    have HD := Aside0.mk hD
    obtain ⟨hcz, hfz⟩ := zc1 (Aside0.mk hbox)
    have hW0 := hb0.size
    clear hN hBW hbox hD HF HBO HB1 hb0 hbk hbg hG
    obtain ⟨Av, cv, rfl⟩ := Kd.N_slice HN.out
    rcases he with rfl | rfl
    · go_wp2
      refine ⟨by simp, .inl ⟨_, _, rfl, run_takeDeferred HD.out, ?_⟩⟩
      exact ⟨_, results_tmp rfl _ _ _, _, rfl, Kd.N_mono (Kd.N_step HN.out (fun k hk _ => World.putObj_heap_other hk)) (fun _ _ => trivial), HBW.out.grown (grownBy_putObj' _ _ _) HBW.out.size (fun k e => by cases e; omega)⟩
    · go_wp2
      refine ⟨by simp, .inl ⟨_, _, rfl, run_takeDeferred HD.out, ?_⟩⟩
      exact ⟨_, results_tmp rfl _ _ _, _, rfl, Kd.N_mono (Kd.N_step HN.out (fun k hk _ => World.putObj_heap_other hk)) (fun _ _ => trivial), HBW.out.grown (grownBy_putObj' _ _ _) HBW.out.size (fun k e => by cases e; omega)⟩
end Go.Proofs.Ytfnjbgggmddgpaa.Q
end
section
namespace Go.Proofs.Ytfnjbgggmddgpaa.Q
open Go.RowKit Go.Proofs.Fn Go.Proofs.YtfnjbgggmddgpaaW.PrintWords Go.Proofs.YtfnjbgggmddgpaaW.PrintLast Go.Proofs.YtfnjbgggmddgpaaW.PrintMore
attribute [local go_sem] max2_int min2_int max_two min_two max_three min_three max_four min_four
set_option linter.unusedVariables false
set_option linter.unusedSimpArgs false
mutual
def r16_Language.j0 : Nat → Int → Bool → List (List Int) → List (S80) → Bool → Option ((List (List Int)))
 | 0, _, _, _, _, _ => none
 | k + 1, x1, x25, x102000, x102001, x102002 => if x25 = true then (some ([] : List (List Int))) else ((r16_Table.f k x102000 x102001 x102002).bind fun t102 => (r16_Language.l0 k x1 t102 (([[]] : List (List Int))) (([0] : List Int)) 0 0))
def r16_Language.l0 : Nat → Int → List (List (S80)) → List (List Int) → List Int → Int → Int → Option ((List (List Int)))
 | 0, _, _, _, _, _, _ => none
 | k + 1, x1, x5, x6, x7, x8, x9 => if x9 < x1 then (r16_Language.l1 k x1 x5 x6 x7 x9 (x6.length : Int) x8) else (some x6)
def r16_Language.l1 : Nat → Int → List (List (S80)) → List (List Int) → List Int → Int → Int → Int → Option ((List (List Int)))
 | 0, _, _, _, _, _, _, _ => none
 | k + 1, x1, x5, x6, x7, x9, x10, x11 => if x11 < x10 then (r16_Language.l2 k x1 x5 x6 x7 x9 x10 x11 0) else (r16_Language.l0 k x1 x5 x6 x7 x10 (wrap64 (x9 + 1)))
def r16_Language.l2 : Nat → Int → List (List (S80)) → List (List Int) → List Int → Int → Int → Int → Int → Option ((List (List Int)))
 | 0, _, _, _, _, _, _, _, _ => none
 | k + 1, x1, x5, x6, x7, x9, x10, x11, x12 => if 0 ≤ x11 then (if x11 < (x7.length : Int) then (if 0 ≤ (rd x7 x11) then (if (rd x7 x11) < (x5.length : Int) then (if x12 < ((rd_L80 x5 (rd x7 x11)).length : Int) then (if (x6.length : Int) < 5000 then (if x11 < (x6.length : Int) then ((r04_Copy.f k (rd_L3 x6 x11)).bind fun t114 => (if 0 ≤ x12 then (if t114.length < 17592186044416 then (if x6.length < 5864062014805 then (if x7.length < 17592186044416 then (r16_Language.l2 k x1 x5 (x6 ++ [(t114 ++ [(rd_T80 (rd_L80 x5 (rd x7 x11)) x12).f1])]) (x7 ++ [(rd_T80 (rd_L80 x5 (rd x7 x11)) x12).f2]) x9 x10 x11 (wrap64 (x12 + 1))) else (none)) else (none)) else (none)) else (none))) else (none)) else (r16_Language.l1 k x1 x5 x6 x7 x9 x10 (wrap64 (x11 + 1)))) else (r16_Language.l1 k x1 x5 x6 x7 x9 x10 (wrap64 (x11 + 1)))) else (none)) else (none)) else (none)) else (none)
end
def r16_Language.f (k : Nat) (l0_0 : List (List Int)) (l0_1 : List (S80)) (a0_2 : Bool) (a1 : Int) : Option ((List (List Int))) := if (l0_0.length : Int) = 0 then (r16_Language.j0 k a1 true l0_0 l0_1 a0_2) else (if a1 < 0 then (r16_Language.j0 k a1 true l0_0 l0_1 a0_2) else (r16_Language.j0 k a1 (decide (a1 > 6)) l0_0 l0_1 a0_2))
set_option maxHeartbeats 8000000 in
set_option maxRecDepth 100000 in
theorem r16_Language.calls (k : Nat) (A0_0 : Option Addr) (c0_0 : Nat) (l0_0 : List (List Int)) (A0_1 : Option Addr) (c0_1 : Nat) (l0_1 : List (S80)) (a0_2 : Bool) (a1 : Int) (r : List (List Int)) (w : World) (hr0_0 : Kd.C (Kd.slice 3 (Kd.int .i64)) w A0_0 l0_0.length l0_0) (hc0_0 : l0_0.length ≤ c0_0) (hr0_1 : Kd.C k80 w A0_1 l0_1.length l0_1) (hc0_1 : l0_1.length ≤ c0_1) (h : r16_Language.f k l0_0 l0_1 a0_2 a1 = some r) :
  Calls Try.prog 28 #[.agg #[.slice A0_0 l0_0.length c0_0, .slice A0_1 l0_1.length c0_1, .bool a0_2], .int .i64 a1] w fun e w' => ∃ v0_ : Value, e = .returned (v0_) ∧ Kd.S (Kd.slice 3 (Kd.int .i64)) 28 w' w.heap.size (fun _ => True) v0_ r ∧ Below w.heap.size w w' := by
 have hu25 := Try.underlying25
 have HR0_0 := Aside0.mk hr0_0
 have HC0_0 := Aside0.mk hc0_0
 clear hr0_0 hc0_0
 have HR0_1 := Aside0.mk hr0_1
 have HC0_1 := Aside0.mk hc0_1
 clear hr0_1 hc0_1
 have HB := Aside0.mk (Below.refl w.heap.size w)
 have H : (if (l0_0.length : Int) = 0 then (r16_Language.j0 k a1 true l0_0 l0_1 a0_2) else (if a1 < 0 then (r16_Language.j0 k a1 true l0_0 l0_1 a0_2) else (r16_Language.j0 k a1 (decide (a1 > 6)) l0_0 l0_1 a0_2))) = some r := h
 clear h
 have HC3 := Aside0.mk H
 clear H
 go_enter Try.func28, Try.ntmps28
 go_upto_region 1 with (first | ((with_reducible refine gate_dst (N := 2) rfl ?_); (try (refine gate_guard (by rfl) ?_; dsimp only)); refine tBx 2 25 #[.slice A0_0 l0_0.length c0_0, .slice A0_1 l0_1.length c0_1, .bool a0_2] ?_; intro gb101 hg w4 hbox hb; have BK101 := Aside0.mk (hbox); have GW101 := tW HB hg; have GE101 := tW HB hg; replace HB := tA HB hb; clear hb hbox hg))
 (try simp only [Act.put, List.setIfInBounds_toArray, List.set_cons_zero, List.set_cons_succ])
 go_cut [25] (fun v25 wc => ∃ (kq : Nat) (x25_2 : Bool), v25 = .bool x25_2 ∧ Aside0 (r16_Language.j0 kq a1 x25_2 l0_0 l0_1 a0_2 = some r) ∧ Aside0 (kq ≤ k) ∧ Aside0 (wc.heap[gb101]? = some (.cells #[(.slice A0_0 l0_0.length c0_0), (.slice A0_1 l0_1.length c0_1), .bool a0_2] 25 (0, 0))) ∧ Aside0 (Below w.heap.size w wc))
 case first =>
  have H := HC3.out
  clear HC3
  by_cases c5 : (l0_0.length : Int) = 0
  ·rw [if_pos c5] at H
   have c5b0 := beq_iff_eq.mpr c5
   have c5b1 := bne_eq_false_iff_eq.mpr c5
   clear c5
   (first | rw [c5b0] | (simp only [i64_w, i32_w]; rw [c5b0]) | skip)
   have H' := Aside0.mk H
   clear H
   obtain ⟨hcz6_0, hcz6_1, hcz6_2, hfz6_0, hfz6_1, hfz6_2⟩ := zc3 BK101
   go_wp2
   go_meet
   case rel => exact ⟨_, (true), tU, H', ⟨by first | omega | exact Nat.le_refl _⟩, ⟨tK BK101⟩, ⟨tB⟩⟩
  rw [if_neg c5] at H
  have c5b0 := beq_eq_false_iff_ne.mpr c5
  have c5b1 := bne_iff_ne.mpr c5
  have c5b2 : ¬ (l0_0 = []) := fun h_ => c5 (by rw [h_]; rfl)
  (first | rw [c5b0] | (simp only [i64_w, i32_w]; rw [c5b0]) | skip)
  by_cases c7 : a1 < 0
  ·rw [if_pos c7] at H
   have c7b0 := decide_eq_true c7
   clear c7
   have H' := Aside0.mk H
   clear H
   obtain ⟨hcz8_0, hcz8_1, hcz8_2, hfz8_0, hfz8_1, hfz8_2⟩ := zc3 BK101
   go_wp2
   go_meet
   case rel => exact ⟨_, (true), tU, H', ⟨by first | omega | exact Nat.le_refl _⟩, ⟨tK BK101⟩, ⟨tB⟩⟩
  rw [if_neg c7] at H
  have c7b0 := decide_eq_false c7
  clear c7
  have H' := Aside0.mk H
  clear H
  obtain ⟨hcz9_0, hcz9_1, hcz9_2, hfz9_0, hfz9_1, hfz9_2⟩ := zc3 BK101
  go_wp2
  go_meet
  case rel => exact ⟨_, (decide (a1 > 6)), tU, H', ⟨by first | omega | exact Nat.le_refl _⟩, ⟨tK BK101⟩, ⟨tB⟩⟩
 case rest =>
  clear HC3
  (try clear c2); (try clear p2); (try clear c5); (try clear c5b0); (try clear c5b1); (try clear c5b2); (try clear c7); (try clear c7b0); (try clear hcz6_0 hcz6_1 hcz6_2 hfz6_0 hfz6_1 hfz6_2); (try clear hcz8_0 hcz8_1 hcz8_2 hfz8_0 hfz8_1 hfz8_2); (try clear hcz9_0 hcz9_1 hcz9_2 hfz9_0 hfz9_1 hfz9_2)
  obtain ⟨kq, x25_2, rfl, HA, HJ2, BK101, HB⟩ := hcut
  cases kq with
  | zero => exact absurd HA.out (by simp [r16_Language.j0])
  | succ kj2 =>
   have H := HA.out
   clear HA
   simp only [r16_Language.j0] at H
   by_cases c10 : x25_2 = true
   ·subst c10
    rw [if_pos rfl] at H
    obtain rfl := Option.some.inj H
    go_wp2
    go_ret
    exact ⟨_, tE, by first | exact Kd.S_nil _ _ _ _ _ | exact Kd.N_nil _ _ _ _ _ | exact Kd.V_nil _ _ _ _ _ | exact Kd.Q_nil _ _ _ _ _ | exact Kd.R_nil _ _ _ _ _, tB⟩
   replace c10 := Bool.eq_false_iff.mpr c10
   subst c10
   rw [if_neg (show ¬ (false = true) by decide)] at H
   replace H := Option.bind_eq_some_iff.mp H
   obtain ⟨t102, A110, H⟩ := H
   (try dsimp only at H)
   have A11 := Aside0.mk A110
   clear A110
   obtain ⟨y105, hy105⟩ : ∃ y_ : List (List Int), y_ = (([[]] : List (List Int))) := ⟨_, rfl⟩
   replace H : (r16_Language.l0 kj2 a1 t102 y105 (([0] : List Int)) 0 0) = some r := tQ hy105 H
   have Ny105 := Aside0.mk hy105
   clear hy105
   obtain ⟨y108, hy108⟩ : ∃ y_ : List Int, y_ = (([0] : List Int)) := ⟨_, rfl⟩
   replace H : (r16_Language.l0 kj2 a1 t102 y105 y108 0 0) = some r := tQ hy108 H
   have Ny108 := Aside0.mk hy108
   clear hy108
   have H' := Aside0.mk H
   clear H
   obtain ⟨hcz12_0, hcz12_1, hcz12_2, hfz12_0, hfz12_1, hfz12_2⟩ := zc3 BK101
   go_wp2_with (first | ((with_reducible refine gate_callee (f := 37) rfl ?_); refine goesL_ (some 27) rfl rfl Try.func37 (by kernel_rfl) rfl #[.agg #[.slice A0_0 l0_0.length c0_0, .slice A0_1 l0_1.length c0_1, .bool a0_2]] rfl (by (try simp only [List.map_toArray, List.map_cons, List.map_nil]); first | done | rfl | (simp only [List.length_drop, List.length_take]; rfl)) ?_; (with_reducible refine (r16_Table.calls kj2 _ _ l0_0 _ _ l0_1 a0_2 t102 _ (tG HR0_0 HB) HC0_0.out (tG HR0_1 HB) HC0_1.out A11.out).mono ?_); rintro e w13 ⟨v103, rfl, ho0, hb⟩; refine ⟨_, rfl, ?_⟩; have HO104 := Aside0.mk (Kd.S_lower ho0 (below_size (tB))); replace BK101 := tL BK101 hb; replace HB := tA HB hb; (try clear hb); (try clear hb2); (try clear hk); (try clear hi); (try clear ho0)) | ((with_reducible refine gate_dst (N := 28) rfl ?_); (try (refine gate_guard (by rfl) ?_; dsimp only)); refine Kd.S_lit (Kd.slice 3 (Kd.int .i64)) _ 28 ?hg (N := 28) ?hd (xs := ([[]] : List (List Int))) (inner := [.slice none 0 0]) (ok := fun _ => True) (okp := fun _ => True) ?hr ?hp (fun _ hk => hk) trivial (Below.refl _ _) (Nat.le_refl _) (by simp) ?_; (case hd => rfl); (case hg => rfl); (case hr => first | (go_simp; done) | (go_simp; rfl)); (case hp => exact (Reps.one (show Kd.M (Kd.slice 3 (Kd.int .i64)) _ _ _ [] [.slice none 0 0] from ⟨_, rfl, Kd.R_nil _ _ _ _ _⟩) (Reps.none _ _))); intro v106 w14 ho15 hb hg_ hnew_; clear hg_ hnew_; (first | rw [← Ny105.out] at ho15 | (simp only [Int.reduceToNat] at ho15; rw [← Ny105.out] at ho15)); replace HO104 := Aside0.mk (Kd.S_below (tR HO104) hb); have HO107 := Aside0.mk (Kd.S_lower ho15 (below_size (tB))); replace BK101 := tL BK101 hb; replace HB := tA HB hb; clear hb ho15) | ((with_reducible refine gate_dst (N := 29) rfl ?_); (try (refine gate_guard (by rfl) ?_; dsimp only)); refine Kd.R_lit (Kd.int .i64) _ 3 ?hg (N := 29) ?hd (xs := ([0] : List Int)) (inner := [.int .i64 0]) (ok := fun _ => True) (okp := fun _ => True) ?hr ?hp (fun _ hk => hk) trivial (Below.refl _ _) (Nat.le_refl _) (by simp) ?_; (case hd => rfl); (case hg => rfl); (case hr => first | (go_simp; done) | (go_simp; rfl)); (case hp => exact (Reps.one (show Kd.M (Kd.int .i64) _ _ _ 0 [.int .i64 0] from rfl) (Reps.none _ _))); intro v109 w16 ho17 hb hg_ hnew_; clear hg_ hnew_; (first | rw [← Ny108.out] at ho17 | (simp only [Int.reduceToNat] at ho17; rw [← Ny108.out] at ho17)); replace HO104 := Aside0.mk (Kd.S_below (tR HO104) hb); replace HO107 := Aside0.mk (Kd.S_elder' (tR HO107) (Kd.R_base ho17) hb); have HO110 := Aside0.mk (Kd.R_lower ho17 (below_size (tB))); replace BK101 := tL BK101 hb; replace HB := tA HB hb; clear hb ho17))
   go_loopg [6, 7, 8, 9] kj2 (fun kq v6 v7 v8 v9 w' => ∃ (x6_2 : List (List Int)) (x7_2 : List Int) (x8_2 : Int) (x9_2 : Int), v8 = .int .i64 x8_2 ∧ v9 = .int .i64 x9_2 ∧ Aside0 (r16_Language.l0 kq a1 t102 x6_2 x7_2 x8_2 x9_2 = some r) ∧ Aside0 (kq ≤ kj2) ∧ Aside0 (Kd.S (Kd.slice 80 k80) 23 w' w.heap.size (fun _ => True) v103 t102) ∧ Aside0 (Kd.S (Kd.slice 3 (Kd.int .i64)) 28 w' w.heap.size (fun k_ => some k_ ≠ (v7 : Value).ownBlock) v6 x6_2) ∧ Aside0 (Kd.R (Kd.int .i64) 3 w' w.heap.size (fun _ => True) v7 x7_2) ∧ Aside0 (w'.heap[gb101]? = some (.cells #[(.slice A0_0 l0_0.length c0_0), (.slice A0_1 l0_1.length c0_1), .bool a0_2] 25 (0, 0))) ∧ Aside0 (Below w.heap.size w w'))
   case atStart => exact ⟨(y105), (y108), (0), (0), tU, tU, H', ⟨Nat.le_refl _⟩, ⟨tR HO104⟩, ⟨by (with_reducible repeat (first | apply Kd.S_alloc | apply Kd.S_drewN | apply Kd.S_drew)); exact Kd.S_mono HO107.out (fun _ hk => hk.2)⟩, ⟨tR HO110⟩, ⟨tK BK101⟩, ⟨tB⟩⟩
   case round =>
    clear H'
    (try clear c1); (try clear c2); (try clear p2); (try clear c3); (try clear c5); (try clear c5b0); (try clear c5b1); (try clear c5b2); (try clear c7); (try clear c7b0); (try clear c10); (try clear hcz12_0 hcz12_1 hcz12_2 hfz12_0 hfz12_1 hfz12_2); (try clear hcz6_0 hcz6_1 hcz6_2 hfz6_0 hfz6_1 hfz6_2); (try clear hcz8_0 hcz8_1 hcz8_2 hfz8_0 hfz8_1 hfz8_2); (try clear hcz9_0 hcz9_1 hcz9_2 hfz9_0 hfz9_1 hfz9_2)
    obtain ⟨x6_2, x7_2, x8_2, x9_2, rfl, rfl, HA, HK2, HO_5, HO_6, HO_7, BK101, HB⟩ := hrel
    cases gk with
    | zero => exact absurd HA.out (by simp [r16_Language.l0])
    | succ k2 =>
     have H := HA.out
     clear HA
     simp only [r16_Language.l0] at H
     by_cases c18 : x9_2 < a1
     ·rw [if_pos c18] at H
      have c18b0 := decide_eq_true c18
      clear c18
      have H' := Aside0.mk H
      clear H
      obtain ⟨Ao19, co19, eo19⟩ := Kd.S_slice HO_6.out
      subst eo19
      go_wp2
      go_loopg [6, 7, 11] k2 (fun kq v6 v7 v11 w' => ∃ (x6_3 : List (List Int)) (x7_3 : List Int) (x11_3 : Int), v11 = .int .i64 x11_3 ∧ Aside0 (r16_Language.l1 kq a1 t102 x6_3 x7_3 x9_2 (x6_2.length : Int) x11_3 = some r) ∧ Aside0 (kq ≤ k2) ∧ Aside0 (Kd.S (Kd.slice 80 k80) 23 w' w.heap.size (fun _ => True) v103 t102) ∧ Aside0 (Kd.S (Kd.slice 3 (Kd.int .i64)) 28 w' w.heap.size (fun k_ => some k_ ≠ (v7 : Value).ownBlock) v6 x6_3) ∧ Aside0 (Kd.R (Kd.int .i64) 3 w' w.heap.size (fun _ => True) v7 x7_3) ∧ Aside0 (w'.heap[gb101]? = some (.cells #[(.slice A0_0 l0_0.length c0_0), (.slice A0_1 l0_1.length c0_1), .bool a0_2] 25 (0, 0))) ∧ Aside0 (Below w.heap.size w w'))
      case atStart => exact ⟨(x6_2), (x7_2), (x8_2), tU, H', ⟨Nat.le_refl _⟩, ⟨tR HO_5⟩, ⟨tR HO_6⟩, ⟨tR HO_7⟩, ⟨tK BK101⟩, ⟨tB⟩⟩
      case round =>
       clear H'
       (try clear c1); (try clear c2); (try clear p2); (try clear c3); (try clear c5); (try clear c5b0); (try clear c5b1); (try clear c5b2); (try clear c7); (try clear c7b0); (try clear c10); (try clear c18); (try clear c18b0); (try clear hcz12_0 hcz12_1 hcz12_2 hfz12_0 hfz12_1 hfz12_2); (try clear hcz6_0 hcz6_1 hcz6_2 hfz6_0 hfz6_1 hfz6_2); (try clear hcz8_0 hcz8_1 hcz8_2 hfz8_0 hfz8_1 hfz8_2); (try clear hcz9_0 hcz9_1 hcz9_2 hfz9_0 hfz9_1 hfz9_2)
       obtain ⟨x6_3, x7_3, x11_3, rfl, HA, HK3, HO_5, HO_6, HO_7, BK101, HB⟩ := hrel
       cases gk with
       | zero => exact absurd HA.out (by simp [r16_Language.l1])
       | succ k3 =>
        have H := HA.out
        clear HA
        simp only [r16_Language.l1] at H
        by_cases c20 : x11_3 < (x6_2.length : Int)
        ·rw [if_pos c20] at H
         have c20b0 := decide_eq_true c20
         clear c20
         have H' := Aside0.mk H
         clear H
         go_wp2
         go_loopg [6, 7, 12] k3 (fun kq v6 v7 v12 w' => ∃ (x6_4 : List (List Int)) (x7_4 : List Int) (x12_4 : Int), v12 = .int .i64 x12_4 ∧ Aside0 (r16_Language.l2 kq a1 t102 x6_4 x7_4 x9_2 (x6_2.length : Int) x11_3 x12_4 = some r) ∧ Aside0 (kq ≤ k3) ∧ Aside0 (Kd.S (Kd.slice 80 k80) 23 w' w.heap.size (fun _ => True) v103 t102) ∧ Aside0 (Kd.S (Kd.slice 3 (Kd.int .i64)) 28 w' w.heap.size (fun k_ => some k_ ≠ (v7 : Value).ownBlock) v6 x6_4) ∧ Aside0 (Kd.R (Kd.int .i64) 3 w' w.heap.size (fun _ => True) v7 x7_4) ∧ Aside0 (w'.heap[gb101]? = some (.cells #[(.slice A0_0 l0_0.length c0_0), (.slice A0_1 l0_1.length c0_1), .bool a0_2] 25 (0, 0))) ∧ Aside0 (Below w.heap.size w w'))
         case atStart => exact ⟨(x6_3), (x7_3), (0), tU, H', ⟨Nat.le_refl _⟩, ⟨tR HO_5⟩, ⟨tR HO_6⟩, ⟨tR HO_7⟩, ⟨tK BK101⟩, ⟨tB⟩⟩
         case round =>
          clear H'
          (try clear c1); (try clear c2); (try clear p2); (try clear c3); (try clear c5); (try clear c5b0); (try clear c5b1); (try clear c5b2); (try clear c7); (try clear c7b0); (try clear c10); (try clear c18); (try clear c18b0); (try clear c20); (try clear c20b0); (try clear hcz12_0 hcz12_1 hcz12_2 hfz12_0 hfz12_1 hfz12_2); (try clear hcz6_0 hcz6_1 hcz6_2 hfz6_0 hfz6_1 hfz6_2); (try clear hcz8_0 hcz8_1 hcz8_2 hfz8_0 hfz8_1 hfz8_2); (try clear hcz9_0 hcz9_1 hcz9_2 hfz9_0 hfz9_1 hfz9_2)
          obtain ⟨x6_4, x7_4, x12_4, rfl, HA, HK4, HO_5, HO_6, HO_7, BK101, HB⟩ := hrel
          cases gk with
          | zero => exact absurd HA.out (by simp [r16_Language.l2])
          | succ k4 =>
           have H := HA.out
           clear HA
           simp only [r16_Language.l2] at H
           replace H := tF H
           obtain ⟨c21, H⟩ := H
           have c21b0 := decide_eq_true c21
           clear c21
           replace H := tF H
           obtain ⟨c22, H⟩ := H
           have c22b0 := decide_eq_true c22
           clear c22
           replace H := tF H
           obtain ⟨c23, H⟩ := H
           have c23b0 := decide_eq_true c23
           clear c23
           replace H := tF H
           obtain ⟨c24, H⟩ := H
           have c24b0 := decide_eq_true c24
           clear c24
           by_cases c25 : x12_4 < ((rd_L80 t102 (rd x7_4 x11_3)).length : Int)
           ·rw [if_pos c25] at H
            have c25b0 := decide_eq_true c25
            clear c25
            by_cases c26 : (x6_4.length : Int) < 5000
            ·rw [if_pos c26] at H
             have c26b0 := decide_eq_true c26
             have c26b1 : decide (x6_4.length < 5000) = true := decide_eq_true (by omega)
             clear c26
             replace H := tF H
             obtain ⟨c27, H⟩ := H
             have c27b0 := decide_eq_true c27
             clear c27
             replace H := Option.bind_eq_some_iff.mp H
             obtain ⟨t114, A280, H⟩ := H
             (try dsimp only at H)
             have A28 := Aside0.mk A280
             clear A280
             replace H := tF H
             obtain ⟨c29, H⟩ := H
             have c29b0 := decide_eq_true c29
             clear c29
             replace H := tF H
             obtain ⟨c30, H⟩ := H
             have LMc30 := Aside0.mk c30
             clear c30
             obtain ⟨y120, hy120⟩ : ∃ y_ : List Int, y_ = (t114 ++ [(rd_T80 (rd_L80 t102 (rd x7_4 x11_3)) x12_4).f1]) := ⟨_, rfl⟩
             replace H : (if x6_4.length < 5864062014805 then (if x7_4.length < 17592186044416 then (r16_Language.l2 k4 a1 t102 (x6_4 ++ [y120]) (x7_4 ++ [(rd_T80 (rd_L80 t102 (rd x7_4 x11_3)) x12_4).f2]) x9_2 (x6_2.length : Int) x11_3 (wrap64 (x12_4 + 1))) else (none)) else (none)) = some r := tQ hy120 H
             have Ny120 := Aside0.mk hy120
             clear hy120
             replace H := tF H
             obtain ⟨c31, H⟩ := H
             have LMc31 := Aside0.mk c31
             clear c31
             obtain ⟨y123, hy123⟩ : ∃ y_ : List (List Int), y_ = (x6_4 ++ [y120]) := ⟨_, rfl⟩
             replace H : (if x7_4.length < 17592186044416 then (r16_Language.l2 k4 a1 t102 y123 (x7_4 ++ [(rd_T80 (rd_L80 t102 (rd x7_4 x11_3)) x12_4).f2]) x9_2 (x6_2.length : Int) x11_3 (wrap64 (x12_4 + 1))) else (none)) = some r := tQ hy123 H
             have Ny123 := Aside0.mk hy123
             clear hy123
             replace H := tF H
             obtain ⟨c32, H⟩ := H
             have LMc32 := Aside0.mk c32
             clear c32
             obtain ⟨y129, hy129⟩ : ∃ y_ : List Int, y_ = (x7_4 ++ [(rd_T80 (rd_L80 t102 (rd x7_4 x11_3)) x12_4).f2]) := ⟨_, rfl⟩
             replace H : (r16_Language.l2 k4 a1 t102 y123 y129 x9_2 (x6_2.length : Int) x11_3 (wrap64 (x12_4 + 1))) = some r := tQ hy129 H
             have Ny129 := Aside0.mk hy129
             clear hy129
             have H' := Aside0.mk H
             clear H
             obtain ⟨Ao33, co33, eo33⟩ := Kd.R_slice HO_7.out
             subst eo33
             have p111 : 0 ≤ (x11_3 : Int) := tD
             have q111 : x11_3 < (x7_4.length : Int) := tD
             obtain ⟨ad111, e111, hx111_0⟩ := Kd.at_int (Kd.R_reads' HO_7.out).2.2 x11_3 p111 q111
             cases e111
             replace p111 := eq_true p111
             replace q111 := eq_true q111
             obtain ⟨Ao34, co34, eo34⟩ := Kd.S_slice HO_5.out
             subst eo34
             have p112 : 0 ≤ ((rd x7_4 x11_3) : Int) := tD
             have q112 : (rd x7_4 x11_3) < (t102.length : Int) := tD
             obtain ⟨ad112, A112_0, c112_0, e112, hx112_0, hl112_0, hi112_0⟩ := at_L80 (Kd.S_reads' HO_5.out).2.2 (rd x7_4 x11_3) p112 q112
             cases e112
             obtain ⟨ce112, hce112, hMe112, hcc112⟩ := Kd.S_get HO_5.out [] (rd x7_4 x11_3) p112 (by first | exact q112 | exact tD | (have e_ := (Kd.S_reads' HO_5.out).1; omega))
             obtain ⟨ve112_0, rfl, ge112_0⟩ := hMe112
             have hv112_0 := hcc112 0 _ rfl
             rw [Nat.add_zero, show ((Kd.slice 80 k80)).sz = 1 from rfl, Nat.mul_one] at hv112_0
             replace hv112_0 := Option.some.inj (hv112_0.symm.trans hx112_0)
             rw [hv112_0] at ge112_0
             have HL112_0 := Aside0.mk (show Kd.R k80 80 _ _ _ _ (rd_L80 t102 (rd x7_4 x11_3)) from ge112_0)
             clear hv112_0 ge112_0
             clear hcc112 hce112
             have HR112_0 := Aside0.mk hi112_0
             have HC112_0 := Aside0.mk hl112_0
             clear hi112_0 hl112_0
             replace p112 := eq_true p112
             replace q112 := eq_true q112
             obtain ⟨Ao35, co35, eo35⟩ := Kd.S_slice HO_6.out
             subst eo35
             have p113 : 0 ≤ (x11_3 : Int) := tD
             have q113 : x11_3 < (x6_4.length : Int) := tD
             obtain ⟨ad113, A113_0, c113_0, e113, hx113_0, hl113_0, hi113_0⟩ := at_L3 (Kd.S_reads' HO_6.out).2.2 x11_3 p113 q113
             cases e113
             obtain ⟨ce113, hce113, hMe113, hcc113⟩ := Kd.S_get HO_6.out [] x11_3 p113 (by first | exact q113 | exact tD | (have e_ := (Kd.S_reads' HO_6.out).1; omega))
             obtain ⟨ve113_0, rfl, ge113_0⟩ := hMe113
             have hv113_0 := hcc113 0 _ rfl
             rw [Nat.add_zero, show ((Kd.slice 3 (Kd.int .i64))).sz = 1 from rfl, Nat.mul_one] at hv113_0
             replace hv113_0 := Option.some.inj (hv113_0.symm.trans hx113_0)
             rw [hv113_0] at ge113_0
             have HL113_0 := Aside0.mk (show Kd.R (Kd.int .i64) 3 _ _ _ _ (rd_L3 x6_4 x11_3) from ge113_0)
             clear hv113_0 ge113_0
             clear hcc113 hce113
             have HR113_0 := Aside0.mk hi113_0
             have HC113_0 := Aside0.mk hl113_0
             clear hi113_0 hl113_0
             replace p113 := eq_true p113
             replace q113 := eq_true q113
             go_wp2_with (first | ((with_reducible refine gate_callee (f := 47) rfl ?_); refine goesL_ (some 64) rfl rfl Try.func47 (by kernel_rfl) rfl #[.slice A113_0 (rd_L3 x6_4 x11_3).length c113_0] rfl (by (try simp only [List.map_toArray, List.map_cons, List.map_nil]); first | done | rfl | (simp only [List.length_drop, List.length_take]; rfl)) ?_; (with_reducible refine (r04_Copy.calls k4 _ _ (rd_L3 x6_4 x11_3) t114 _ ?side1 ?side2 A28.out).mono ?_); (case side1 => repeat (first | exact (by repeat (first | (with_reducible exact HR113_0.out) | (with_reducible refine Kd.C_alloc ?_ _) | (with_reducible refine Kd.C_drewN ?_ _) | (with_reducible refine Kd.C_drew ?_) | exact HR113_0.out)) | (with_reducible refine Kd.C_alloc ?_ _) | (with_reducible refine Kd.C_drewN ?_ _) | (with_reducible refine Kd.C_drew ?_))); (case side2 => exact HC113_0.out); rintro e w36 ⟨v115, rfl, ho0, hb⟩; refine ⟨_, rfl, ?_⟩; replace HO_5 := Aside0.mk (Kd.S_below (tR HO_5) hb); replace HO_6 := Aside0.mk (Kd.S_elder' (tR HO_6) (Kd.R_base ho0) hb); replace HL112_0 := Aside0.mk (Kd.R_below (tR HL112_0) hb); have HO116 := Aside0.mk (Kd.R_lower (Kd.R_new' (Kd.R_new' ho0 (Kd.R_lt (tR HO_7))) (Kd.R_lt (tR HL113_0))) (below_size (tB))); replace HO_7 := Aside0.mk (Kd.R_elder' (tR HO_7) (Kd.R_base ho0) hb); replace HL113_0 := Aside0.mk (Kd.R_elder' (tR HL113_0) (Kd.R_base ho0) hb); replace BK101 := tL BK101 hb; replace HR112_0 := Aside0.mk (Kd.C_below (by repeat (first | (with_reducible exact HR112_0.out) | (with_reducible refine Kd.C_alloc ?_ _) | (with_reducible refine Kd.C_drewN ?_ _) | (with_reducible refine Kd.C_drew ?_) | exact HR112_0.out)) hb); replace HR113_0 := Aside0.mk (Kd.C_below (by repeat (first | (with_reducible exact HR113_0.out) | (with_reducible refine Kd.C_alloc ?_ _) | (with_reducible refine Kd.C_drewN ?_ _) | (with_reducible refine Kd.C_drew ?_) | exact HR113_0.out)) hb); replace HB := tA HB hb; (try clear hb); (try clear hb2); (try clear hk); (try clear hi); (try clear ho0); have p117 : 0 ≤ (x11_3 : Int) := tD; have q117 : x11_3 < (x7_4.length : Int) := tD; obtain ⟨ad117, e117, hx117_0⟩ := Kd.at_int (Kd.R_reads' HO_7.out).2.2 x11_3 p117 q117; obtain rfl : ad111 = ad117 := (by injection e117); replace p117 := eq_true p117; replace q117 := eq_true q117; have p118 : 0 ≤ ((rd x7_4 x11_3) : Int) := tD; have q118 : (rd x7_4 x11_3) < (t102.length : Int) := tD; obtain ⟨ad118, A118_0, c118_0, e118, hx118_0, hl118_0, hi118_0⟩ := at_L80 (Kd.S_reads' HO_5.out).2.2 (rd x7_4 x11_3) p118 q118; obtain rfl : ad112 = ad118 := (by injection e118); obtain ⟨ce118, hce118, hMe118, hcc118⟩ := Kd.S_get HO_5.out [] (rd x7_4 x11_3) p118 (by first | exact q118 | exact tD | (have e_ := (Kd.S_reads' HO_5.out).1; omega)); obtain ⟨ve118_0, rfl, ge118_0⟩ := hMe118; have hv118_0 := hcc118 0 _ rfl; rw [Nat.add_zero, show ((Kd.slice 80 k80)).sz = 1 from rfl, Nat.mul_one] at hv118_0; replace hv118_0 := Option.some.inj (hv118_0.symm.trans hx118_0); rw [hv118_0] at ge118_0; have HL118_0 := Aside0.mk (show Kd.R k80 80 _ _ _ _ (rd_L80 t102 (rd x7_4 x11_3)) from ge118_0); clear hv118_0 ge118_0; clear hcc118 hce118; have HR118_0 := Aside0.mk hi118_0; have HC118_0 := Aside0.mk hl118_0; clear hi118_0 hl118_0; replace p118 := eq_true p118; replace q118 := eq_true q118; have p119 : 0 ≤ (x12_4 : Int) := tD; have q119 : x12_4 < ((rd_L80 t102 (rd x7_4 x11_3)).length : Int) := tD; obtain ⟨ad119, e119, hx119_0, hx119_1, hx119_2⟩ := at_T80 (by repeat (first | (with_reducible exact HR118_0.out) | (with_reducible refine Kd.C_alloc ?_ _) | (with_reducible refine Kd.C_drewN ?_ _) | (with_reducible refine Kd.C_drew ?_) | exact HR118_0.out)) x12_4 p119 q119; cases e119; replace p119 := eq_true p119; replace q119 := eq_true q119) | ((with_reducible refine gate_builtin (b := .append) (xs := #[.tmp 65, .tmp 77]) rfl ?_); (try (refine gate_guard (by rfl) ?_; dsimp only)); at_builtin; refine Kd.R_append (Kd.int .i64) (w0 := w) w.heap.size rfl (.tmp 65) (.tmp 77) 28 3 (.int .i64 0) 8 rfl Try.underlying28 info3 rfl (by decide) (by omega) v115 t114 ((rd_T80 (rd_L80 t102 (rd x7_4 x11_3)) x12_4).f1) [.int .i64 ((rd_T80 (rd_L80 t102 (rd x7_4 x11_3)) x12_4).f1)] (fun k_ => some k_ ≠ (.slice (some ad111) x7_4.length co33 : Value).ownBlock ∧ some k_ ≠ (.slice A113_0 (rd_L3 x6_4 x11_3).length c113_0 : Value).ownBlock) (fun _ => False) rfl rfl ?aP (fun _ hk => hk.elim) ?aF ?aO ?aB ?aS ?aL ?_; (case aP => exact rfl); (case aB => exact (tB)); (case aF => exact (fun k_ hk => ⟨Kd.fresh' (Kd.R_lt (tR HO_7)) k_ hk, Kd.fresh' (Kd.R_lt (tR HL113_0)) k_ hk⟩)); (case aO => exact (by (with_reducible repeat (first | apply Kd.R_alloc | apply Kd.R_drewN | apply Kd.R_drew)); exact Kd.R_mono HO116.out (fun _ hk => ⟨hk.1.2, hk.2⟩))); (case aS => exact (below_size (tB))); (case aL => have := LMc30.out; omega); intro v121 w37 ho hb hg hat; rw [← Ny120.out] at ho; replace HO_5 := Aside0.mk (Kd.S_over' (tR HO_5) (Kd.R_typed (tR HO116)) (by decide) hg); replace HO_6 := Aside0.mk (Kd.S_after (ok := (fun k_ => some k_ ≠ (.slice (some ad111) x7_4.length co33 : Value).ownBlock)) (tR HO_6) hg hat); replace HO_7 := Aside0.mk (Kd.R_after (ok := (fun _ => True)) (tR HO_7) hg hat); replace BK101 := Aside0.mk (blk_grown (g := gb101) (o := .cells #[.slice A0_0 l0_0.length c0_0, .slice A0_1 l0_1.length c0_1, .bool a0_2] 25 (0, 0)) (tK BK101) hg (Kd.R_ne HO116.out BK101.out (by decide))); replace HL112_0 := Aside0.mk (Kd.R_over' (tR HL112_0) (Kd.R_typed (tR HO116)) (by decide) hg); replace HL113_0 := Aside0.mk (Kd.R_after (ok := (fun k_ => some k_ ≠ (.slice (some ad113) x6_4.length co35 : Value).ownBlock ∧ some k_ ≠ (.slice (some ad111) x7_4.length co33 : Value).ownBlock)) (by (with_reducible repeat (first | apply Kd.R_alloc | apply Kd.R_drewN | apply Kd.R_drew)); exact Kd.R_mono HL113_0.out (fun _ hk => ⟨⟨hk.1.2, hk.1.1⟩, hk.2⟩)) hg hat); replace HL118_0 := Aside0.mk (Kd.R_over' (tR HL118_0) (Kd.R_typed (tR HO116)) (by decide) hg); replace HB := Aside0.mk (hb); have HO122 := Aside0.mk (ho); clear HO116; clear ho hb hg hat; obtain ⟨Ao39, co39, eo39⟩ := Kd.R_slice HO122.out; subst eo39) | ((with_reducible refine gate_builtin (b := .append) (xs := #[.tmp 79, .tmp 81]) rfl ?_); (try (refine gate_guard (by rfl) ?_; dsimp only)); at_builtin; refine Kd.S_append (Kd.slice 3 (Kd.int .i64)) (w0 := w) w.heap.size rfl (.tmp 79) (.tmp 81) 22 28 (.slice none 0 0) 24 rfl Try.underlying22 info28 rfl (by decide) (by omega) (.slice (some ad113) x6_4.length co35) x6_4 y120 [.slice Ao39 y120.length co39] (fun k_ => some k_ ≠ (.slice (some ad111) x7_4.length co33 : Value).ownBlock) (fun k_ => some k_ = (.slice Ao39 y120.length co39 : Value).ownBlock) rfl rfl ?aP (fun k_ hk_ => ((Kd.R_mono (ok' := fun k_ => ((fun k_ => some k_ ≠ (.slice (some ad111) x7_4.length co33 : Value).ownBlock)) k_ ∧ some k_ ≠ (.slice (some ad113) x6_4.length co35 : Value).ownBlock) (Kd.R_apart' (HO122.out) (Kd.S_typed HO_6.out) (by decide)) (fun k_ hk => ⟨hk.1.1, hk.2⟩))).1 k_ hk_.symm) ?aF ?aO ?aB ?aS ?aL ?_; (case aP => exact Kd.M_row (Kd.R_mono (Kd.R_tight rfl (Kd.R_mono (ok' := fun k_ => ((fun k_ => some k_ ≠ (.slice (some ad111) x7_4.length co33 : Value).ownBlock)) k_ ∧ some k_ ≠ (.slice (some ad113) x6_4.length co35 : Value).ownBlock) (Kd.R_apart' (HO122.out) (Kd.S_typed HO_6.out) (by decide)) (fun k_ hk => ⟨hk.1.1, hk.2⟩))) (fun _ h_ => h_))); (case aB => exact (tB)); (case aF => exact (fun k_ hk => Kd.fresh' (Kd.R_lt (tR HO_7)) k_ hk)); (case aO => exact (by (with_reducible repeat (first | apply Kd.S_alloc | apply Kd.S_drewN | apply Kd.S_drew)); exact Kd.S_mono HO_6.out (fun k_ hk => ⟨hk.1, fun e_ => hk.2 e_⟩))); (case aS => exact (below_size (tB))); (case aL => have := LMc31.out; omega); intro v124 w38 ho hb hg hat; rw [← Ny123.out] at ho; replace HO_5 := Aside0.mk (Kd.S_over' (tR HO_5) (Kd.S_typed (tR HO_6)) (by decide) hg); replace HO_7 := Aside0.mk (Kd.R_over' (tR HO_7) (Kd.S_typed (tR HO_6)) (by decide) hg); replace BK101 := Aside0.mk (blk_grown (g := gb101) (o := .cells #[.slice A0_0 l0_0.length c0_0, .slice A0_1 l0_1.length c0_1, .bool a0_2] 25 (0, 0)) (tK BK101) hg (Kd.S_ne HO_6.out BK101.out (by decide))); replace HL112_0 := Aside0.mk (Kd.R_over' (tR HL112_0) (Kd.S_typed (tR HO_6)) (by decide) hg); replace HL113_0 := Aside0.mk (Kd.R_after (ok := (fun k_ => some k_ ≠ (.slice (some ad111) x7_4.length co33 : Value).ownBlock ∧ some k_ ≠ (.slice Ao39 y120.length co39 : Value).ownBlock)) (by (with_reducible repeat (first | apply Kd.R_alloc | apply Kd.R_drewN | apply Kd.R_drew)); exact Kd.R_mono HL113_0.out (fun _ hk => ⟨⟨hk.1.2, hk.2⟩, hk.1.1⟩)) hg hat); replace HL118_0 := Aside0.mk (Kd.R_over' (tR HL118_0) (Kd.S_typed (tR HO_6)) (by decide) hg); replace HB := Aside0.mk (hb); have HO125 := Aside0.mk (ho); clear HO122 HO_6; clear ho hb hg hat; have p126 : 0 ≤ (x11_3 : Int) := tD; have q126 : x11_3 < (x7_4.length : Int) := tD; obtain ⟨ad126, e126, hx126_0⟩ := Kd.at_int (Kd.R_reads' HO_7.out).2.2 x11_3 p126 q126; obtain rfl : ad111 = ad126 := (by injection e126); replace p126 := eq_true p126; replace q126 := eq_true q126; have p127 : 0 ≤ ((rd x7_4 x11_3) : Int) := tD; have q127 : (rd x7_4 x11_3) < (t102.length : Int) := tD; obtain ⟨ad127, A127_0, c127_0, e127, hx127_0, hl127_0, hi127_0⟩ := at_L80 (Kd.S_reads' HO_5.out).2.2 (rd x7_4 x11_3) p127 q127; obtain rfl : ad112 = ad127 := (by injection e127); obtain ⟨ce127, hce127, hMe127, hcc127⟩ := Kd.S_get HO_5.out [] (rd x7_4 x11_3) p127 (by first | exact q127 | exact tD | (have e_ := (Kd.S_reads' HO_5.out).1; omega)); obtain ⟨ve127_0, rfl, ge127_0⟩ := hMe127; have hv127_0 := hcc127 0 _ rfl; rw [Nat.add_zero, show ((Kd.slice 80 k80)).sz = 1 from rfl, Nat.mul_one] at hv127_0; replace hv127_0 := Option.some.inj (hv127_0.symm.trans hx127_0); rw [hv127_0] at ge127_0; have HL127_0 := Aside0.mk (show Kd.R k80 80 _ _ _ _ (rd_L80 t102 (rd x7_4 x11_3)) from ge127_0); clear hv127_0 ge127_0; clear hcc127 hce127; have HR127_0 := Aside0.mk hi127_0; have HC127_0 := Aside0.mk hl127_0; clear hi127_0 hl127_0; replace p127 := eq_true p127; replace q127 := eq_true q127; have p128 : 0 ≤ (x12_4 : Int) := tD; have q128 : x12_4 < ((rd_L80 t102 (rd x7_4 x11_3)).length : Int) := tD; obtain ⟨ad128, e128, hx128_0, hx128_1, hx128_2⟩ := at_T80 (by repeat (first | (with_reducible exact HR127_0.out) | (with_reducible refine Kd.C_alloc ?_ _) | (with_reducible refine Kd.C_drewN ?_ _) | (with_reducible refine Kd.C_drew ?_) | exact HR127_0.out)) x12_4 p128 q128; cases e128; replace p128 := eq_true p128; replace q128 := eq_true q128) | ((with_reducible refine gate_builtin (b := .append) (xs := #[.tmp 83, .tmp 95]) rfl ?_); (try (refine gate_guard (by rfl) ?_; dsimp only)); at_builtin; refine Kd.R_append (Kd.int .i64) (w0 := w) w.heap.size rfl (.tmp 83) (.tmp 95) 28 3 (.int .i64 0) 8 rfl Try.underlying28 info3 rfl (by decide) (by omega) (.slice (some ad111) x7_4.length co33) x7_4 ((rd_T80 (rd_L80 t102 (rd x7_4 x11_3)) x12_4).f2) [.int .i64 ((rd_T80 (rd_L80 t102 (rd x7_4 x11_3)) x12_4).f2)] (fun _ => True) (fun _ => False) rfl rfl ?aP (fun _ hk => hk.elim) ?aF ?aO ?aB ?aS ?aL ?_; (case aP => exact rfl); (case aB => exact (tB)); (case aF => exact (fun _ _ => trivial)); (case aO => exact (by (with_reducible repeat (first | apply Kd.R_alloc | apply Kd.R_drewN | apply Kd.R_drew)); exact Kd.R_mono HO_7.out (fun _ hk => trivial))); (case aS => exact (below_size (tB))); (case aL => have := LMc32.out; omega); intro v130 w40 ho hb hg hat; rw [← Ny129.out] at ho; replace HO_5 := Aside0.mk (Kd.S_over' (tR HO_5) (Kd.R_typed (tR HO_7)) (by decide) hg); replace BK101 := Aside0.mk (blk_grown (g := gb101) (o := .cells #[.slice A0_0 l0_0.length c0_0, .slice A0_1 l0_1.length c0_1, .bool a0_2] 25 (0, 0)) (tK BK101) hg (Kd.R_ne HO_7.out BK101.out (by decide))); replace HL112_0 := Aside0.mk (Kd.R_over' (tR HL112_0) (Kd.R_typed (tR HO_7)) (by decide) hg); replace HL113_0 := Aside0.mk (Kd.R_after (ok := (fun k_ => some k_ ≠ (v124 : Value).ownBlock)) (by (with_reducible repeat (first | apply Kd.R_alloc | apply Kd.R_drewN | apply Kd.R_drew)); exact Kd.R_mono HL113_0.out (fun _ hk => ⟨hk.2, hk.1.1⟩)) hg hat); replace HL118_0 := Aside0.mk (Kd.R_over' (tR HL118_0) (Kd.R_typed (tR HO_7)) (by decide) hg); replace HO125 := Aside0.mk (Kd.S_after (ok := (fun _ => True)) (by (with_reducible repeat (first | apply Kd.S_alloc | apply Kd.S_drewN | apply Kd.S_drew)); exact Kd.S_mono HO125.out (fun _ hk => ⟨trivial, hk⟩)) hg hat); replace HL127_0 := Aside0.mk (Kd.R_over' (tR HL127_0) (Kd.R_typed (tR HO_7)) (by decide) hg); replace HB := Aside0.mk (hb); have HO131 := Aside0.mk (ho); clear HO_7; clear ho hb hg hat))
             go_roundg k4
             case measure => have := HJ2.out; have := HK2.out; have := HK3.out; have := HK4.out; omega
             case rel => exact ⟨(y123), (y129), (wrap64 (x12_4 + 1)), tU, H', ⟨by have := HJ2.out; have := HK2.out; have := HK3.out; have := HK4.out; omega⟩, ⟨tR HO_5⟩, ⟨by (with_reducible repeat (first | apply Kd.S_alloc | apply Kd.S_drewN | apply Kd.S_drew)); exact Kd.S_mono HO125.out (fun _ hk => hk.2)⟩, ⟨tR HO131⟩, ⟨tK BK101⟩, ⟨tB⟩⟩
            rw [if_neg c26] at H
            have c26b0 := decide_eq_false c26
            have c26b1 : decide (x6_4.length < 5000) = false := decide_eq_false (by omega)
            clear c26
            have H' := Aside0.mk H
            clear H
            obtain ⟨Ao41, co41, eo41⟩ := Kd.R_slice HO_7.out
            subst eo41
            have p111 : 0 ≤ (x11_3 : Int) := tD
            have q111 : x11_3 < (x7_4.length : Int) := tD
            obtain ⟨ad111, e111, hx111_0⟩ := Kd.at_int (Kd.R_reads' HO_7.out).2.2 x11_3 p111 q111
            cases e111
            replace p111 := eq_true p111
            replace q111 := eq_true q111
            obtain ⟨Ao42, co42, eo42⟩ := Kd.S_slice HO_5.out
            subst eo42
            have p112 : 0 ≤ ((rd x7_4 x11_3) : Int) := tD
            have q112 : (rd x7_4 x11_3) < (t102.length : Int) := tD
            obtain ⟨ad112, A112_0, c112_0, e112, hx112_0, hl112_0, hi112_0⟩ := at_L80 (Kd.S_reads' HO_5.out).2.2 (rd x7_4 x11_3) p112 q112
            cases e112
            obtain ⟨ce112, hce112, hMe112, hcc112⟩ := Kd.S_get HO_5.out [] (rd x7_4 x11_3) p112 (by first | exact q112 | exact tD | (have e_ := (Kd.S_reads' HO_5.out).1; omega))
            obtain ⟨ve112_0, rfl, ge112_0⟩ := hMe112
            have hv112_0 := hcc112 0 _ rfl
            rw [Nat.add_zero, show ((Kd.slice 80 k80)).sz = 1 from rfl, Nat.mul_one] at hv112_0
            replace hv112_0 := Option.some.inj (hv112_0.symm.trans hx112_0)
            rw [hv112_0] at ge112_0
            have HL112_0 := Aside0.mk (show Kd.R k80 80 _ _ _ _ (rd_L80 t102 (rd x7_4 x11_3)) from ge112_0)
            clear hv112_0 ge112_0
            clear hcc112 hce112
            have HR112_0 := Aside0.mk hi112_0
            have HC112_0 := Aside0.mk hl112_0
            clear hi112_0 hl112_0
            replace p112 := eq_true p112
            replace q112 := eq_true q112
            obtain ⟨Ao43, co43, eo43⟩ := Kd.S_slice HO_6.out
            subst eo43
            go_wp2
            go_roundg k4
            case measure => have := HJ2.out; have := HK2.out; have := HK3.out; have := HK4.out; omega
            case rel => exact ⟨(x6_4), (x7_4), (wrap64 (x11_3 + 1)), tU, H', ⟨by have := HJ2.out; have := HK2.out; have := HK3.out; have := HK4.out; omega⟩, ⟨tR HO_5⟩, ⟨tR HO_6⟩, ⟨tR HO_7⟩, ⟨tK BK101⟩, ⟨tB⟩⟩
           rw [if_neg c25] at H
           have c25b0 := decide_eq_false c25
           clear c25
           have H' := Aside0.mk H
           clear H
           obtain ⟨Ao44, co44, eo44⟩ := Kd.R_slice HO_7.out
           subst eo44
           have p111 : 0 ≤ (x11_3 : Int) := tD
           have q111 : x11_3 < (x7_4.length : Int) := tD
           obtain ⟨ad111, e111, hx111_0⟩ := Kd.at_int (Kd.R_reads' HO_7.out).2.2 x11_3 p111 q111
           cases e111
           replace p111 := eq_true p111
           replace q111 := eq_true q111
           obtain ⟨Ao45, co45, eo45⟩ := Kd.S_slice HO_5.out
           subst eo45
           have p112 : 0 ≤ ((rd x7_4 x11_3) : Int) := tD
           have q112 : (rd x7_4 x11_3) < (t102.length : Int) := tD
           obtain ⟨ad112, A112_0, c112_0, e112, hx112_0, hl112_0, hi112_0⟩ := at_L80 (Kd.S_reads' HO_5.out).2.2 (rd x7_4 x11_3) p112 q112
           cases e112
           obtain ⟨ce112, hce112, hMe112, hcc112⟩ := Kd.S_get HO_5.out [] (rd x7_4 x11_3) p112 (by first | exact q112 | exact tD | (have e_ := (Kd.S_reads' HO_5.out).1; omega))
           obtain ⟨ve112_0, rfl, ge112_0⟩ := hMe112
           have hv112_0 := hcc112 0 _ rfl
           rw [Nat.add_zero, show ((Kd.slice 80 k80)).sz = 1 from rfl, Nat.mul_one] at hv112_0
           replace hv112_0 := Option.some.inj (hv112_0.symm.trans hx112_0)
           rw [hv112_0] at ge112_0
           have HL112_0 := Aside0.mk (show Kd.R k80 80 _ _ _ _ (rd_L80 t102 (rd x7_4 x11_3)) from ge112_0)
           clear hv112_0 ge112_0
           clear hcc112 hce112
           have HR112_0 := Aside0.mk hi112_0
           have HC112_0 := Aside0.mk hl112_0
           clear hi112_0 hl112_0
           replace p112 := eq_true p112
           replace q112 := eq_true q112
           go_wp2
           go_roundg k4
           case measure => have := HJ2.out; have := HK2.out; have := HK3.out; have := HK4.out; omega
           case rel => exact ⟨(x6_4), (x7_4), (wrap64 (x11_3 + 1)), tU, H', ⟨by have := HJ2.out; have := HK2.out; have := HK3.out; have := HK4.out; omega⟩, ⟨tR HO_5⟩, ⟨tR HO_6⟩, ⟨tR HO_7⟩, ⟨tK BK101⟩, ⟨tB⟩⟩
        rw [if_neg c20] at H
        have c20b0 := decide_eq_false c20
        clear c20
        have H' := Aside0.mk H
        clear H
        go_wp2
        go_roundg k3
        case measure => have := HJ2.out; have := HK2.out; have := HK3.out; omega
        case rel => exact ⟨(x6_3), (x7_3), ((x6_2.length : Int)), (wrap64 (x9_2 + 1)), tU, tU, H', ⟨by have := HJ2.out; have := HK2.out; have := HK3.out; omega⟩, ⟨tR HO_5⟩, ⟨tR HO_6⟩, ⟨tR HO_7⟩, ⟨tK BK101⟩, ⟨tB⟩⟩
     rw [if_neg c18] at H
     have c18b0 := decide_eq_false c18
     clear c18
     obtain rfl := Option.some.inj H
     go_wp2
     go_ret
     exact ⟨_, tE, by (with_reducible repeat (first | apply Kd.S_alloc | apply Kd.S_drewN | apply Kd.S_drew)); exact Kd.S_mono HO_6.out (fun _ hk => trivial), tB⟩
end Go.Proofs.Ytfnjbgggmddgpaa.Q
end
