/- Part 3 of a proof: Df. Words and walks that a program printed for this claim stand here without what the claim does not use. -/
import Derived.Test.YtfnjbgggmddgpaaDf2
section
namespace Go.Proofs.Ytfnjbgggmddgpaa.Q
open Go.RowKit Go.Proofs.Fn Go.Proofs.YtfnjbgggmddgpaaW.PrintWords Go.Proofs.YtfnjbgggmddgpaaW.PrintLast Go.Proofs.YtfnjbgggmddgpaaW.PrintMore
attribute [local go_sem] max2_int min2_int max_two min_two max_three min_three max_four min_four
set_option linter.unusedVariables false
set_option linter.unusedSimpArgs false
mutual
def witness_steps.l0 : Nat → List (List (S66)) → Int → Int → List (List Int) → List (S80) → Bool → Option ((List (List (S66))))
 | 0, _, _, _, _, _, _ => none
 | k + 1, x3, x14, x15, x102000, x102001, x102002 => if x15 < x14 then ((explore_Next.f k x102000 x102001 x102002 x15).bind fun t105 => (witness_steps.l1 k x3 x15 x14 x15 t105 (t105.length : Int) 0 x102000 x102001 x102002)) else (some x3)
def witness_steps.l1 : Nat → List (List (S66)) → Int → Int → Int → List (S80) → Int → Int → List (List Int) → List (S80) → Bool → Option ((List (List (S66))))
 | 0, _, _, _, _, _, _, _, _, _, _ => none
 | k + 1, x3, x4, x14, x15, x20, x21, x22, x102000, x102001, x102002 => if x22 < x21 then (if 0 ≤ x22 then (if x22 < (x20.length : Int) then (witness_steps.l2 k x3 x4 0 x14 x15 x20 x21 x22 x102000 x102001 x102002 ((rd_T80 x20 x22).f0) ((rd_T80 x20 x22).f1) ((rd_T80 x20 x22).f2)) else (none)) else (none)) else (witness_steps.l0 k x3 x14 (wrap64 (x15 + 1)) x102000 x102001 x102002)
def witness_steps.l2 : Nat → List (List (S66)) → Int → Int → Int → Int → List (S80) → Int → Int → List (List Int) → List (S80) → Bool → Int → Int → Int → Option ((List (List (S66))))
 | 0, _, _, _, _, _, _, _, _, _, _, _, _, _, _ => none
 | k + 1, x3, x4, x7, x14, x15, x20, x21, x22, x102000, x102001, x102002, x110000, x110001, x110002 => if 0 ≤ x4 then (if x4 < (x3.length : Int) then (if x7 < ((rd_L66 x3 x4).length : Int) then (if 0 ≤ x7 then (if ((rd_T66 (rd_L66 x3 x4) x7).f0) < x110001 then (witness_steps.l2 k x3 x4 (wrap64 (x7 + 1)) x14 x15 x20 x21 x22 x102000 x102001 x102002 x110000 x110001 x110002) else (if ((rd_T66 (rd_L66 x3 x4) x7).f0) = x110001 then (witness_steps.l1 k x3 x4 x14 x15 x20 x21 (wrap64 (x22 + 1)) x102000 x102001 x102002) else (if (rd_L66 x3 x4).length < 8796093022208 then ((some (x3.set (x4 : Int).toNat ((rd_L66 x3 x4) ++ [(⟨0, 0⟩ : S66)]) : List (List (S66)))).bind fun y120 => (if x7 < ((rd_L66 y120 x4).length : Int) then ((some (shiftAt_ y120 (x4 : Int) (x7 : Int) : List (List (S66)))).bind fun y121 => (if x7 < ((rd_L66 y121 x4).length : Int) then (witness_steps.l1 k (y121.set (x4 : Int).toNat ((rd_L66 y121 x4).set (x7 : Int).toNat (⟨x110001, x110002⟩ : S66))) x4 x14 x15 x20 x21 (wrap64 (x22 + 1)) x102000 x102001 x102002) else (none))) else (none))) else (none)))) else (none)) else (if (rd_L66 x3 x4).length < 8796093022208 then ((some (x3.set (x4 : Int).toNat ((rd_L66 x3 x4) ++ [(⟨0, 0⟩ : S66)]) : List (List (S66)))).bind fun y131 => (if 0 ≤ x7 then (if x7 < ((rd_L66 y131 x4).length : Int) then ((some (shiftAt_ y131 (x4 : Int) (x7 : Int) : List (List (S66)))).bind fun y132 => (if x7 < ((rd_L66 y132 x4).length : Int) then (witness_steps.l1 k (y132.set (x4 : Int).toNat ((rd_L66 y132 x4).set (x7 : Int).toNat (⟨x110001, x110002⟩ : S66))) x4 x14 x15 x20 x21 (wrap64 (x22 + 1)) x102000 x102001 x102002) else (none))) else (none)) else (none))) else (none))) else (none)) else (none)
end
def witness_steps.f (k : Nat) (l0_0 : List (List Int)) (l0_1 : List (S80)) (a0_2 : Bool) : Option ((List (List (S66)))) := if 0 ≤ (l0_0.length : Int) then (if ((l0_0.length : Int) : Int).toNat ≤ 11728124029610 then (witness_steps.l0 k (List.replicate ((l0_0.length : Int) : Int).toNat []) (l0_0.length : Int) 0 l0_0 l0_1 a0_2) else (none)) else (none)
def witness_steps.T9 : Bool × List (List Nat × List Nat) := (true, [([], []), ([], []), ([], []), ([1, 2], [1, 2]), ([3], [3]), ([4], [4]), ([0, 5], [0, 5]), ([6], [6]), ([7], [7]), ([7], [7]), ([8, 9, 7], [7, 8, 9]), ([10, 7], [7, 10]), ([7], [7]), ([11, 12, 7], [7, 11, 12]), ([13, 7], [7, 13]), ([14, 7], [7, 14]), ([7], [7]), ([16, 7], [7, 16]), ([15, 17, 7], [7, 15, 17]), ([7, 18], [7, 18])])
def witness_steps.B9 : List Nat := [0, 0, 0, 6, 14, 30, 63, 127, 255, 255, 1023, 2047, 255, 8191, 16383, 32767, 255, 65791, 262143, 524287]
theorem witness_steps.tab9 : rtab .any (opsOf Try.f34 9) = witness_steps.T9 := by kernel_rfl
theorem witness_steps.bits9 : waitsOk witness_steps.T9.2 witness_steps.B9 = true := by kernel_rfl
def witness_steps.T11 : Bool × List (List Nat × List Nat) := (true, [([], []), ([], []), ([], []), ([1, 2], [1, 2]), ([3], [3]), ([4], [4]), ([0, 5], [0, 5]), ([6], [6]), ([7], [7]), ([7], [7]), ([8, 9, 7], [7, 8, 9]), ([10, 7], [7, 10]), ([7], [7]), ([11, 12, 7], [7, 11, 12]), ([13, 7], [7, 13]), ([14, 7], [7, 14]), ([7], [7]), ([16, 7], [7, 16]), ([15, 17, 7], [7, 15, 17]), ([7, 18], [7, 18])])
def witness_steps.B11 : List Nat := [0, 0, 0, 6, 14, 30, 63, 127, 255, 255, 1023, 2047, 255, 8191, 16383, 32767, 255, 65791, 262143, 524287]
theorem witness_steps.tab11 : rtab .any (opsOf Try.f34 11) = witness_steps.T11 := by kernel_rfl
theorem witness_steps.bits11 : waitsOk witness_steps.T11.2 witness_steps.B11 = true := by kernel_rfl
def witness_steps.T13 : Bool × List (List Nat × List Nat) := (true, [([], []), ([], []), ([0, 1], [0, 1]), ([2], [2]), ([], []), ([4], [4]), ([3, 5], [3, 5]), ([], []), ([], []), ([7, 8], [7, 8]), ([9], [9]), ([], []), ([10, 11], [10, 11]), ([6, 12], [6, 12])])
def witness_steps.B13 : List Nat := [0, 0, 3, 7, 0, 16, 63, 0, 0, 384, 896, 0, 3968, 8191]
theorem witness_steps.tab13 : rtab .any (opsOf Try.f34 13) = witness_steps.T13 := by kernel_rfl
theorem witness_steps.bits13 : waitsOk witness_steps.T13.2 witness_steps.B13 = true := by kernel_rfl
def witness_steps.T14 : Bool × List (List Nat × List Nat) := (true, [([], []), ([], []), ([0, 1], [0, 1]), ([2], [2]), ([], []), ([], []), ([5], [5]), ([], []), ([7], [7]), ([6, 8], [6, 8]), ([3, 4, 0, 1, 2, 3, 4, 5, 6, 7, 8, 9], [3, 4]), ([10, 9, 0, 1, 2, 3, 4, 5, 6, 7, 8, 9], [9, 10])])
def witness_steps.B14 : List Nat := [0, 0, 3, 7, 0, 0, 32, 0, 128, 480, 1023, 2047]
theorem witness_steps.tab14 : rtab .any (opsOf Try.f34 14) = witness_steps.T14 := by kernel_rfl
theorem witness_steps.bits14 : waitsOk witness_steps.T14.2 witness_steps.B14 = true := by kernel_rfl
set_option maxHeartbeats 8000000 in
set_option maxRecDepth 100000 in
theorem witness_steps.calls (k : Nat) (A0_0 : Option Addr) (c0_0 : Nat) (l0_0 : List (List Int)) (A0_1 : Option Addr) (c0_1 : Nat) (l0_1 : List (S80)) (a0_2 : Bool) (r : List (List (S66))) (w : World) (hr0_0 : Kd.C (Kd.slice 3 (Kd.int .i64)) w A0_0 l0_0.length l0_0) (hc0_0 : l0_0.length ≤ c0_0) (hr0_1 : Kd.C k80 w A0_1 l0_1.length l0_1) (hc0_1 : l0_1.length ≤ c0_1) (h : witness_steps.f k l0_0 l0_1 a0_2 = some r) :
  Calls Try.prog 34 #[.agg #[.slice A0_0 l0_0.length c0_0, .slice A0_1 l0_1.length c0_1, .bool a0_2]] w fun e w' => ∃ v0_ : Value, e = .returned (v0_) ∧ Kd.S (Kd.slice 66 k66) 59 w' w.heap.size (fun _ => True) v0_ r ∧ Below w.heap.size w w' := by
 have hu25 := Try.underlying25
 have hu80 := Try.underlying80
 have hu66 := Try.underlying66
 have HR0_0 := Aside0.mk hr0_0
 have HC0_0 := Aside0.mk hc0_0
 clear hr0_0 hc0_0
 have HR0_1 := Aside0.mk hr0_1
 have HC0_1 := Aside0.mk hc0_1
 clear hr0_1 hc0_1
 have HB := Aside0.mk (Below.refl w.heap.size w)
 have H : (if 0 ≤ (l0_0.length : Int) then (if ((l0_0.length : Int) : Int).toNat ≤ 11728124029610 then (witness_steps.l0 k (List.replicate ((l0_0.length : Int) : Int).toNat []) (l0_0.length : Int) 0 l0_0 l0_1 a0_2) else (none)) else (none)) = some r := h
 clear h
 by_cases c2 : 0 ≤ (l0_0.length : Int)
 ·rw [if_pos c2] at H
  have c2b0 := eq_true c2
  have c2b1 := decide_eq_true c2
  clear c2
  replace H := tF H
  obtain ⟨c3, H⟩ := H
  have c3b0 := eq_true c3
  have c3b1 := decide_eq_true c3
  clear c3
  obtain ⟨y102, hy102⟩ : ∃ y_ : List (List (S66)), y_ = (List.replicate ((l0_0.length : Int) : Int).toNat []) := ⟨_, rfl⟩
  replace H : (witness_steps.l0 k y102 (l0_0.length : Int) 0 l0_0 l0_1 a0_2) = some r := tQ hy102 H
  have Ny102 := Aside0.mk hy102
  clear hy102
  have H' := Aside0.mk H
  clear H
  go_enter Try.func34, Try.ntmps34
  go_wp2_with (first | go_step3 | ((with_reducible refine gate_dst (N := 1) rfl ?_); refine tBx 1 25 #[.slice A0_0 l0_0.length c0_0, .slice A0_1 l0_1.length c0_1, .bool a0_2] ?_; intro gb101 hg w4 hbox hb; have BK101 := Aside0.mk (hbox); have GW101 := tW HB hg; have GE101 := tW HB hg; replace HB := tA HB hb; clear hb hbox hg; obtain ⟨hcz5_0, hcz5_1, hcz5_2, hfz5_0, hfz5_1, hfz5_2⟩ := zc3 BK101) | ((with_reducible refine gate_dst (N := 11) rfl ?_); refine Kd.S_make (Kd.slice 66 k66) _ 59 rfl (N := 11) rfl 56 _ _ rfl (l0_0.length : Int) rfl rfl Try.underlying56 (.slice none 0 0) 24 info59 rfl (by decide) (by omega) [] (ok := fun _ => True) (okp := fun _ => True) ⟨_, rfl, Kd.R_nil _ _ _ _ _⟩ (fun _ hk => hk) trivial (tD) (Nat.le_trans (Nat.mul_le_mul_right _ (tD : (l0_0.length : Int).toNat ≤ 11728124029610)) (by omega)) (Below.refl _ _) (Nat.le_refl _) ?_; intro v103 w6 ho7 hb hg_ hnew_; clear hg_ hnew_; (first | rw [← Ny102.out] at ho7 | (simp only [Int.reduceToNat] at ho7; rw [← Ny102.out] at ho7)); have HO104 := Aside0.mk (Kd.S_lower ho7 (below_size (tB))); replace BK101 := tL BK101 hb; replace HB := tA HB hb; clear hb ho7; obtain ⟨hcz8_0, hcz8_1, hcz8_2, hfz8_0, hfz8_1, hfz8_2⟩ := zc3 BK101))
  go_loopg [15] k (fun kq v15 w' => ∃ (x3_1 : List (List (S66))) (x15_1 : Int), v15 = .int .i64 x15_1 ∧ Aside0 (witness_steps.l0 kq x3_1 (l0_0.length : Int) x15_1 l0_0 l0_1 a0_2 = some r) ∧ Aside0 (kq ≤ k) ∧ Aside0 (Kd.S (Kd.slice 66 k66) 59 w' w.heap.size (fun _ => True) v103 x3_1) ∧ Aside0 (w'.heap[gb101]? = some (.cells #[(.slice A0_0 l0_0.length c0_0), (.slice A0_1 l0_1.length c0_1), .bool a0_2] 25 (0, 0))) ∧ Aside0 (Below w.heap.size w w'))
  case atStart => exact ⟨(y102), (0), tU, H', ⟨Nat.le_refl _⟩, ⟨tR HO104⟩, ⟨tK BK101⟩, ⟨tB⟩⟩
  case round =>
   clear H'
   (try clear c2); (try clear c2b0); (try clear c2b1); (try clear p2); (try clear c3); (try clear c3b0); (try clear c3b1); (try clear hcz5_0 hcz5_1 hcz5_2 hfz5_0 hfz5_1 hfz5_2); (try clear hcz8_0 hcz8_1 hcz8_2 hfz8_0 hfz8_1 hfz8_2)
   obtain ⟨x3_1, x15_1, rfl, HA, HK1, HO_3, BK101, HB⟩ := hrel
   cases gk with
   | zero => exact absurd HA.out (by simp [witness_steps.l0])
   | succ k1 =>
    have H := HA.out
    clear HA
    simp only [witness_steps.l0] at H
    by_cases c9 : x15_1 < (l0_0.length : Int)
    ·rw [if_pos c9] at H
     have c9b0 := decide_eq_true c9
     clear c9
     replace H := Option.bind_eq_some_iff.mp H
     obtain ⟨t105, A100, H⟩ := H
     (try dsimp only at H)
     have A10 := Aside0.mk A100
     clear A100
     have H' := Aside0.mk H
     clear H
     obtain ⟨hcz11_0, hcz11_1, hcz11_2, hfz11_0, hfz11_1, hfz11_2⟩ := zc3 BK101
     go_wp2_with (first | go_step3 | ((with_reducible refine gate_callee (f := 57) rfl ?_); refine goesL_ (some 20) rfl rfl Try.func57 (by kernel_rfl) rfl #[.agg #[.slice A0_0 l0_0.length c0_0, .slice A0_1 l0_1.length c0_1, .bool a0_2], .int .i64 x15_1] rfl (by (try simp only [List.map_toArray, List.map_cons, List.map_nil]); first | done | rfl | (simp only [List.length_drop, List.length_take]; rfl)) ?_; (with_reducible refine (explore_Next.calls k1 _ _ l0_0 _ _ l0_1 a0_2 x15_1 t105 _ (tG HR0_0 HB) HC0_0.out (tG HR0_1 HB) HC0_1.out A10.out).mono ?_); rintro e w12 ⟨v106, rfl, ho0, hb⟩; refine ⟨_, rfl, ?_⟩; replace HO_3 := Aside0.mk (Kd.S_below (tR HO_3) hb); have HO107 := Aside0.mk (Kd.R_lower ho0 (below_size (tB))); replace BK101 := tL BK101 hb; replace HB := tA HB hb; (try clear hb); (try clear hb2); (try clear hk); (try clear hi); (try clear ho0); obtain ⟨Ao13, co13, eo13⟩ := Kd.R_slice HO107.out; subst eo13))
     go_loopg [22] k1 (fun kq v22 w' => ∃ (x3_2 : List (List (S66))) (x22_2 : Int), v22 = .int .i64 x22_2 ∧ Aside0 (witness_steps.l1 kq x3_2 x15_1 (l0_0.length : Int) x15_1 t105 (t105.length : Int) x22_2 l0_0 l0_1 a0_2 = some r) ∧ Aside0 (kq ≤ k1) ∧ Aside0 (Kd.S (Kd.slice 66 k66) 59 w' w.heap.size (fun _ => True) v103 x3_2) ∧ Aside0 (Kd.R k80 80 w' w.heap.size (fun _ => True) (.slice Ao13 t105.length co13) t105) ∧ Aside0 (w'.heap[gb101]? = some (.cells #[(.slice A0_0 l0_0.length c0_0), (.slice A0_1 l0_1.length c0_1), .bool a0_2] 25 (0, 0))) ∧ Aside0 (Below w.heap.size w w'))
     case atStart => exact ⟨(x3_1), (0), tU, H', ⟨Nat.le_refl _⟩, ⟨tR HO_3⟩, ⟨tR HO107⟩, ⟨tK BK101⟩, ⟨tB⟩⟩
     case round =>
      clear H'
      (try clear c2); (try clear c2b0); (try clear c2b1); (try clear p2); (try clear c3); (try clear c3b0); (try clear c3b1); (try clear c5); (try clear c9); (try clear c9b0); (try clear hcz11_0 hcz11_1 hcz11_2 hfz11_0 hfz11_1 hfz11_2); (try clear hcz5_0 hcz5_1 hcz5_2 hfz5_0 hfz5_1 hfz5_2); (try clear hcz8_0 hcz8_1 hcz8_2 hfz8_0 hfz8_1 hfz8_2)
      obtain ⟨x3_2, x22_2, rfl, HA, HK2, HO_3, HO_20, BK101, HB⟩ := hrel
      cases gk with
      | zero => exact absurd HA.out (by simp [witness_steps.l1])
      | succ k2 =>
       have H := HA.out
       clear HA
       simp only [witness_steps.l1] at H
       by_cases c14 : x22_2 < (t105.length : Int)
       ·rw [if_pos c14] at H
        have c14b0 := decide_eq_true c14
        clear c14
        replace H := tF H
        obtain ⟨c15, H⟩ := H
        have c15b0 := decide_eq_true c15
        clear c15
        replace H := tF H
        obtain ⟨c16, H⟩ := H
        have c16b0 := decide_eq_true c16
        clear c16
        have H' := Aside0.mk H
        clear H
        have p108 : 0 ≤ (x22_2 : Int) := tD
        have q108 : x22_2 < (t105.length : Int) := tD
        obtain ⟨ad108, e108, hx108_0, hx108_1, hx108_2⟩ := at_T80 (Kd.R_reads' HO_20.out).2.2 x22_2 p108 q108
        cases e108
        replace p108 := eq_true p108
        replace q108 := eq_true q108
        go_wp2_with (first | go_step3 | ((with_reducible refine gate_dst (N := 6) rfl ?_); refine tBx 6 80 #[.int .i64 0, .int .i64 0, .int .i64 0] ?_; intro gb109 hg w17 hbox hb; replace HO_3 := Aside0.mk (Kd.S_below (tR HO_3) hb); replace HO_20 := Aside0.mk (Kd.R_below (Kd.R_elderB (tR HO_20) gb109 (Nat.le_of_eq hg.symm)) hb); have BK109 := Aside0.mk (hbox); have GW109 := tW HB hg; have GE109 := tW HB hg; replace HB := tA HB hb; have NB101_109 := tNl BK101 hg; have NB109_101 := tNg BK101 hg; replace BK101 := tL BK101 hb; clear hb hbox hg; have hnb18 := NB109_101.out; have hnc18 := NB101_109.out; obtain ⟨hcz19_0, hcz19_1, hcz19_2, hfz19_0, hfz19_1, hfz19_2⟩ := zc3 BK109))
        go_loopg [7] k2 (fun kq v7 w' => ∃ (x7_3 : Int), v7 = .int .i64 x7_3 ∧ Aside0 (witness_steps.l2 kq x3_2 x15_1 x7_3 (l0_0.length : Int) x15_1 t105 (t105.length : Int) x22_2 l0_0 l0_1 a0_2 ((rd_T80 t105 x22_2).f0) ((rd_T80 t105 x22_2).f1) ((rd_T80 t105 x22_2).f2) = some r) ∧ Aside0 (kq ≤ k2) ∧ Aside0 (Kd.S (Kd.slice 66 k66) 59 w' w.heap.size (fun _ => True) v103 x3_2) ∧ Aside0 (Kd.R k80 80 w' w.heap.size (fun k_ => k_ ≠ gb109) (.slice (some ad108) t105.length co13) t105) ∧ Aside0 (w'.heap[gb101]? = some (.cells #[(.slice A0_0 l0_0.length c0_0), (.slice A0_1 l0_1.length c0_1), .bool a0_2] 25 (0, 0))) ∧ Aside0 (w'.heap[gb109]? = some (.cells #[.int .i64 ((rd_T80 t105 x22_2).f0), .int .i64 ((rd_T80 t105 x22_2).f1), .int .i64 ((rd_T80 t105 x22_2).f2)] 80 (0, 0))) ∧ Aside0 (Below w.heap.size w w'))
        case atStart => exact ⟨(0), tU, H', ⟨Nat.le_refl _⟩, ⟨by (with_reducible repeat (first | apply Kd.S_alloc | apply Kd.S_drewN | apply Kd.S_drew)); exact Kd.S_mono (Kd.S_far (p := ⟨gb109, 2, none⟩) (Kd.S_far (p := ⟨gb109, 1, none⟩) (Kd.S_far (p := ⟨gb109, 0, none⟩) (Kd.S_types HO_3.out BK109.out (by decide)) (fun _ hk => hk.2) (.int .i64 ((rd_T80 t105 x22_2).f0))) (fun _ hk => hk.2) (.int .i64 ((rd_T80 t105 x22_2).f1))) (fun _ hk => hk.2) (.int .i64 ((rd_T80 t105 x22_2).f2))) (fun _ hk => trivial)⟩, ⟨by (with_reducible repeat (first | apply Kd.R_alloc | apply Kd.R_drewN | apply Kd.R_drew)); exact Kd.R_mono (Kd.R_far (p := ⟨gb109, 2, none⟩) (Kd.R_far (p := ⟨gb109, 1, none⟩) (Kd.R_far (p := ⟨gb109, 0, none⟩) (Kd.R_mono HO_20.out (fun k_ hk => (⟨hk, hk.2⟩ : _ ∧ k_ ≠ gb109))) (fun _ hk => hk.2) (.int .i64 ((rd_T80 t105 x22_2).f0))) (fun _ hk => hk.2) (.int .i64 ((rd_T80 t105 x22_2).f1))) (fun _ hk => hk.2) (.int .i64 ((rd_T80 t105 x22_2).f2))) (fun _ hk => hk.1.2)⟩, ⟨by (with_reducible repeat (first | refine blk_drewN ?_ _ | refine blk_drew ?_ | refine blk_alloc ?_ _)); refine blk_far ?_ NB101_109.out _; (with_reducible repeat (first | refine blk_drewN ?_ _ | refine blk_drew ?_ | refine blk_alloc ?_ _)); refine blk_far ?_ NB101_109.out _; (with_reducible repeat (first | refine blk_drewN ?_ _ | refine blk_drew ?_ | refine blk_alloc ?_ _)); refine blk_far ?_ NB101_109.out _; (with_reducible repeat (first | refine blk_drewN ?_ _ | refine blk_drew ?_ | refine blk_alloc ?_ _)); exact BK101.out⟩, ⟨by (with_reducible repeat (first | refine blk_drewN ?_ _ | refine blk_drew ?_ | refine blk_alloc ?_ _)); refine blk_put (cs := #[.int .i64 ((rd_T80 t105 x22_2).f0), .int .i64 ((rd_T80 t105 x22_2).f1), .int .i64 0]) ?_ 2 _ rfl; (with_reducible repeat (first | refine blk_drewN ?_ _ | refine blk_drew ?_ | refine blk_alloc ?_ _)); refine blk_put (cs := #[.int .i64 ((rd_T80 t105 x22_2).f0), .int .i64 0, .int .i64 0]) ?_ 1 _ rfl; (with_reducible repeat (first | refine blk_drewN ?_ _ | refine blk_drew ?_ | refine blk_alloc ?_ _)); refine blk_put (cs := #[.int .i64 0, .int .i64 0, .int .i64 0]) ?_ 0 _ rfl; (with_reducible repeat (first | refine blk_drewN ?_ _ | refine blk_drew ?_ | refine blk_alloc ?_ _)); exact BK109.out⟩, ⟨tB⟩⟩
        case round =>
         clear H'
         (try clear c1); (try clear p1); (try clear q1); (try clear hx1); (try clear c2); (try clear c2b0); (try clear c2b1); (try clear p2); (try clear c3); (try clear c3b0); (try clear c3b1); (try clear c5); (try clear c9); (try clear c9b0); (try clear p10); (try clear q10); (try clear hx10); (try clear c14); (try clear c14b0); (try clear c15); (try clear c15b0); (try clear c16); (try clear c16b0); (try clear c18); (try clear hcz11_0 hcz11_1 hcz11_2 hfz11_0 hfz11_1 hfz11_2); (try clear hcz19_0 hcz19_1 hcz19_2 hfz19_0 hfz19_1 hfz19_2); (try clear hcz5_0 hcz5_1 hcz5_2 hfz5_0 hfz5_1 hfz5_2); (try clear hcz8_0 hcz8_1 hcz8_2 hfz8_0 hfz8_1 hfz8_2); (try clear hx108_0); (try clear hx108_1); (try clear hx108_2); (try clear p108); (try clear q108)
         obtain ⟨x7_3, rfl, HA, HK3, HO_3, HO_20, BK101, BK109, HB⟩ := hrel
         cases gk with
         | zero => exact absurd HA.out (by simp [witness_steps.l2])
         | succ k3 =>
          have H := HA.out
          clear HA
          simp only [witness_steps.l2] at H
          replace H := tF H
          obtain ⟨c20, H⟩ := H
          have c20b0 := decide_eq_true c20
          clear c20
          replace H := tF H
          obtain ⟨c21, H⟩ := H
          have c21b0 := decide_eq_true c21
          clear c21
          by_cases c22 : x7_3 < ((rd_L66 x3_2 x15_1).length : Int)
          ·rw [if_pos c22] at H
           have c22b0 := decide_eq_true c22
           clear c22
           replace H := tF H
           obtain ⟨c23, H⟩ := H
           have c23b0 := decide_eq_true c23
           clear c23
           by_cases c24 : ((rd_T66 (rd_L66 x3_2 x15_1) x7_3).f0) < ((rd_T80 t105 x22_2).f1)
           ·rw [if_pos c24] at H
            have c24b0 := decide_eq_true c24
            clear c24
            have H' := Aside0.mk H
            clear H
            try go_wp2_with go_step3
            replace HO_3 := Aside0.mk (Kd.S_drew HO_3.out)
            replace HO_20 := Aside0.mk (Kd.R_drew HO_20.out)
            replace BK101 := Aside0.mk (blk_drew BK101.out)
            replace BK109 := Aside0.mk (blk_drew BK109.out)
            replace HB := Aside0.mk (below_drew1 HB.out)
            obtain ⟨Ao26, co26, eo26⟩ := Kd.S_slice HO_3.out
            (first | subst eo26 | (injection eo26 with f1_ f2_ f3_; have f4_ := f1_.symm; have f5_ := f3_.symm; clear f1_ f2_ f3_; subst f4_; subst f5_))
            have p110 : 0 ≤ (x15_1 : Int) := tD
            have q110 : x15_1 < (x3_2.length : Int) := tD
            obtain ⟨ad110, A110_0, c110_0, e110, hx110_0, hl110_0, hi110_0⟩ := at_L66 (Kd.S_reads' HO_3.out).2.2 x15_1 p110 q110
            cases e110
            obtain ⟨ce110, hce110, hMe110, hcc110⟩ := Kd.S_get HO_3.out [] x15_1 p110 (by first | exact q110 | exact tD | (have e_ := (Kd.S_reads' HO_3.out).1; omega))
            obtain ⟨ve110_0, rfl, ge110_0⟩ := hMe110
            have hv110_0 := hcc110 0 _ rfl
            rw [Nat.add_zero, show ((Kd.slice 66 k66)).sz = 1 from rfl, Nat.mul_one] at hv110_0
            replace hv110_0 := Option.some.inj (hv110_0.symm.trans hx110_0)
            rw [hv110_0] at ge110_0
            have HL110_0 := Aside0.mk (show Kd.R k66 66 _ _ _ _ (rd_L66 x3_2 x15_1) from ge110_0)
            clear hv110_0 ge110_0
            have HX110_0 := Aside0.mk hx110_0
            clear hcc110 hce110
            have HR110_0 := Aside0.mk hi110_0
            have HC110_0 := Aside0.mk hl110_0
            clear hi110_0 hl110_0
            replace p110 := eq_true p110
            replace q110 := eq_true q110
            have p111 : 0 ≤ (x15_1 : Int) := tD
            have q111 : x15_1 < (x3_2.length : Int) := tD
            obtain ⟨ad111, A111_0, c111_0, e111, hx111_0, hl111_0, hi111_0⟩ := at_L66 (Kd.S_reads' HO_3.out).2.2 x15_1 p111 q111
            obtain rfl : ad110 = ad111 := (by injection e111)
            obtain ⟨ce111, hce111, hMe111, hcc111⟩ := Kd.S_get HO_3.out [] x15_1 p111 (by first | exact q111 | exact tD | (have e_ := (Kd.S_reads' HO_3.out).1; omega))
            obtain ⟨ve111_0, rfl, ge111_0⟩ := hMe111
            have hv111_0 := hcc111 0 _ rfl
            rw [Nat.add_zero, show ((Kd.slice 66 k66)).sz = 1 from rfl, Nat.mul_one] at hv111_0
            replace hv111_0 := Option.some.inj (hv111_0.symm.trans hx111_0)
            rw [hv111_0] at ge111_0
            have HL111_0 := Aside0.mk (show Kd.R k66 66 _ _ _ _ (rd_L66 x3_2 x15_1) from ge111_0)
            clear hv111_0 ge111_0
            have HX111_0 := Aside0.mk hx111_0
            clear hcc111 hce111
            have HR111_0 := Aside0.mk hi111_0
            have HC111_0 := Aside0.mk hl111_0
            clear hi111_0 hl111_0
            replace p111 := eq_true p111
            replace q111 := eq_true q111
            have ea_ := Option.some.inj (hx110_0.symm.trans hx111_0)
            injection ea_ with ea_ en_ ec_
            subst ea_
            subst ec_
            clear en_
            have p112 : 0 ≤ (x7_3 : Int) := tD
            have q112 : x7_3 < ((rd_L66 x3_2 x15_1).length : Int) := tD
            obtain ⟨ad112, e112, hx112_0, hx112_1⟩ := at_T66 (by repeat (first | (with_reducible exact HR111_0.out) | (with_reducible refine Kd.C_alloc ?_ _) | (with_reducible refine Kd.C_drewN ?_ _) | (with_reducible refine Kd.C_drew ?_) | exact HR111_0.out)) x7_3 p112 q112
            cases e112
            replace p112 := eq_true p112
            replace q112 := eq_true q112
            refine sS7 20 [] rfl witness_steps.tab9 witness_steps.bits9 ⟨tz BK109 0, tz BK109 1, tz BK109 2, hx110_0, hx111_0, hx112_0, hx112_1⟩ (fun hHeld HT_ HW_ => ?_)
            generalize wr.drew = w25 at HO_3 HO_20 BK101 BK109 HB HL110_0 HL111_0 HR110_0 HR111_0 HX110_0 HX111_0 hx110_0 hx111_0 hx112_0 hx112_1 hHeld ⊢
            refine sP 0 26 HT_ rfl rfl ?_
            refine sP 1 27 HT_ rfl rfl ?_
            refine sP 2 28 HT_ rfl rfl ?_
            refine sP 3 29 HT_ rfl rfl ?_
            refine sT 4 30 HT_ HW_ rfl rfl hHeld ?_
            refine sP 5 31 HT_ rfl rfl ?_
            refine sP 6 32 HT_ rfl rfl ?_
            refine sP 7 33 HT_ rfl rfl ?_
            refine sP 8 34 HT_ rfl rfl ?_
            refine sP 9 35 HT_ rfl rfl ?_
            refine sP 10 36 HT_ rfl rfl ?_
            refine sP 12 38 HT_ rfl rfl ?_
            refine sP 16 42 HT_ rfl rfl ?_
            refine sT 11 37 HT_ HW_ rfl rfl hHeld ?_
            refine sP 13 39 HT_ rfl rfl ?_
            refine sP 14 40 HT_ rfl rfl ?_
            refine sT 15 41 HT_ HW_ rfl rfl hHeld ?_
            refine sT 17 43 HT_ HW_ rfl rfl hHeld ?_
            refine sP 18 44 HT_ rfl rfl ?_
            refine sP 19 45 HT_ rfl rfl ?_
            refine sD HT_ ?_
            try go_wp2_with go_step3
            go_roundg k3
            case measure => have := HK1.out; have := HK2.out; have := HK3.out; omega
            case rel => exact ⟨(wrap64 (x7_3 + 1)), tU, H', ⟨by have := HK1.out; have := HK2.out; have := HK3.out; omega⟩, ⟨tR HO_3⟩, ⟨tR HO_20⟩, ⟨tK BK101⟩, ⟨tK BK109⟩, ⟨tB⟩⟩
           rw [if_neg c24] at H
           have c24b0 := decide_eq_false c24
           clear c24
           by_cases c27 : ((rd_T66 (rd_L66 x3_2 x15_1) x7_3).f0) = ((rd_T80 t105 x22_2).f1)
           ·rw [if_pos c27] at H
            have c27b0 := beq_iff_eq.mpr c27
            have c27b1 := bne_eq_false_iff_eq.mpr c27
            clear c27
            have H' := Aside0.mk H
            clear H
            try go_wp2_with go_step3
            replace HO_3 := Aside0.mk (Kd.S_drew HO_3.out)
            replace HO_20 := Aside0.mk (Kd.R_drew HO_20.out)
            replace BK101 := Aside0.mk (blk_drew BK101.out)
            replace BK109 := Aside0.mk (blk_drew BK109.out)
            replace HB := Aside0.mk (below_drew1 HB.out)
            obtain ⟨Ao29, co29, eo29⟩ := Kd.S_slice HO_3.out
            (first | subst eo29 | (injection eo29 with f1_ f2_ f3_; have f4_ := f1_.symm; have f5_ := f3_.symm; clear f1_ f2_ f3_; subst f4_; subst f5_))
            have p110 : 0 ≤ (x15_1 : Int) := tD
            have q110 : x15_1 < (x3_2.length : Int) := tD
            obtain ⟨ad110, A110_0, c110_0, e110, hx110_0, hl110_0, hi110_0⟩ := at_L66 (Kd.S_reads' HO_3.out).2.2 x15_1 p110 q110
            cases e110
            obtain ⟨ce110, hce110, hMe110, hcc110⟩ := Kd.S_get HO_3.out [] x15_1 p110 (by first | exact q110 | exact tD | (have e_ := (Kd.S_reads' HO_3.out).1; omega))
            obtain ⟨ve110_0, rfl, ge110_0⟩ := hMe110
            have hv110_0 := hcc110 0 _ rfl
            rw [Nat.add_zero, show ((Kd.slice 66 k66)).sz = 1 from rfl, Nat.mul_one] at hv110_0
            replace hv110_0 := Option.some.inj (hv110_0.symm.trans hx110_0)
            rw [hv110_0] at ge110_0
            have HL110_0 := Aside0.mk (show Kd.R k66 66 _ _ _ _ (rd_L66 x3_2 x15_1) from ge110_0)
            clear hv110_0 ge110_0
            have HX110_0 := Aside0.mk hx110_0
            clear hcc110 hce110
            have HR110_0 := Aside0.mk hi110_0
            have HC110_0 := Aside0.mk hl110_0
            clear hi110_0 hl110_0
            replace p110 := eq_true p110
            replace q110 := eq_true q110
            have p111 : 0 ≤ (x15_1 : Int) := tD
            have q111 : x15_1 < (x3_2.length : Int) := tD
            obtain ⟨ad111, A111_0, c111_0, e111, hx111_0, hl111_0, hi111_0⟩ := at_L66 (Kd.S_reads' HO_3.out).2.2 x15_1 p111 q111
            obtain rfl : ad110 = ad111 := (by injection e111)
            obtain ⟨ce111, hce111, hMe111, hcc111⟩ := Kd.S_get HO_3.out [] x15_1 p111 (by first | exact q111 | exact tD | (have e_ := (Kd.S_reads' HO_3.out).1; omega))
            obtain ⟨ve111_0, rfl, ge111_0⟩ := hMe111
            have hv111_0 := hcc111 0 _ rfl
            rw [Nat.add_zero, show ((Kd.slice 66 k66)).sz = 1 from rfl, Nat.mul_one] at hv111_0
            replace hv111_0 := Option.some.inj (hv111_0.symm.trans hx111_0)
            rw [hv111_0] at ge111_0
            have HL111_0 := Aside0.mk (show Kd.R k66 66 _ _ _ _ (rd_L66 x3_2 x15_1) from ge111_0)
            clear hv111_0 ge111_0
            have HX111_0 := Aside0.mk hx111_0
            clear hcc111 hce111
            have HR111_0 := Aside0.mk hi111_0
            have HC111_0 := Aside0.mk hl111_0
            clear hi111_0 hl111_0
            replace p111 := eq_true p111
            replace q111 := eq_true q111
            have ea_ := Option.some.inj (hx110_0.symm.trans hx111_0)
            injection ea_ with ea_ en_ ec_
            subst ea_
            subst ec_
            clear en_
            have p112 : 0 ≤ (x7_3 : Int) := tD
            have q112 : x7_3 < ((rd_L66 x3_2 x15_1).length : Int) := tD
            obtain ⟨ad112, e112, hx112_0, hx112_1⟩ := at_T66 (by repeat (first | (with_reducible exact HR111_0.out) | (with_reducible refine Kd.C_alloc ?_ _) | (with_reducible refine Kd.C_drewN ?_ _) | (with_reducible refine Kd.C_drew ?_) | exact HR111_0.out)) x7_3 p112 q112
            cases e112
            replace p112 := eq_true p112
            replace q112 := eq_true q112
            refine sS7 20 [] rfl witness_steps.tab9 witness_steps.bits9 ⟨tz BK109 0, tz BK109 1, tz BK109 2, hx110_0, hx111_0, hx112_0, hx112_1⟩ (fun hHeld HT_ HW_ => ?_)
            generalize wr.drew = w28 at HO_3 HO_20 BK101 BK109 HB HL110_0 HL111_0 HR110_0 HR111_0 HX110_0 HX111_0 hx110_0 hx111_0 hx112_0 hx112_1 hHeld ⊢
            refine sP 0 26 HT_ rfl rfl ?_
            refine sP 1 27 HT_ rfl rfl ?_
            refine sP 2 28 HT_ rfl rfl ?_
            refine sP 3 29 HT_ rfl rfl ?_
            refine sT 4 30 HT_ HW_ rfl rfl hHeld ?_
            refine sP 5 31 HT_ rfl rfl ?_
            refine sP 6 32 HT_ rfl rfl ?_
            refine sP 7 33 HT_ rfl rfl ?_
            refine sP 8 34 HT_ rfl rfl ?_
            refine sP 9 35 HT_ rfl rfl ?_
            refine sP 10 36 HT_ rfl rfl ?_
            refine sP 12 38 HT_ rfl rfl ?_
            refine sP 16 42 HT_ rfl rfl ?_
            refine sT 11 37 HT_ HW_ rfl rfl hHeld ?_
            refine sP 13 39 HT_ rfl rfl ?_
            refine sP 14 40 HT_ rfl rfl ?_
            refine sT 15 41 HT_ HW_ rfl rfl hHeld ?_
            refine sT 17 43 HT_ HW_ rfl rfl hHeld ?_
            refine sP 18 44 HT_ rfl rfl ?_
            refine sP 19 45 HT_ rfl rfl ?_
            refine sD HT_ ?_
            try go_wp2_with go_step3
            replace HO_3 := Aside0.mk (Kd.S_drew HO_3.out)
            replace HO_20 := Aside0.mk (Kd.R_drew HO_20.out)
            replace HL110_0 := Aside0.mk (Kd.R_drew HL110_0.out)
            replace HL111_0 := Aside0.mk (Kd.R_drew HL111_0.out)
            replace BK101 := Aside0.mk (blk_drew BK101.out)
            replace BK109 := Aside0.mk (blk_drew BK109.out)
            replace HR110_0 := Aside0.mk (Kd.C_drew HR110_0.out)
            replace HR111_0 := Aside0.mk (Kd.C_drew HR111_0.out)
            replace HB := Aside0.mk (below_drew1 HB.out)
            have p113 : 0 ≤ (x15_1 : Int) := tD
            have q113 : x15_1 < (x3_2.length : Int) := tD
            obtain ⟨ad113, A113_0, c113_0, e113, hx113_0, hl113_0, hi113_0⟩ := at_L66 (Kd.S_reads' HO_3.out).2.2 x15_1 p113 q113
            obtain rfl : ad110 = ad113 := (by injection e113)
            obtain ⟨ce113, hce113, hMe113, hcc113⟩ := Kd.S_get HO_3.out [] x15_1 p113 (by first | exact q113 | exact tD | (have e_ := (Kd.S_reads' HO_3.out).1; omega))
            obtain ⟨ve113_0, rfl, ge113_0⟩ := hMe113
            have hv113_0 := hcc113 0 _ rfl
            rw [Nat.add_zero, show ((Kd.slice 66 k66)).sz = 1 from rfl, Nat.mul_one] at hv113_0
            replace hv113_0 := Option.some.inj (hv113_0.symm.trans hx113_0)
            rw [hv113_0] at ge113_0
            have HL113_0 := Aside0.mk (show Kd.R k66 66 _ _ _ _ (rd_L66 x3_2 x15_1) from ge113_0)
            clear hv113_0 ge113_0
            have HX113_0 := Aside0.mk hx113_0
            clear hcc113 hce113
            have HR113_0 := Aside0.mk hi113_0
            have HC113_0 := Aside0.mk hl113_0
            clear hi113_0 hl113_0
            replace p113 := eq_true p113
            replace q113 := eq_true q113
            have p114 : 0 ≤ (x15_1 : Int) := tD
            have q114 : x15_1 < (x3_2.length : Int) := tD
            obtain ⟨ad114, A114_0, c114_0, e114, hx114_0, hl114_0, hi114_0⟩ := at_L66 (Kd.S_reads' HO_3.out).2.2 x15_1 p114 q114
            obtain rfl : ad110 = ad114 := (by injection e114)
            obtain ⟨ce114, hce114, hMe114, hcc114⟩ := Kd.S_get HO_3.out [] x15_1 p114 (by first | exact q114 | exact tD | (have e_ := (Kd.S_reads' HO_3.out).1; omega))
            obtain ⟨ve114_0, rfl, ge114_0⟩ := hMe114
            have hv114_0 := hcc114 0 _ rfl
            rw [Nat.add_zero, show ((Kd.slice 66 k66)).sz = 1 from rfl, Nat.mul_one] at hv114_0
            replace hv114_0 := Option.some.inj (hv114_0.symm.trans hx114_0)
            rw [hv114_0] at ge114_0
            have HL114_0 := Aside0.mk (show Kd.R k66 66 _ _ _ _ (rd_L66 x3_2 x15_1) from ge114_0)
            clear hv114_0 ge114_0
            have HX114_0 := Aside0.mk hx114_0
            clear hcc114 hce114
            have HR114_0 := Aside0.mk hi114_0
            have HC114_0 := Aside0.mk hl114_0
            clear hi114_0 hl114_0
            replace p114 := eq_true p114
            replace q114 := eq_true q114
            have ea_ := Option.some.inj (hx113_0.symm.trans hx114_0)
            injection ea_ with ea_ en_ ec_
            subst ea_
            subst ec_
            clear en_
            have p115 : 0 ≤ (x7_3 : Int) := tD
            have q115 : x7_3 < ((rd_L66 x3_2 x15_1).length : Int) := tD
            obtain ⟨ad115, e115, hx115_0, hx115_1⟩ := at_T66 (by repeat (first | (with_reducible exact HR114_0.out) | (with_reducible refine Kd.C_alloc ?_ _) | (with_reducible refine Kd.C_drewN ?_ _) | (with_reducible refine Kd.C_drew ?_) | exact HR114_0.out)) x7_3 p115 q115
            cases e115
            replace p115 := eq_true p115
            replace q115 := eq_true q115
            refine sS7 20 [] rfl witness_steps.tab11 witness_steps.bits11 ⟨tz BK109 0, tz BK109 1, tz BK109 2, hx113_0, hx114_0, hx115_0, hx115_1⟩ (fun hHeld HT_ HW_ => ?_)
            generalize w28.drew = w30 at HO_3 HO_20 HL110_0 HL111_0 BK101 BK109 HR110_0 HR111_0 HB HL113_0 HL114_0 HR113_0 HR114_0 HX113_0 HX114_0 hx113_0 hx114_0 hx115_0 hx115_1 hHeld ⊢
            refine sP 0 48 HT_ rfl rfl ?_
            refine sP 1 49 HT_ rfl rfl ?_
            refine sP 2 50 HT_ rfl rfl ?_
            refine sP 3 51 HT_ rfl rfl ?_
            refine sT 4 52 HT_ HW_ rfl rfl hHeld ?_
            refine sP 5 53 HT_ rfl rfl ?_
            refine sP 6 54 HT_ rfl rfl ?_
            refine sP 7 55 HT_ rfl rfl ?_
            refine sP 8 56 HT_ rfl rfl ?_
            refine sP 9 57 HT_ rfl rfl ?_
            refine sP 10 58 HT_ rfl rfl ?_
            refine sP 12 60 HT_ rfl rfl ?_
            refine sP 16 64 HT_ rfl rfl ?_
            refine sT 11 59 HT_ HW_ rfl rfl hHeld ?_
            refine sP 13 61 HT_ rfl rfl ?_
            refine sP 14 62 HT_ rfl rfl ?_
            refine sT 15 63 HT_ HW_ rfl rfl hHeld ?_
            refine sT 17 65 HT_ HW_ rfl rfl hHeld ?_
            refine sP 18 66 HT_ rfl rfl ?_
            refine sP 19 67 HT_ rfl rfl ?_
            refine sD HT_ ?_
            try go_wp2_with go_step3
            go_roundg k3
            case measure => have := HK1.out; have := HK2.out; have := HK3.out; omega
            case rel => exact ⟨(x3_2), (wrap64 (x22_2 + 1)), tU, H', ⟨by have := HK1.out; have := HK2.out; have := HK3.out; omega⟩, ⟨tR HO_3⟩, ⟨by (with_reducible repeat (first | apply Kd.R_alloc | apply Kd.R_drewN | apply Kd.R_drew)); exact Kd.R_mono HO_20.out (fun _ hk => trivial)⟩, ⟨tK BK101⟩, ⟨tB⟩⟩
           rw [if_neg c27] at H
           have c27b0 := beq_eq_false_iff_ne.mpr c27
           have c27b1 := bne_iff_ne.mpr c27
           replace H := tF H
           obtain ⟨c31, H⟩ := H
           have LMc31 := Aside0.mk c31
           clear c31
           obtain ⟨y117, hy117⟩ : ∃ y_ : List (S66), y_ = ((rd_L66 x3_2 x15_1) ++ [(⟨0, 0⟩ : S66)]) := ⟨_, rfl⟩
           replace H : ((some (x3_2.set (x15_1 : Int).toNat y117 : List (List (S66)))).bind fun y120 => (if x7_3 < ((rd_L66 y120 x15_1).length : Int) then ((some (shiftAt_ y120 (x15_1 : Int) (x7_3 : Int) : List (List (S66)))).bind fun y121 => (if x7_3 < ((rd_L66 y121 x15_1).length : Int) then (witness_steps.l1 k3 (y121.set (x15_1 : Int).toNat ((rd_L66 y121 x15_1).set (x7_3 : Int).toNat (⟨((rd_T80 t105 x22_2).f1), ((rd_T80 t105 x22_2).f2)⟩ : S66))) x15_1 (l0_0.length : Int) x15_1 t105 (t105.length : Int) (wrap64 (x22_2 + 1)) l0_0 l0_1 a0_2) else (none))) else (none))) = some r := tQ hy117 H
           have Ny117 := Aside0.mk hy117
           clear hy117
           obtain ⟨y120, hy120⟩ : ∃ y_ : List (List (S66)), y_ = (x3_2.set (x15_1 : Int).toNat y117) := ⟨_, rfl⟩
           replace H : (if x7_3 < ((rd_L66 y120 x15_1).length : Int) then ((some (shiftAt_ y120 (x15_1 : Int) (x7_3 : Int) : List (List (S66)))).bind fun y121 => (if x7_3 < ((rd_L66 y121 x15_1).length : Int) then (witness_steps.l1 k3 (y121.set (x15_1 : Int).toNat ((rd_L66 y121 x15_1).set (x7_3 : Int).toNat (⟨((rd_T80 t105 x22_2).f1), ((rd_T80 t105 x22_2).f2)⟩ : S66))) x15_1 (l0_0.length : Int) x15_1 t105 (t105.length : Int) (wrap64 (x22_2 + 1)) l0_0 l0_1 a0_2) else (none))) else (none)) = some r := tQ hy120 H
           have Ny120 := Aside0.mk hy120
           clear hy120
           replace H := tF H
           obtain ⟨c33, H⟩ := H
           have c33b0 := decide_eq_true c33
           clear c33
           obtain ⟨y121, hy121⟩ : ∃ y_ : List (List (S66)), y_ = (shiftAt_ y120 (x15_1 : Int) (x7_3 : Int)) := ⟨_, rfl⟩
           replace H : (if x7_3 < ((rd_L66 y121 x15_1).length : Int) then (witness_steps.l1 k3 (y121.set (x15_1 : Int).toNat ((rd_L66 y121 x15_1).set (x7_3 : Int).toNat (⟨((rd_T80 t105 x22_2).f1), ((rd_T80 t105 x22_2).f2)⟩ : S66))) x15_1 (l0_0.length : Int) x15_1 t105 (t105.length : Int) (wrap64 (x22_2 + 1)) l0_0 l0_1 a0_2) else (none)) = some r := tQ hy121 H
           have Ny121 := Aside0.mk hy121
           clear hy121
           replace H := tF H
           obtain ⟨c34, H⟩ := H
           have c34b0 := decide_eq_true c34
           clear c34
           obtain ⟨y123, hy123⟩ : ∃ y_ : List (S66), y_ = ((rd_L66 y121 x15_1).set (x7_3 : Int).toNat (⟨((rd_T80 t105 x22_2).f1), ((rd_T80 t105 x22_2).f2)⟩ : S66)) := ⟨_, rfl⟩
           replace H : (witness_steps.l1 k3 (y121.set (x15_1 : Int).toNat y123) x15_1 (l0_0.length : Int) x15_1 t105 (t105.length : Int) (wrap64 (x22_2 + 1)) l0_0 l0_1 a0_2) = some r := tQ hy123 H
           have Ny123 := Aside0.mk hy123
           clear hy123
           obtain ⟨y125, hy125⟩ : ∃ y_ : List (List (S66)), y_ = (y121.set (x15_1 : Int).toNat y123) := ⟨_, rfl⟩
           replace H : (witness_steps.l1 k3 y125 x15_1 (l0_0.length : Int) x15_1 t105 (t105.length : Int) (wrap64 (x22_2 + 1)) l0_0 l0_1 a0_2) = some r := tQ hy125 H
           have Ny125 := Aside0.mk hy125
           clear hy125
           have H' := Aside0.mk H
           clear H
           try go_wp2_with go_step3
           replace HO_3 := Aside0.mk (Kd.S_drew HO_3.out)
           replace HO_20 := Aside0.mk (Kd.R_drew HO_20.out)
           replace BK101 := Aside0.mk (blk_drew BK101.out)
           replace BK109 := Aside0.mk (blk_drew BK109.out)
           replace HB := Aside0.mk (below_drew1 HB.out)
           obtain ⟨Ao37, co37, eo37⟩ := Kd.S_slice HO_3.out
           (first | subst eo37 | (injection eo37 with f1_ f2_ f3_; have f4_ := f1_.symm; have f5_ := f3_.symm; clear f1_ f2_ f3_; subst f4_; subst f5_))
           have p110 : 0 ≤ (x15_1 : Int) := tD
           have q110 : x15_1 < (x3_2.length : Int) := tD
           obtain ⟨ad110, A110_0, c110_0, e110, hx110_0, hl110_0, hi110_0⟩ := at_L66 (Kd.S_reads' HO_3.out).2.2 x15_1 p110 q110
           cases e110
           obtain ⟨ce110, hce110, hMe110, hcc110⟩ := Kd.S_get HO_3.out [] x15_1 p110 (by first | exact q110 | exact tD | (have e_ := (Kd.S_reads' HO_3.out).1; omega))
           obtain ⟨ve110_0, rfl, ge110_0⟩ := hMe110
           have hv110_0 := hcc110 0 _ rfl
           rw [Nat.add_zero, show ((Kd.slice 66 k66)).sz = 1 from rfl, Nat.mul_one] at hv110_0
           replace hv110_0 := Option.some.inj (hv110_0.symm.trans hx110_0)
           rw [hv110_0] at ge110_0
           have HL110_0 := Aside0.mk (show Kd.R k66 66 _ _ _ _ (rd_L66 x3_2 x15_1) from ge110_0)
           clear hv110_0 ge110_0
           have HX110_0 := Aside0.mk hx110_0
           clear hcc110 hce110
           have HR110_0 := Aside0.mk hi110_0
           have HC110_0 := Aside0.mk hl110_0
           clear hi110_0 hl110_0
           replace p110 := eq_true p110
           replace q110 := eq_true q110
           have p111 : 0 ≤ (x15_1 : Int) := tD
           have q111 : x15_1 < (x3_2.length : Int) := tD
           obtain ⟨ad111, A111_0, c111_0, e111, hx111_0, hl111_0, hi111_0⟩ := at_L66 (Kd.S_reads' HO_3.out).2.2 x15_1 p111 q111
           obtain rfl : ad110 = ad111 := (by injection e111)
           obtain ⟨ce111, hce111, hMe111, hcc111⟩ := Kd.S_get HO_3.out [] x15_1 p111 (by first | exact q111 | exact tD | (have e_ := (Kd.S_reads' HO_3.out).1; omega))
           obtain ⟨ve111_0, rfl, ge111_0⟩ := hMe111
           have hv111_0 := hcc111 0 _ rfl
           rw [Nat.add_zero, show ((Kd.slice 66 k66)).sz = 1 from rfl, Nat.mul_one] at hv111_0
           replace hv111_0 := Option.some.inj (hv111_0.symm.trans hx111_0)
           rw [hv111_0] at ge111_0
           have HL111_0 := Aside0.mk (show Kd.R k66 66 _ _ _ _ (rd_L66 x3_2 x15_1) from ge111_0)
           clear hv111_0 ge111_0
           have HX111_0 := Aside0.mk hx111_0
           clear hcc111 hce111
           have HR111_0 := Aside0.mk hi111_0
           have HC111_0 := Aside0.mk hl111_0
           clear hi111_0 hl111_0
           replace p111 := eq_true p111
           replace q111 := eq_true q111
           have ea_ := Option.some.inj (hx110_0.symm.trans hx111_0)
           injection ea_ with ea_ en_ ec_
           subst ea_
           subst ec_
           clear en_
           have p112 : 0 ≤ (x7_3 : Int) := tD
           have q112 : x7_3 < ((rd_L66 x3_2 x15_1).length : Int) := tD
           obtain ⟨ad112, e112, hx112_0, hx112_1⟩ := at_T66 (by repeat (first | (with_reducible exact HR111_0.out) | (with_reducible refine Kd.C_alloc ?_ _) | (with_reducible refine Kd.C_drewN ?_ _) | (with_reducible refine Kd.C_drew ?_) | exact HR111_0.out)) x7_3 p112 q112
           cases e112
           replace p112 := eq_true p112
           replace q112 := eq_true q112
           refine sS7 20 [] rfl witness_steps.tab9 witness_steps.bits9 ⟨tz BK109 0, tz BK109 1, tz BK109 2, hx110_0, hx111_0, hx112_0, hx112_1⟩ (fun hHeld HT_ HW_ => ?_)
           generalize wr.drew = w36 at HO_3 HO_20 BK101 BK109 HB HL110_0 HL111_0 HR110_0 HR111_0 HX110_0 HX111_0 hx110_0 hx111_0 hx112_0 hx112_1 hHeld ⊢
           refine sP 0 26 HT_ rfl rfl ?_
           refine sP 1 27 HT_ rfl rfl ?_
           refine sP 2 28 HT_ rfl rfl ?_
           refine sP 3 29 HT_ rfl rfl ?_
           refine sT 4 30 HT_ HW_ rfl rfl hHeld ?_
           refine sP 5 31 HT_ rfl rfl ?_
           refine sP 6 32 HT_ rfl rfl ?_
           refine sP 7 33 HT_ rfl rfl ?_
           refine sP 8 34 HT_ rfl rfl ?_
           refine sP 9 35 HT_ rfl rfl ?_
           refine sP 10 36 HT_ rfl rfl ?_
           refine sP 12 38 HT_ rfl rfl ?_
           refine sP 16 42 HT_ rfl rfl ?_
           refine sT 11 37 HT_ HW_ rfl rfl hHeld ?_
           refine sP 13 39 HT_ rfl rfl ?_
           refine sP 14 40 HT_ rfl rfl ?_
           refine sT 15 41 HT_ HW_ rfl rfl hHeld ?_
           refine sT 17 43 HT_ HW_ rfl rfl hHeld ?_
           refine sP 18 44 HT_ rfl rfl ?_
           refine sP 19 45 HT_ rfl rfl ?_
           refine sD HT_ ?_
           try go_wp2_with go_step3
           replace HO_3 := Aside0.mk (Kd.S_drew HO_3.out)
           replace HO_20 := Aside0.mk (Kd.R_drew HO_20.out)
           replace HL110_0 := Aside0.mk (Kd.R_drew HL110_0.out)
           replace HL111_0 := Aside0.mk (Kd.R_drew HL111_0.out)
           replace BK101 := Aside0.mk (blk_drew BK101.out)
           replace BK109 := Aside0.mk (blk_drew BK109.out)
           replace HR110_0 := Aside0.mk (Kd.C_drew HR110_0.out)
           replace HR111_0 := Aside0.mk (Kd.C_drew HR111_0.out)
           replace HB := Aside0.mk (below_drew1 HB.out)
           have p113 : 0 ≤ (x15_1 : Int) := tD
           have q113 : x15_1 < (x3_2.length : Int) := tD
           obtain ⟨ad113, A113_0, c113_0, e113, hx113_0, hl113_0, hi113_0⟩ := at_L66 (Kd.S_reads' HO_3.out).2.2 x15_1 p113 q113
           obtain rfl : ad110 = ad113 := (by injection e113)
           obtain ⟨ce113, hce113, hMe113, hcc113⟩ := Kd.S_get HO_3.out [] x15_1 p113 (by first | exact q113 | exact tD | (have e_ := (Kd.S_reads' HO_3.out).1; omega))
           obtain ⟨ve113_0, rfl, ge113_0⟩ := hMe113
           have hv113_0 := hcc113 0 _ rfl
           rw [Nat.add_zero, show ((Kd.slice 66 k66)).sz = 1 from rfl, Nat.mul_one] at hv113_0
           replace hv113_0 := Option.some.inj (hv113_0.symm.trans hx113_0)
           rw [hv113_0] at ge113_0
           have HL113_0 := Aside0.mk (show Kd.R k66 66 _ _ _ _ (rd_L66 x3_2 x15_1) from ge113_0)
           clear hv113_0 ge113_0
           have HX113_0 := Aside0.mk hx113_0
           clear hcc113 hce113
           have HR113_0 := Aside0.mk hi113_0
           have HC113_0 := Aside0.mk hl113_0
           clear hi113_0 hl113_0
           replace p113 := eq_true p113
           replace q113 := eq_true q113
           have p114 : 0 ≤ (x15_1 : Int) := tD
           have q114 : x15_1 < (x3_2.length : Int) := tD
           obtain ⟨ad114, A114_0, c114_0, e114, hx114_0, hl114_0, hi114_0⟩ := at_L66 (Kd.S_reads' HO_3.out).2.2 x15_1 p114 q114
           obtain rfl : ad110 = ad114 := (by injection e114)
           obtain ⟨ce114, hce114, hMe114, hcc114⟩ := Kd.S_get HO_3.out [] x15_1 p114 (by first | exact q114 | exact tD | (have e_ := (Kd.S_reads' HO_3.out).1; omega))
           obtain ⟨ve114_0, rfl, ge114_0⟩ := hMe114
           have hv114_0 := hcc114 0 _ rfl
           rw [Nat.add_zero, show ((Kd.slice 66 k66)).sz = 1 from rfl, Nat.mul_one] at hv114_0
           replace hv114_0 := Option.some.inj (hv114_0.symm.trans hx114_0)
           rw [hv114_0] at ge114_0
           have HL114_0 := Aside0.mk (show Kd.R k66 66 _ _ _ _ (rd_L66 x3_2 x15_1) from ge114_0)
           clear hv114_0 ge114_0
           have HX114_0 := Aside0.mk hx114_0
           clear hcc114 hce114
           have HR114_0 := Aside0.mk hi114_0
           have HC114_0 := Aside0.mk hl114_0
           clear hi114_0 hl114_0
           replace p114 := eq_true p114
           replace q114 := eq_true q114
           have ea_ := Option.some.inj (hx113_0.symm.trans hx114_0)
           injection ea_ with ea_ en_ ec_
           subst ea_
           subst ec_
           clear en_
           have p115 : 0 ≤ (x7_3 : Int) := tD
           have q115 : x7_3 < ((rd_L66 x3_2 x15_1).length : Int) := tD
           obtain ⟨ad115, e115, hx115_0, hx115_1⟩ := at_T66 (by repeat (first | (with_reducible exact HR114_0.out) | (with_reducible refine Kd.C_alloc ?_ _) | (with_reducible refine Kd.C_drewN ?_ _) | (with_reducible refine Kd.C_drew ?_) | exact HR114_0.out)) x7_3 p115 q115
           cases e115
           replace p115 := eq_true p115
           replace q115 := eq_true q115
           refine sS7 20 [] rfl witness_steps.tab11 witness_steps.bits11 ⟨tz BK109 0, tz BK109 1, tz BK109 2, hx113_0, hx114_0, hx115_0, hx115_1⟩ (fun hHeld HT_ HW_ => ?_)
           generalize w36.drew = w38 at HO_3 HO_20 HL110_0 HL111_0 BK101 BK109 HR110_0 HR111_0 HB HL113_0 HL114_0 HR113_0 HR114_0 HX113_0 HX114_0 hx113_0 hx114_0 hx115_0 hx115_1 hHeld ⊢
           refine sP 0 48 HT_ rfl rfl ?_
           refine sP 1 49 HT_ rfl rfl ?_
           refine sP 2 50 HT_ rfl rfl ?_
           refine sP 3 51 HT_ rfl rfl ?_
           refine sT 4 52 HT_ HW_ rfl rfl hHeld ?_
           refine sP 5 53 HT_ rfl rfl ?_
           refine sP 6 54 HT_ rfl rfl ?_
           refine sP 7 55 HT_ rfl rfl ?_
           refine sP 8 56 HT_ rfl rfl ?_
           refine sP 9 57 HT_ rfl rfl ?_
           refine sP 10 58 HT_ rfl rfl ?_
           refine sP 12 60 HT_ rfl rfl ?_
           refine sP 16 64 HT_ rfl rfl ?_
           refine sT 11 59 HT_ HW_ rfl rfl hHeld ?_
           refine sP 13 61 HT_ rfl rfl ?_
           refine sP 14 62 HT_ rfl rfl ?_
           refine sT 15 63 HT_ HW_ rfl rfl hHeld ?_
           refine sT 17 65 HT_ HW_ rfl rfl hHeld ?_
           refine sP 18 66 HT_ rfl rfl ?_
           refine sP 19 67 HT_ rfl rfl ?_
           refine sD HT_ ?_
           have p116 : 0 ≤ (x15_1 : Int) := tD
           have q116 : x15_1 < (x3_2.length : Int) := tD
           obtain ⟨ad116, A116_0, c116_0, e116, hx116_0, hl116_0, hi116_0⟩ := at_L66 (Kd.S_reads' HO_3.out).2.2 x15_1 p116 q116
           obtain rfl : ad110 = ad116 := (by injection e116)
           obtain ⟨ce116, hce116, hMe116, hcc116⟩ := Kd.S_get HO_3.out [] x15_1 p116 (by first | exact q116 | exact tD | (have e_ := (Kd.S_reads' HO_3.out).1; omega))
           obtain ⟨ve116_0, rfl, ge116_0⟩ := hMe116
           have hv116_0 := hcc116 0 _ rfl
           rw [Nat.add_zero, show ((Kd.slice 66 k66)).sz = 1 from rfl, Nat.mul_one] at hv116_0
           replace hv116_0 := Option.some.inj (hv116_0.symm.trans hx116_0)
           rw [hv116_0] at ge116_0
           have HL116_0 := Aside0.mk (show Kd.R k66 66 _ _ _ _ (rd_L66 x3_2 x15_1) from ge116_0)
           clear hv116_0 ge116_0
           have HX116_0 := Aside0.mk hx116_0
           clear hcc116 hce116
           have HR116_0 := Aside0.mk hi116_0
           have HC116_0 := Aside0.mk hl116_0
           clear hi116_0 hl116_0
           replace p116 := eq_true p116
           replace q116 := eq_true q116
           have ea_ := Option.some.inj (hx113_0.symm.trans hx116_0)
           injection ea_ with ea_ en_ ec_
           subst ea_
           subst ec_
           clear en_
           obtain ⟨go39, co39, eo39, gb39, gl39, cl39, HG39⟩ := Kd.S_form HO_3.out (by have h_ : (x15_1 : Int) < ((x3_2.length : Int) : Int) := tD; have h2_ : 0 ≤ (x15_1 : Int) := (tD); omega)
           (first | cases eo39 | (injection eo39 with ea_ en_ ec_; (first | subst ea_ | (injection ea_ with ea_; subst ea_)); subst ec_; clear en_))
           have GB39 := Aside0.mk gb39
           have GG39 := Aside0.mk HG39
           clear gb39 gl39 HG39
           (first | simp only [add_plain] at hx110_0 | skip)
           (first | simp only [add_plain] at hx111_0 | skip)
           (first | simp only [add_plain] at hx113_0 | skip)
           (first | simp only [add_plain] at hx114_0 | skip)
           (first | simp only [add_plain] at hx116_0 | skip)
           obtain ⟨oki39, ce39, hcl39, hM39, hcc39, _, _, hH39⟩ := Kd.S_elem HO_3.out [] (x15_1 : Int) (tD) (by have h_ : (x15_1 : Int) < ((x3_2.length : Int) : Int) := tD; first | exact h_ | (have e_ := (Kd.S_reads' HO_3.out).1; omega) | simpa using h_)
           obtain ⟨ve39_0, rfl, ge39_0⟩ := hM39
           have hv39 := hcc39 0 _ rfl
           have hX39 := HX116_0.out
           (try simp only [add_plain] at hX39)
           (try simp only [Nat.add_zero] at hv39)
           (try rw [show ((Kd.slice 66 k66)).sz = 1 from rfl, Nat.mul_one] at hv39)
           replace hv39 := Option.some.inj (hv39.symm.trans hX39)
           subst hv39
           clear hX39 hcc39 hcl39
           have UU39 := Aside0.mk (show Kd.R k66 66 _ w.heap.size oki39 (.slice (some ad115) (rd_L66 x3_2 x15_1).length c113_0) (rd_L66 x3_2 x15_1) from ge39_0)
           have HH39 := Aside0.mk hH39
           have HN39 := Aside0.mk (Kd.S_reads' HO_3.out).1
           clear hH39 ge39_0
           try go_wp2_with (first | go_step3 | ((with_reducible refine gate_builtin (b := .append) (xs := #[.tmp 73, .tmp 75]) rfl ?_); at_builtin; refine Kd.R_append k66 (w0 := w) w.heap.size rfl (.tmp 73) (.tmp 75) 59 66 (.agg #[(.int .i64 0), (.int .i64 0)]) 16 rfl Try.underlying59 info66 rfl (by decide) (by omega) (.slice (some ad115) (rd_L66 x3_2 x15_1).length c113_0) (rd_L66 x3_2 x15_1) (⟨0, 0⟩ : S66) [.int .i64 0, .int .i64 0] (fun k_ => oki39 k_ ∨ ((fun _ => True)) k_ ∧ w38.heap.size ≤ k_) (fun _ => False) rfl rfl ?aP (fun _ hk => hk.elim) ?aF ?aO ?aB ?aS ?aL ?_; (case aP => exact k66_mkM _ _ _ (⟨0, 0⟩ : S66)); (case aB => exact (tB)); (case aF => exact (fun k_ hk => .inr ⟨trivial, hk⟩)); (case aO => exact (by (with_reducible repeat (first | apply Kd.R_alloc | apply Kd.R_drewN | apply Kd.R_drew)); exact Kd.R_mono UU39.out (fun _ hk => .inl hk))); (case aS => exact (below_size (tB))); (case aL => have := LMc31.out; omega); intro v118 w40 ho hb hg hat; rw [← Ny117.out] at ho; replace HO_20 := Aside0.mk (Kd.R_over' (v := (.slice (some ad115) (rd_L66 x3_2 x15_1).length c113_0)) (tR HO_20) (Kd.R_typed HL116_0.out) (by decide) hg); replace BK101 := Aside0.mk (blk_grown (g := gb101) (o := .cells #[.slice A0_0 l0_0.length c0_0, .slice A0_1 l0_1.length c0_1, .bool a0_2] 25 (0, 0)) (tK BK101) hg (Kd.R_ne HL116_0.out BK101.out (by decide))); replace BK109 := Aside0.mk (blk_grown (g := gb109) (o := .cells #[.int .i64 ((rd_T80 t105 x22_2).f0), .int .i64 ((rd_T80 t105 x22_2).f1), .int .i64 ((rd_T80 t105 x22_2).f2)] 80 (0, 0)) (tK BK109) hg (Kd.R_ne HL116_0.out BK109.out (by decide))); replace HB := Aside0.mk (hb); replace HH39 := Aside0.mk (Kd.H_grown (Kd.H_widen (by repeat (first | exact HH39.out | refine Kd.H_alloc ?_ _ | refine Kd.H_drewN ?_ _ | refine Kd.H_drew ?_))) hg (fun k_ e_ => .inl (UU39.out.1 k_ e_))); have HO119 := Aside0.mk (ho); clear HL110_0 HL111_0 HL113_0 HL114_0 HL116_0 HO_3 UU39; clear ho hb hg hat; have p32 : 0 ≤ (x15_1 : Int) := tD; have q32 : (x15_1 : Int) < ((x3_2.length : Int) : Int) := tD; replace p32 := eq_true p32; replace q32 := eq_true q32; obtain ⟨Ao43, co43, eo43⟩ := Kd.R_slice HO119.out; subst eo43; obtain ⟨_, _, hraw41, _, _, hcc41, _⟩ := Kd.H_raw HH39.out (tD) (by have h_ : (x15_1 : Int) < ((x3_2.length : Int) : Int) := tD; first | exact h_ | (have e_ := (HN39.out); omega) | simpa using h_); obtain ⟨_, hfr41⟩ := Kd.H_at HH39.out (tD) (by have h_ : (x15_1 : Int) < ((x3_2.length : Int) : Int) := tD; first | exact h_ | (have e_ := (HN39.out); omega) | simpa using h_); have hx41_0 := hcc41 0 _ rfl; have hf41_0 := hfr41 0; (try simp only [Nat.add_zero] at hx41_0 hf41_0); (try rw [show ((Kd.slice 66 k66)).sz = 1 from rfl, Nat.mul_one] at hx41_0); (try rw [show ((Kd.slice 66 k66)).sz = 1 from rfl, Nat.mul_one] at hf41_0); have HP41 := Kd.S_seg0 HH39.out (tD) (by have h_ : (x15_1 : Int) < ((x3_2.length : Int) : Int) := tD; first | exact h_ | (have e_ := (HN39.out); omega) | simpa using h_) (seg := [.slice Ao43 y117.length co43]) (j := 0) (show 1 ≤ 1 from by decide) (x' := y117) (Kd.M_row HO119.out) (fun _ hk => hk); (try simp only [show ((Kd.slice 66 k66)).sz = 1 from rfl, Nat.mul_one, Nat.add_zero] at HP41); clear hcc41 hfr41) | ((with_reducible refine gate_store (t := 59) (p := 77) rfl ?_); refine store_event (t := 59) (p := 77) (v := ?vo_w42) (w1 := (w40.setCell ⟨go39, (x15_1 : Int).toNat, none⟩ (.slice Ao43 y117.length co43))) ?hg ?ho ?hn ?hr ?_; (case ho => rfl); (case hg => rfl); (case hn => rfl); (case hr => first | (go_simp; done) | (go_simp; rfl)); intro w42 hw; have hg : w40.grownBy w42 (some go39) := (by rw [hw]; exact HP41.2); have hp_ : Kd.S (Kd.slice 66 k66) 59 w42 w.heap.size (fun _ => True) (.slice (some ⟨go39, 0, none⟩) x3_2.length co37) y120 := (by rw [hw, Ny120.out]; exact HP41.1); clear HP41; replace HO_20 := Aside0.mk (Kd.R_over' (v := (.slice (some ⟨go39, 0, none⟩) x3_2.length co37)) (tR HO_20) (Kd.R_typed hraw41) (by decide) hg); replace BK101 := Aside0.mk (blk_grown (g := gb101) (o := .cells #[.slice A0_0 l0_0.length c0_0, .slice A0_1 l0_1.length c0_1, .bool a0_2] 25 (0, 0)) (tK BK101) hg (Kd.R_ne hraw41 BK101.out (by decide))); replace BK109 := Aside0.mk (blk_grown (g := gb109) (o := .cells #[.int .i64 ((rd_T80 t105 x22_2).f0), .int .i64 ((rd_T80 t105 x22_2).f1), .int .i64 ((rd_T80 t105 x22_2).f2)] 80 (0, 0)) (tK BK109) hg (Kd.R_ne hraw41 BK109.out (by decide))); replace HB := Aside0.mk ((by rw [hw]; exact below_set HB.out GB39.out : Below w.heap.size w w42)); have HO_3 := Aside0.mk (hp_); clear HH39 HO119; clear hg hw hp_ hraw41) | ((with_reducible refine gate_reg (id := 13) ?_); refine with_world_ (Pr := fun w_ => Kd.S _ _ w_ _ _ _ _) (tR HO_3) (fun hS44_ => ?_); have hS44 := Kd.S_drew hS44_; obtain ⟨gi44, ci44, hx44, hl44, hg44, hrun44⟩ := shift_pre_ hS44 (s := (x15_1 : Int)) (tD) (by have h_ : (x15_1 : Int) < ((x3_2.length : Int) : Int) := (tD); first | exact h_ | (have e_ := (Kd.S_reads' hS44).1; omega)) (i := (x7_3 : Int)) (tD) (by have h_ : (x7_3 : Int) < ((rd_L66 y120 x15_1).length : Int) := (tD); exact h_); have hpa44 : (0 ≤ (x15_1 : Int)) = True := eq_true (tD); have hpb44 : ((x15_1 : Int) < ((x3_2.length : Int) : Int)) = True := eq_true (tD); have hwr44 : wrap64 ((x7_3 : Int) + 1) = (x7_3 : Int) + 1 := wrap_len_ hl44 (by have h_ : (x7_3 : Int) < ((rd_L66 y120 x15_1).length : Int) := (tD); exact h_) (tD); obtain ⟨Da44, hDa44⟩ : ∃ D_ : Option Addr, D_ = (if ci44 = ((x7_3 : Int) + 1).toNat then some ⟨gi44, 0, none⟩ else some ⟨gi44, ((x7_3 : Int) + 1).toNat * 2, none⟩) := ⟨_, rfl⟩; obtain ⟨Db44, hDb44⟩ : ∃ D_ : Option Addr, D_ = (if ci44 = ((x7_3 : Int)).toNat then some ⟨gi44, 0, none⟩ else some ⟨gi44, ((x7_3 : Int)).toNat * 2, none⟩) := ⟨_, rfl⟩; have hs144 := fun w_ => run_low_ (w := w_) Try.underlying59 info66 gi44 (n := (rd_L66 y120 x15_1).length) (c := ci44) (l := (x7_3 : Int) + 1) Da44 hDa44 (by have h_ : 0 ≤ (x7_3 : Int) := (tD); omega) (by have h_ : (x7_3 : Int) < ((rd_L66 y120 x15_1).length : Int) := (tD); omega); have hs244 := fun w_ => run_low_ (w := w_) Try.underlying59 info66 gi44 (n := (rd_L66 y120 x15_1).length) (c := ci44) (l := (x7_3 : Int)) Db44 hDb44 (tD) (by have h_ : (x7_3 : Int) < ((rd_L66 y120 x15_1).length : Int) := (tD); omega); have HDa44 := Aside0.mk hDa44; have HDb44 := Aside0.mk hDb44; clear hDa44 hDb44; refine start_ (n := 14) (S := fun w' => w'.cell? ⟨go39, ((x15_1 : Int)).toNat, none⟩ = some (.slice (some ⟨gi44, 0, none⟩) (rd_L66 y120 x15_1).length ci44)) (ds := [13]) #[false, false, false, false, false, false, false, false, false, false, false, false, false, false] (by kernel_rfl) rfl rfl hx44 (fun hHeld44 => ?_); refine with_tabW witness_steps.tab13 witness_steps.bits13 (fun HT_ HW_ => ?_); refine pure_ (i := 0) (N := some 78) (v := ?v0_44) (a' := ?a0_44) #[true, false, false, false, false, false, false, false, false, false, false, false, false, false] rfl rfl (any_of HT_.out (by kernel_rfl)) (fun _ _ _ h => h) (Or.inl ⟨by rfl, ?y0_44⟩) ?e0_44 ?h0_44; (case y0_44 => first | (intro w' s0; go_simp; with_reducible rfl) | (intro w'; go_simp; with_reducible rfl)); (case e0_44 => simp only [tS, i64_w, i32_w]; rfl); refine pure_ (i := 1) (N := some 79) (v := ?v1_44) (a' := ?a1_44) #[true, true, false, false, false, false, false, false, false, false, false, false, false, false] rfl rfl (any_of HT_.out (by kernel_rfl)) (fun _ _ _ h => h) (Or.inl ⟨by rfl, ?y1_44⟩) ?e1_44 ?h1_44; (case y1_44 => first | (intro w' s0; go_simp; with_reducible rfl) | (intro w'; go_simp; with_reducible rfl)); (case e1_44 => simp only [tS, i64_w, i32_w]; rfl); refine pure_ (i := 2) (N := some 80) (v := ?v2_44) (a' := ?a2_44) #[true, true, true, false, false, false, false, false, false, false, false, false, false, false] rfl rfl (any_of HT_.out (by kernel_rfl)) (fun _ _ _ h => h) (Or.inl ⟨by rfl, ?y2_44⟩) ?e2_44 ?h2_44; (case y2_44 => first | (intro w' s0; go_simp; with_reducible rfl) | (intro w'; go_simp; with_reducible rfl)); (case e2_44 => simp only [tS, i64_w, i32_w]; rfl); refine take_ (i := 3) (N := some 81) (v := ?v3_44) (a' := ?a3_44) #[true, true, true, true, false, false, false, false, false, false, false, false, false, false] rfl rfl (take_ofW HT_.out HW_.out (by kernel_rfl)) (fun _ _ _ h => h) (Or.inl ⟨by rfl, ?y3_44⟩) hHeld44 ?e3_44 ?h3_44; (case y3_44 => first | (intro w' s0; go_simp; with_reducible rfl) | (intro w'; go_simp; with_reducible rfl)); (case e3_44 => simp only [tS, i64_w, i32_w]; rfl); refine pure_ (i := 4) (N := some 82) (v := ?v4_44) (a' := ?a4_44) #[true, true, true, true, true, false, false, false, false, false, false, false, false, false] rfl rfl (any_of HT_.out (by kernel_rfl)) (fun _ _ _ h => h) (Or.inl ⟨by rfl, ?y4_44⟩) ?e4_44 ?h4_44; (case y4_44 => first | (intro w' s0; go_simp; with_reducible rfl) | (intro w'; go_simp; with_reducible rfl)); (case e4_44 => simp only [tS, i64_w, i32_w]; rfl); refine pure_ (i := 5) (N := some 83) (v := ?v5_44) (a' := ?a5_44) #[true, true, true, true, true, true, false, false, false, false, false, false, false, false] rfl rfl (any_of HT_.out (by kernel_rfl)) (fun _ _ _ h => h) (Or.inl ⟨by rfl, ?y5_44⟩) ?e5_44 ?h5_44; (case y5_44 => first | (intro w' s0; go_simp; with_reducible rfl) | (intro w'; go_simp; with_reducible rfl)); (case e5_44 => simp only [tS, i64_w, i32_w]; rfl); refine pure_ (i := 6) (N := some 84) (v := ?v6_44) (a' := ?a6_44) #[true, true, true, true, true, true, true, false, false, false, false, false, false, false] rfl rfl (any_of HT_.out (by kernel_rfl)) (fun _ _ _ h => h) (Or.inl ⟨by rfl, ?y6_44⟩) ?e6_44 ?h6_44; (case y6_44 => first | (intro w' s0; go_simp; with_reducible rfl) | (intro w'; go_simp; with_reducible rfl)); (case e6_44 => simp only [tS, i64_w, i32_w]; rfl); refine pure_ (i := 7) (N := some 85) (v := ?v7_44) (a' := ?a7_44) #[true, true, true, true, true, true, true, true, false, false, false, false, false, false] rfl rfl (any_of HT_.out (by kernel_rfl)) (fun _ _ _ h => h) (Or.inl ⟨by rfl, ?y7_44⟩) ?e7_44 ?h7_44; (case y7_44 => first | (intro w' s0; go_simp; with_reducible rfl) | (intro w'; go_simp; with_reducible rfl)); (case e7_44 => simp only [tS, i64_w, i32_w]; rfl); refine pure_ (i := 8) (N := some 86) (v := ?v8_44) (a' := ?a8_44) #[true, true, true, true, true, true, true, true, true, false, false, false, false, false] rfl rfl (any_of HT_.out (by kernel_rfl)) (fun _ _ _ h => h) (Or.inl ⟨by rfl, ?y8_44⟩) ?e8_44 ?h8_44; (case y8_44 => first | (intro w' s0; go_simp; with_reducible rfl) | (intro w'; go_simp; with_reducible rfl)); (case e8_44 => simp only [tS, i64_w, i32_w]; rfl); refine pure_ (i := 9) (N := some 87) (v := ?v9_44) (a' := ?a9_44) #[true, true, true, true, true, true, true, true, true, true, false, false, false, false] rfl rfl (any_of HT_.out (by kernel_rfl)) (fun _ _ _ h => h) (Or.inl ⟨by rfl, ?y9_44⟩) ?e9_44 ?h9_44; (case y9_44 => first | (intro w' s0; go_simp; with_reducible rfl) | (intro w'; go_simp; with_reducible rfl)); (case e9_44 => simp only [tS, i64_w, i32_w]; rfl); refine take_ (i := 10) (N := some 88) (v := ?v10_44) (a' := ?a10_44) #[true, true, true, true, true, true, true, true, true, true, true, false, false, false] rfl rfl (take_ofW HT_.out HW_.out (by kernel_rfl)) (fun _ _ _ h => h) (Or.inl ⟨by rfl, ?y10_44⟩) hHeld44 ?e10_44 ?h10_44; (case y10_44 => first | (intro w' s0; go_simp; with_reducible rfl) | (intro w'; go_simp; with_reducible rfl)); (case e10_44 => simp only [tS, i64_w, i32_w]; rfl); refine pure_ (i := 11) (N := some 89) (v := ?v11_44) (a' := ?a11_44) #[true, true, true, true, true, true, true, true, true, true, true, true, false, false] rfl rfl (any_of HT_.out (by kernel_rfl)) (fun _ _ _ h => h) (Or.inl ⟨by rfl, ?y11_44⟩) ?e11_44 ?h11_44; (case y11_44 => first | (intro w' s0; go_simp; with_reducible rfl) | (intro w'; go_simp; with_reducible rfl)); (case e11_44 => simp only [tS, i64_w, i32_w]; rfl); refine pure_ (i := 12) (N := some 90) (v := ?v12_44) (a' := ?a12_44) #[true, true, true, true, true, true, true, true, true, true, true, true, true, false] rfl rfl (any_of HT_.out (by kernel_rfl)) (fun _ _ _ h => h) (Or.inl ⟨by rfl, ?y12_44⟩) ?e12_44 ?h12_44; (case y12_44 => first | (intro w' s0; go_simp; with_reducible rfl) | (intro w'; go_simp; with_reducible rfl)); (case e12_44 => simp only [tS, i64_w, i32_w]; rfl); refine last_ (i := 13) (N := some 91) #[true, true, true, true, true, true, true, true, true, true, true, true, true, true] rfl rfl (one_of HT_.out (by kernel_rfl)) (by decide) (fun K hK => ?_); obtain ⟨w45, hr44, ho, hg⟩ := hrun44 Try.underlying59 info66 (by decide); refine value_ (w1 := w45) (v := goInt (((rd_L66 y120 x15_1).length - ((x7_3 : Int).toNat + 1) : Nat) : Int)) (by rfl) rfl ?rr44_ ?_; (case rr44_ => (refine copy_op_ rfl ?_ ?_ (fun ty => hr44 ty Da44 Db44 HDa44.out HDb44.out); all_goals rfl)); refine hK.out _ _ ?_; clear hK K; refine done_ (done_of HT_.out (by kernel_rfl)) ?_; rw [← Ny121.out] at ho; have hb := below_grown_ (tB) hg hg44; replace HO_20 := Aside0.mk (Kd.R_overg_ (tR HO_20) hg44.1 (by decide) hg); replace BK101 := Aside0.mk (blk_grown (g := gb101) (o := .cells #[.slice A0_0 l0_0.length c0_0, .slice A0_1 l0_1.length c0_1, .bool a0_2] 25 (0, 0)) (tK BK101) hg (fun e__ => blk_ne_ (BK101.out) hg44.1 (by decide) (by injection e__))); replace BK109 := Aside0.mk (blk_grown (g := gb109) (o := .cells #[.int .i64 ((rd_T80 t105 x22_2).f0), .int .i64 ((rd_T80 t105 x22_2).f1), .int .i64 ((rd_T80 t105 x22_2).f2)] 80 (0, 0)) (tK BK109) hg (fun e__ => blk_ne_ (BK109.out) hg44.1 (by decide) (by injection e__))); replace HB := Aside0.mk (hb); replace HO_3 := Aside0.mk (ho); clear ho hb hg))
           replace HO_20 := Aside0.mk (Kd.R_drew HO_20.out)
           replace HO_3 := Aside0.mk (Kd.S_drew HO_3.out)
           replace BK101 := Aside0.mk (blk_drew BK101.out)
           replace BK109 := Aside0.mk (blk_drew BK109.out)
           replace HB := Aside0.mk (below_drew1 HB.out)
           have p122 : 0 ≤ (x15_1 : Int) := tD
           have q122 : x15_1 < (y121.length : Int) := (by have h_ : (x15_1 : Int) < ((x3_2.length : Int) : Int) := tD; first | (have e_ := (Kd.S_reads' HO_3.out).1; omega) | simpa only [Ny120.out, Ny121.out, List.length_set] using h_)
           have ql122 : ((x15_1 : Int) < ((x3_2.length : Int) : Int)) = True := eq_true (tD)
           obtain ⟨ad122, A122_0, c122_0, e122, hx122_0, hl122_0, hi122_0⟩ := at_L66 (Kd.S_reads' HO_3.out).2.2 x15_1 p122 q122
           obtain rfl : (⟨go39, 0, none⟩ : Addr) = ad122 := (by injection e122)
           obtain ⟨ce122, hce122, hMe122, hcc122⟩ := Kd.S_get HO_3.out [] x15_1 p122 (by first | exact q122 | exact tD | (have e_ := (Kd.S_reads' HO_3.out).1; omega))
           obtain ⟨ve122_0, rfl, ge122_0⟩ := hMe122
           have hv122_0 := hcc122 0 _ rfl
           rw [Nat.add_zero, show ((Kd.slice 66 k66)).sz = 1 from rfl, Nat.mul_one] at hv122_0
           replace hv122_0 := Option.some.inj (hv122_0.symm.trans hx122_0)
           rw [hv122_0] at ge122_0
           have HL122_0 := Aside0.mk (show Kd.R k66 66 _ _ _ _ (rd_L66 y121 x15_1) from ge122_0)
           clear hv122_0 ge122_0
           have HX122_0 := Aside0.mk hx122_0
           clear hcc122 hce122
           (first | simp only [add_plain] at hx122_0 | simp only [add_at] at hx122_0 | simp only [Addr.add, Nat.zero_add] at hx122_0 | skip)
           have HR122_0 := Aside0.mk hi122_0
           have HC122_0 := Aside0.mk hl122_0
           clear hi122_0 hl122_0
           replace p122 := eq_true p122
           replace q122 := eq_true q122
           have p35 : 0 ≤ (x7_3 : Int) := tD
           have q35 : (x7_3 : Int) < (((rd_L66 y121 x15_1).length : Int) : Int) := tD
           obtain ⟨go35, co35, eo35, gb35, gl35, cl35, HG35⟩ := Kd.R_form HL122_0.out (by omega)
           (first | cases eo35 | (injection eo35 with ea_ en_ ec_; (first | subst ea_ | (injection ea_ with ea_; subst ea_)); subst ec_; clear en_))
           have GB35 := Aside0.mk gb35
           have GG35 := Aside0.mk HG35
           clear gb35 gl35 HG35
           obtain ⟨ce35, hcl35, hM35, hcc35, hfr35⟩ := Kd.R_elem HL122_0.out z66 (x7_3 : Int) p35 q35
           obtain rfl := k66_openM hM35
           have hx35_0 : World.cell? _ ⟨go35, (x7_3 : Int).toNat * 2, none⟩ = some (.int .i64 ((rd_T66 (rd_L66 y121 x15_1) x7_3).f0)) := hcc35 0 _ rfl
           have hx35_1 : World.cell? _ ⟨go35, (x7_3 : Int).toNat * 2 + 1, none⟩ = some (.int .i64 ((rd_T66 (rd_L66 y121 x15_1) x7_3).f1)) := hcc35 1 _ rfl
           have hf35_0 : World.frozen? _ ⟨go35, (x7_3 : Int).toNat * 2, none⟩ = false := hfr35 0
           have hf35_1 : World.frozen? _ ⟨go35, (x7_3 : Int).toNat * 2 + 1, none⟩ = false := hfr35 1
           clear hcl35 hcc35 hfr35 hM35
           replace p35 := eq_true p35
           replace q35 := eq_true q35
           have hq47 : (x15_1 : Int) < (x3_2.length : Int) := (by have h_ : (x15_1 : Int) < ((x3_2.length : Int) : Int) := tD; first | exact h_ | (have e_ := (Kd.S_reads' HO_3.out).1; omega) | simpa only [Ny120.out, Ny121.out, List.length_set] using h_)
           obtain ⟨oki47, ce47, hcl47, hM47, hcc47, hok47, hbk47⟩ := Kd.S_borrow HO_3.out [] (x15_1 : Int) (tD) hq47
           obtain ⟨ve47_0, rfl, ge47_0⟩ := hM47
           have hv47 := hcc47 0 _ rfl
           rw [Nat.add_zero, show ((Kd.slice 66 k66)).sz = 1 from rfl, Nat.mul_one] at hv47
           replace hv47 := Option.some.inj (hv47.symm.trans HX122_0.out)
           subst hv47
           clear hcc47 hcl47
           replace ge47_0 := (show Kd.R k66 66 _ _ _ _ (rd_L66 y121 x15_1) from ge47_0)
           obtain ⟨cf47, hcl47, hN47, hcc47, hfr47⟩ := Kd.R_elem ge47_0 z66 (x7_3 : Int) (tD) (by have h_ : (x7_3 : Int) < (((rd_L66 y121 x15_1).length : Int) : Int) := tD; first | exact h_ | (have e_ := (Kd.R_reads' HR122_0.out).1; omega) | simpa using h_)
           obtain rfl := k66_openM hN47
           have HP47 := Kd.R_seg ge47_0 (x7_3 : Int) (tD) (by have h_ : (x7_3 : Int) < (((rd_L66 y121 x15_1).length : Int) : Int) := tD; first | exact h_ | (have e_ := (Kd.R_reads' HR122_0.out).1; omega) | simpa using h_) (seg := [.int .i64 ((rd_T80 t105 x22_2).f1), .int .i64 ((rd_T80 t105 x22_2).f2)]) (j := 0) hcl47 hcc47 (show 2 ≤ 2 from by decide) (x' := (⟨((rd_T80 t105 x22_2).f1), ((rd_T80 t105 x22_2).f2)⟩ : S66)) (k66_mkM _ _ _ (⟨((rd_T80 t105 x22_2).f1), ((rd_T80 t105 x22_2).f2)⟩ : S66)) (fun _ hk => hk)
           clear hcl47 hcc47 hfr47 hN47
           rw [← Ny123.out] at HP47
           have HS47 := hbk47 HP47.2 (fun k_ e_ => by injection e_ with e_; subst e_; exact ge47_0.1 _ rfl) (x' := y123) (Kd.M_row HP47.1)
           rw [← Ny125.out] at HS47
           have HQ47 := Aside0.mk HS47
           clear HP47 HS47 hbk47 hok47
           refine sS4 12 [11] rfl witness_steps.tab14 witness_steps.bits14 ⟨tz BK109 0, tz BK109 1, tz BK109 2, hx122_0⟩ (fun hHeld HT_ HW_ => ?_)
           generalize w45.drew = w46 at HO_20 HO_3 BK101 BK109 HB GG35 HL122_0 HQ47 HR122_0 HX122_0 hf35_0 hf35_1 hx122_0 hx35_0 hx35_1 hHeld ⊢
           refine sP 0 92 HT_ rfl rfl ?_
           refine sP 1 93 HT_ rfl rfl ?_
           refine sP 2 94 HT_ rfl rfl ?_
           refine sP 4 96 HT_ rfl rfl ?_
           refine sP 5 97 HT_ rfl rfl ?_
           refine sP 7 99 HT_ rfl rfl ?_
           refine sT 3 95 HT_ HW_ rfl rfl hHeld ?_
           refine sT 6 98 HT_ HW_ rfl rfl hHeld ?_
           refine sT 8 100 HT_ HW_ rfl rfl hHeld ?_
           refine sP 9 101 HT_ rfl rfl ?_
           refine sP 10 102 HT_ rfl rfl ?_
           refine sL 11 none HT_ rfl rfl (fun K hK => ?_)
           refine skip_ (w1 := ?_) (by rfl) rfl ?_ ?_
           rotate_left
           ·go_simp
            rfl
           refine hK.out _ _ ?_
           clear hK K
           refine sD HT_ ?_
           try go_wp2_with go_step3
           go_roundg k3
           case measure => have := HK1.out; have := HK2.out; have := HK3.out; omega
           case rel => exact ⟨(y125), (wrap64 (x22_2 + 1)), tU, H', ⟨by have := HK1.out; have := HK2.out; have := HK3.out; omega⟩, ⟨tR HQ47⟩, ⟨by (with_reducible repeat (first | apply Kd.R_alloc | apply Kd.R_drewN | apply Kd.R_drew)); exact Kd.R_mono (Kd.R_far (p := ⟨go35, (x7_3 : Int).toNat * 2 + 1, none⟩) (Kd.R_far (p := ⟨go35, (x7_3 : Int).toNat * 2, none⟩) (Kd.R_types HO_20.out GG35.out (by decide)) (fun _ hk => hk.2) (.int .i64 ((rd_T80 t105 x22_2).f1))) (fun _ hk => hk.2) (.int .i64 ((rd_T80 t105 x22_2).f2))) (fun _ hk => trivial)⟩, ⟨by (with_reducible repeat (first | refine blk_drewN ?_ _ | refine blk_drew ?_ | refine blk_alloc ?_ _)); refine blk_far ?_ (by have h_ := Kd.R_ne HL122_0.out BK101.out (by decide); intro e_; exact h_ (by rw [e_]; rfl)) _; (with_reducible repeat (first | refine blk_drewN ?_ _ | refine blk_drew ?_ | refine blk_alloc ?_ _)); refine blk_far ?_ (by have h_ := Kd.R_ne HL122_0.out BK101.out (by decide); intro e_; exact h_ (by rw [e_]; rfl)) _; (with_reducible repeat (first | refine blk_drewN ?_ _ | refine blk_drew ?_ | refine blk_alloc ?_ _)); exact BK101.out⟩, ⟨by repeat (first | (with_reducible first | exact HB.out | apply below_alloc | apply pw_below_drewN | apply below_drew1 | refine below_set ?_ GB35.out | refine below_set ?_ GB35.out | refine below_set ?_ GE101.out | refine below_set ?_ GE109.out) | exact HB.out)⟩⟩
          rw [if_neg c22] at H
          have c22b0 := decide_eq_false c22
          clear c22
          replace H := tF H
          obtain ⟨c49, H⟩ := H
          have LMc49 := Aside0.mk c49
          clear c49
          obtain ⟨y128, hy128⟩ : ∃ y_ : List (S66), y_ = ((rd_L66 x3_2 x15_1) ++ [(⟨0, 0⟩ : S66)]) := ⟨_, rfl⟩
          replace H : ((some (x3_2.set (x15_1 : Int).toNat y128 : List (List (S66)))).bind fun y131 => (if 0 ≤ x7_3 then (if x7_3 < ((rd_L66 y131 x15_1).length : Int) then ((some (shiftAt_ y131 (x15_1 : Int) (x7_3 : Int) : List (List (S66)))).bind fun y132 => (if x7_3 < ((rd_L66 y132 x15_1).length : Int) then (witness_steps.l1 k3 (y132.set (x15_1 : Int).toNat ((rd_L66 y132 x15_1).set (x7_3 : Int).toNat (⟨((rd_T80 t105 x22_2).f1), ((rd_T80 t105 x22_2).f2)⟩ : S66))) x15_1 (l0_0.length : Int) x15_1 t105 (t105.length : Int) (wrap64 (x22_2 + 1)) l0_0 l0_1 a0_2) else (none))) else (none)) else (none))) = some r := tQ hy128 H
          have Ny128 := Aside0.mk hy128
          clear hy128
          obtain ⟨y131, hy131⟩ : ∃ y_ : List (List (S66)), y_ = (x3_2.set (x15_1 : Int).toNat y128) := ⟨_, rfl⟩
          replace H : (if 0 ≤ x7_3 then (if x7_3 < ((rd_L66 y131 x15_1).length : Int) then ((some (shiftAt_ y131 (x15_1 : Int) (x7_3 : Int) : List (List (S66)))).bind fun y132 => (if x7_3 < ((rd_L66 y132 x15_1).length : Int) then (witness_steps.l1 k3 (y132.set (x15_1 : Int).toNat ((rd_L66 y132 x15_1).set (x7_3 : Int).toNat (⟨((rd_T80 t105 x22_2).f1), ((rd_T80 t105 x22_2).f2)⟩ : S66))) x15_1 (l0_0.length : Int) x15_1 t105 (t105.length : Int) (wrap64 (x22_2 + 1)) l0_0 l0_1 a0_2) else (none))) else (none)) else (none)) = some r := tQ hy131 H
          have Ny131 := Aside0.mk hy131
          clear hy131
          replace H := tF H
          obtain ⟨c51, H⟩ := H
          have c51b0 := decide_eq_true c51
          clear c51
          replace H := tF H
          obtain ⟨c52, H⟩ := H
          have c52b0 := decide_eq_true c52
          clear c52
          obtain ⟨y132, hy132⟩ : ∃ y_ : List (List (S66)), y_ = (shiftAt_ y131 (x15_1 : Int) (x7_3 : Int)) := ⟨_, rfl⟩
          replace H : (if x7_3 < ((rd_L66 y132 x15_1).length : Int) then (witness_steps.l1 k3 (y132.set (x15_1 : Int).toNat ((rd_L66 y132 x15_1).set (x7_3 : Int).toNat (⟨((rd_T80 t105 x22_2).f1), ((rd_T80 t105 x22_2).f2)⟩ : S66))) x15_1 (l0_0.length : Int) x15_1 t105 (t105.length : Int) (wrap64 (x22_2 + 1)) l0_0 l0_1 a0_2) else (none)) = some r := tQ hy132 H
          have Ny132 := Aside0.mk hy132
          clear hy132
          replace H := tF H
          obtain ⟨c53, H⟩ := H
          have c53b0 := decide_eq_true c53
          clear c53
          obtain ⟨y134, hy134⟩ : ∃ y_ : List (S66), y_ = ((rd_L66 y132 x15_1).set (x7_3 : Int).toNat (⟨((rd_T80 t105 x22_2).f1), ((rd_T80 t105 x22_2).f2)⟩ : S66)) := ⟨_, rfl⟩
          replace H : (witness_steps.l1 k3 (y132.set (x15_1 : Int).toNat y134) x15_1 (l0_0.length : Int) x15_1 t105 (t105.length : Int) (wrap64 (x22_2 + 1)) l0_0 l0_1 a0_2) = some r := tQ hy134 H
          have Ny134 := Aside0.mk hy134
          clear hy134
          obtain ⟨y136, hy136⟩ : ∃ y_ : List (List (S66)), y_ = (y132.set (x15_1 : Int).toNat y134) := ⟨_, rfl⟩
          replace H : (witness_steps.l1 k3 y136 x15_1 (l0_0.length : Int) x15_1 t105 (t105.length : Int) (wrap64 (x22_2 + 1)) l0_0 l0_1 a0_2) = some r := tQ hy136 H
          have Ny136 := Aside0.mk hy136
          clear hy136
          have H' := Aside0.mk H
          clear H
          try go_wp2_with go_step3
          replace HO_3 := Aside0.mk (Kd.S_drew HO_3.out)
          replace HO_20 := Aside0.mk (Kd.R_drew HO_20.out)
          replace BK101 := Aside0.mk (blk_drew BK101.out)
          replace BK109 := Aside0.mk (blk_drew BK109.out)
          replace HB := Aside0.mk (below_drew1 HB.out)
          obtain ⟨Ao56, co56, eo56⟩ := Kd.S_slice HO_3.out
          (first | subst eo56 | (injection eo56 with f1_ f2_ f3_; have f4_ := f1_.symm; have f5_ := f3_.symm; clear f1_ f2_ f3_; subst f4_; subst f5_))
          have p110 : 0 ≤ (x15_1 : Int) := tD
          have q110 : x15_1 < (x3_2.length : Int) := tD
          obtain ⟨ad110, A110_0, c110_0, e110, hx110_0, hl110_0, hi110_0⟩ := at_L66 (Kd.S_reads' HO_3.out).2.2 x15_1 p110 q110
          cases e110
          obtain ⟨ce110, hce110, hMe110, hcc110⟩ := Kd.S_get HO_3.out [] x15_1 p110 (by first | exact q110 | exact tD | (have e_ := (Kd.S_reads' HO_3.out).1; omega))
          obtain ⟨ve110_0, rfl, ge110_0⟩ := hMe110
          have hv110_0 := hcc110 0 _ rfl
          rw [Nat.add_zero, show ((Kd.slice 66 k66)).sz = 1 from rfl, Nat.mul_one] at hv110_0
          replace hv110_0 := Option.some.inj (hv110_0.symm.trans hx110_0)
          rw [hv110_0] at ge110_0
          have HL110_0 := Aside0.mk (show Kd.R k66 66 _ _ _ _ (rd_L66 x3_2 x15_1) from ge110_0)
          clear hv110_0 ge110_0
          have HX110_0 := Aside0.mk hx110_0
          clear hcc110 hce110
          have HR110_0 := Aside0.mk hi110_0
          have HC110_0 := Aside0.mk hl110_0
          clear hi110_0 hl110_0
          replace p110 := eq_true p110
          replace q110 := eq_true q110
          refine sS1 20 [] rfl witness_steps.tab9 witness_steps.bits9 (hx110_0) (fun hHeld HT_ HW_ => ?_)
          generalize wr.drew = w55 at HO_3 HO_20 BK101 BK109 HB HL110_0 HR110_0 HX110_0 hx110_0 hHeld ⊢
          refine sP 0 26 HT_ rfl rfl ?_
          refine sP 1 27 HT_ rfl rfl ?_
          refine sP 2 28 HT_ rfl rfl ?_
          refine sP 3 29 HT_ rfl rfl ?_
          refine sT 4 30 HT_ HW_ rfl rfl hHeld ?_
          refine sP 5 31 HT_ rfl rfl ?_
          refine sP 6 32 HT_ rfl rfl ?_
          refine sP 7 33 HT_ rfl rfl ?_
          refine sU 8 34 HT_ rfl rfl ?_
          refine sU 9 35 HT_ rfl rfl ?_
          refine sU 10 36 HT_ rfl rfl ?_
          refine sU 11 37 HT_ rfl rfl ?_
          refine sU 12 38 HT_ rfl rfl ?_
          refine sU 13 39 HT_ rfl rfl ?_
          refine sU 14 40 HT_ rfl rfl ?_
          refine sU 15 41 HT_ rfl rfl ?_
          refine sU 16 42 HT_ rfl rfl ?_
          refine sU 17 43 HT_ rfl rfl ?_
          refine sU 18 44 HT_ rfl rfl ?_
          refine sP 19 45 HT_ rfl rfl ?_
          refine sD HT_ ?_
          try go_wp2_with go_step3
          replace HO_3 := Aside0.mk (Kd.S_drew HO_3.out)
          replace HO_20 := Aside0.mk (Kd.R_drew HO_20.out)
          replace HL110_0 := Aside0.mk (Kd.R_drew HL110_0.out)
          replace BK101 := Aside0.mk (blk_drew BK101.out)
          replace BK109 := Aside0.mk (blk_drew BK109.out)
          replace HR110_0 := Aside0.mk (Kd.C_drew HR110_0.out)
          replace HB := Aside0.mk (below_drew1 HB.out)
          have p126 : 0 ≤ (x15_1 : Int) := tD
          have q126 : x15_1 < (x3_2.length : Int) := tD
          obtain ⟨ad126, A126_0, c126_0, e126, hx126_0, hl126_0, hi126_0⟩ := at_L66 (Kd.S_reads' HO_3.out).2.2 x15_1 p126 q126
          obtain rfl : ad110 = ad126 := (by injection e126)
          obtain ⟨ce126, hce126, hMe126, hcc126⟩ := Kd.S_get HO_3.out [] x15_1 p126 (by first | exact q126 | exact tD | (have e_ := (Kd.S_reads' HO_3.out).1; omega))
          obtain ⟨ve126_0, rfl, ge126_0⟩ := hMe126
          have hv126_0 := hcc126 0 _ rfl
          rw [Nat.add_zero, show ((Kd.slice 66 k66)).sz = 1 from rfl, Nat.mul_one] at hv126_0
          replace hv126_0 := Option.some.inj (hv126_0.symm.trans hx126_0)
          rw [hv126_0] at ge126_0
          have HL126_0 := Aside0.mk (show Kd.R k66 66 _ _ _ _ (rd_L66 x3_2 x15_1) from ge126_0)
          clear hv126_0 ge126_0
          have HX126_0 := Aside0.mk hx126_0
          clear hcc126 hce126
          have HR126_0 := Aside0.mk hi126_0
          have HC126_0 := Aside0.mk hl126_0
          clear hi126_0 hl126_0
          replace p126 := eq_true p126
          replace q126 := eq_true q126
          refine sS1 20 [] rfl witness_steps.tab11 witness_steps.bits11 (hx126_0) (fun hHeld HT_ HW_ => ?_)
          generalize w55.drew = w57 at HO_3 HO_20 HL110_0 BK101 BK109 HR110_0 HB HL126_0 HR126_0 HX126_0 hx126_0 hHeld ⊢
          refine sP 0 48 HT_ rfl rfl ?_
          refine sP 1 49 HT_ rfl rfl ?_
          refine sP 2 50 HT_ rfl rfl ?_
          refine sP 3 51 HT_ rfl rfl ?_
          refine sT 4 52 HT_ HW_ rfl rfl hHeld ?_
          refine sP 5 53 HT_ rfl rfl ?_
          refine sP 6 54 HT_ rfl rfl ?_
          refine sP 7 55 HT_ rfl rfl ?_
          refine sU 8 56 HT_ rfl rfl ?_
          refine sU 9 57 HT_ rfl rfl ?_
          refine sU 10 58 HT_ rfl rfl ?_
          refine sU 11 59 HT_ rfl rfl ?_
          refine sU 12 60 HT_ rfl rfl ?_
          refine sU 13 61 HT_ rfl rfl ?_
          refine sU 14 62 HT_ rfl rfl ?_
          refine sU 15 63 HT_ rfl rfl ?_
          refine sU 16 64 HT_ rfl rfl ?_
          refine sU 17 65 HT_ rfl rfl ?_
          refine sU 18 66 HT_ rfl rfl ?_
          refine sP 19 67 HT_ rfl rfl ?_
          refine sD HT_ ?_
          have p127 : 0 ≤ (x15_1 : Int) := tD
          have q127 : x15_1 < (x3_2.length : Int) := tD
          obtain ⟨ad127, A127_0, c127_0, e127, hx127_0, hl127_0, hi127_0⟩ := at_L66 (Kd.S_reads' HO_3.out).2.2 x15_1 p127 q127
          obtain rfl : ad110 = ad127 := (by injection e127)
          obtain ⟨ce127, hce127, hMe127, hcc127⟩ := Kd.S_get HO_3.out [] x15_1 p127 (by first | exact q127 | exact tD | (have e_ := (Kd.S_reads' HO_3.out).1; omega))
          obtain ⟨ve127_0, rfl, ge127_0⟩ := hMe127
          have hv127_0 := hcc127 0 _ rfl
          rw [Nat.add_zero, show ((Kd.slice 66 k66)).sz = 1 from rfl, Nat.mul_one] at hv127_0
          replace hv127_0 := Option.some.inj (hv127_0.symm.trans hx127_0)
          rw [hv127_0] at ge127_0
          have HL127_0 := Aside0.mk (show Kd.R k66 66 _ _ _ _ (rd_L66 x3_2 x15_1) from ge127_0)
          clear hv127_0 ge127_0
          have HX127_0 := Aside0.mk hx127_0
          clear hcc127 hce127
          have HR127_0 := Aside0.mk hi127_0
          have HC127_0 := Aside0.mk hl127_0
          clear hi127_0 hl127_0
          replace p127 := eq_true p127
          replace q127 := eq_true q127
          have ea_ := Option.some.inj (hx126_0.symm.trans hx127_0)
          injection ea_ with ea_ en_ ec_
          subst ea_
          subst ec_
          clear en_
          obtain ⟨go58, co58, eo58, gb58, gl58, cl58, HG58⟩ := Kd.S_form HO_3.out (by have h_ : (x15_1 : Int) < ((x3_2.length : Int) : Int) := tD; have h2_ : 0 ≤ (x15_1 : Int) := (tD); omega)
          (first | cases eo58 | (injection eo58 with ea_ en_ ec_; (first | subst ea_ | (injection ea_ with ea_; subst ea_)); subst ec_; clear en_))
          have GB58 := Aside0.mk gb58
          have GG58 := Aside0.mk HG58
          clear gb58 gl58 HG58
          (first | simp only [add_plain] at hx110_0 | skip)
          (first | simp only [add_plain] at hx126_0 | skip)
          (first | simp only [add_plain] at hx127_0 | skip)
          obtain ⟨oki58, ce58, hcl58, hM58, hcc58, _, _, hH58⟩ := Kd.S_elem HO_3.out [] (x15_1 : Int) (tD) (by have h_ : (x15_1 : Int) < ((x3_2.length : Int) : Int) := tD; first | exact h_ | (have e_ := (Kd.S_reads' HO_3.out).1; omega) | simpa using h_)
          obtain ⟨ve58_0, rfl, ge58_0⟩ := hM58
          have hv58 := hcc58 0 _ rfl
          have hX58 := HX127_0.out
          (try simp only [add_plain] at hX58)
          (try simp only [Nat.add_zero] at hv58)
          (try rw [show ((Kd.slice 66 k66)).sz = 1 from rfl, Nat.mul_one] at hv58)
          replace hv58 := Option.some.inj (hv58.symm.trans hX58)
          subst hv58
          clear hX58 hcc58 hcl58
          have UU58 := Aside0.mk (show Kd.R k66 66 _ w.heap.size oki58 (.slice A126_0 (rd_L66 x3_2 x15_1).length c126_0) (rd_L66 x3_2 x15_1) from ge58_0)
          have HH58 := Aside0.mk hH58
          have HN58 := Aside0.mk (Kd.S_reads' HO_3.out).1
          clear hH58 ge58_0
          try go_wp2_with (first | go_step3 | ((with_reducible refine gate_builtin (b := .append) (xs := #[.tmp 73, .tmp 75]) rfl ?_); at_builtin; refine Kd.R_append k66 (w0 := w) w.heap.size rfl (.tmp 73) (.tmp 75) 59 66 (.agg #[(.int .i64 0), (.int .i64 0)]) 16 rfl Try.underlying59 info66 rfl (by decide) (by omega) (.slice A126_0 (rd_L66 x3_2 x15_1).length c126_0) (rd_L66 x3_2 x15_1) (⟨0, 0⟩ : S66) [.int .i64 0, .int .i64 0] (fun k_ => oki58 k_ ∨ ((fun _ => True)) k_ ∧ w57.heap.size ≤ k_) (fun _ => False) rfl rfl ?aP (fun _ hk => hk.elim) ?aF ?aO ?aB ?aS ?aL ?_; (case aP => exact k66_mkM _ _ _ (⟨0, 0⟩ : S66)); (case aB => exact (tB)); (case aF => exact (fun k_ hk => .inr ⟨trivial, hk⟩)); (case aO => exact (by (with_reducible repeat (first | apply Kd.R_alloc | apply Kd.R_drewN | apply Kd.R_drew)); exact Kd.R_mono UU58.out (fun _ hk => .inl hk))); (case aS => exact (below_size (tB))); (case aL => have := LMc49.out; omega); intro v129 w59 ho hb hg hat; rw [← Ny128.out] at ho; replace HO_20 := Aside0.mk (Kd.R_over' (v := (.slice A126_0 (rd_L66 x3_2 x15_1).length c126_0)) (tR HO_20) (Kd.R_typed HL127_0.out) (by decide) hg); replace BK101 := Aside0.mk (blk_grown (g := gb101) (o := .cells #[.slice A0_0 l0_0.length c0_0, .slice A0_1 l0_1.length c0_1, .bool a0_2] 25 (0, 0)) (tK BK101) hg (Kd.R_ne HL127_0.out BK101.out (by decide))); replace BK109 := Aside0.mk (blk_grown (g := gb109) (o := .cells #[.int .i64 ((rd_T80 t105 x22_2).f0), .int .i64 ((rd_T80 t105 x22_2).f1), .int .i64 ((rd_T80 t105 x22_2).f2)] 80 (0, 0)) (tK BK109) hg (Kd.R_ne HL127_0.out BK109.out (by decide))); replace HB := Aside0.mk (hb); replace HH58 := Aside0.mk (Kd.H_grown (Kd.H_widen (by repeat (first | exact HH58.out | refine Kd.H_alloc ?_ _ | refine Kd.H_drewN ?_ _ | refine Kd.H_drew ?_))) hg (fun k_ e_ => .inl (UU58.out.1 k_ e_))); have HO130 := Aside0.mk (ho); clear HL110_0 HL126_0 HL127_0 HO_3 UU58; clear ho hb hg hat; have p50 : 0 ≤ (x15_1 : Int) := tD; have q50 : (x15_1 : Int) < ((x3_2.length : Int) : Int) := tD; replace p50 := eq_true p50; replace q50 := eq_true q50; obtain ⟨Ao62, co62, eo62⟩ := Kd.R_slice HO130.out; subst eo62; obtain ⟨_, _, hraw60, _, _, hcc60, _⟩ := Kd.H_raw HH58.out (tD) (by have h_ : (x15_1 : Int) < ((x3_2.length : Int) : Int) := tD; first | exact h_ | (have e_ := (HN58.out); omega) | simpa using h_); obtain ⟨_, hfr60⟩ := Kd.H_at HH58.out (tD) (by have h_ : (x15_1 : Int) < ((x3_2.length : Int) : Int) := tD; first | exact h_ | (have e_ := (HN58.out); omega) | simpa using h_); have hx60_0 := hcc60 0 _ rfl; have hf60_0 := hfr60 0; (try simp only [Nat.add_zero] at hx60_0 hf60_0); (try rw [show ((Kd.slice 66 k66)).sz = 1 from rfl, Nat.mul_one] at hx60_0); (try rw [show ((Kd.slice 66 k66)).sz = 1 from rfl, Nat.mul_one] at hf60_0); have HP60 := Kd.S_seg0 HH58.out (tD) (by have h_ : (x15_1 : Int) < ((x3_2.length : Int) : Int) := tD; first | exact h_ | (have e_ := (HN58.out); omega) | simpa using h_) (seg := [.slice Ao62 y128.length co62]) (j := 0) (show 1 ≤ 1 from by decide) (x' := y128) (Kd.M_row HO130.out) (fun _ hk => hk); (try simp only [show ((Kd.slice 66 k66)).sz = 1 from rfl, Nat.mul_one, Nat.add_zero] at HP60); clear hcc60 hfr60) | ((with_reducible refine gate_store (t := 59) (p := 77) rfl ?_); refine store_event (t := 59) (p := 77) (v := ?vo_w61) (w1 := (w59.setCell ⟨go58, (x15_1 : Int).toNat, none⟩ (.slice Ao62 y128.length co62))) ?hg ?ho ?hn ?hr ?_; (case ho => rfl); (case hg => rfl); (case hn => rfl); (case hr => first | (go_simp; done) | (go_simp; rfl)); intro w61 hw; have hg : w59.grownBy w61 (some go58) := (by rw [hw]; exact HP60.2); have hp_ : Kd.S (Kd.slice 66 k66) 59 w61 w.heap.size (fun _ => True) (.slice (some ⟨go58, 0, none⟩) x3_2.length co56) y131 := (by rw [hw, Ny131.out]; exact HP60.1); clear HP60; replace HO_20 := Aside0.mk (Kd.R_over' (v := (.slice (some ⟨go58, 0, none⟩) x3_2.length co56)) (tR HO_20) (Kd.R_typed hraw60) (by decide) hg); replace BK101 := Aside0.mk (blk_grown (g := gb101) (o := .cells #[.slice A0_0 l0_0.length c0_0, .slice A0_1 l0_1.length c0_1, .bool a0_2] 25 (0, 0)) (tK BK101) hg (Kd.R_ne hraw60 BK101.out (by decide))); replace BK109 := Aside0.mk (blk_grown (g := gb109) (o := .cells #[.int .i64 ((rd_T80 t105 x22_2).f0), .int .i64 ((rd_T80 t105 x22_2).f1), .int .i64 ((rd_T80 t105 x22_2).f2)] 80 (0, 0)) (tK BK109) hg (Kd.R_ne hraw60 BK109.out (by decide))); replace HB := Aside0.mk ((by rw [hw]; exact below_set HB.out GB58.out : Below w.heap.size w w61)); have HO_3 := Aside0.mk (hp_); clear HH58 HO130; clear hg hw hp_ hraw60) | ((with_reducible refine gate_reg (id := 13) ?_); refine with_world_ (Pr := fun w_ => Kd.S _ _ w_ _ _ _ _) (tR HO_3) (fun hS63_ => ?_); have hS63 := Kd.S_drew hS63_; obtain ⟨gi63, ci63, hx63, hl63, hg63, hrun63⟩ := shift_pre_ hS63 (s := (x15_1 : Int)) (tD) (by have h_ : (x15_1 : Int) < ((x3_2.length : Int) : Int) := (tD); first | exact h_ | (have e_ := (Kd.S_reads' hS63).1; omega)) (i := (x7_3 : Int)) (tD) (by have h_ : (x7_3 : Int) < ((rd_L66 y131 x15_1).length : Int) := (tD); exact h_); have hpa63 : (0 ≤ (x15_1 : Int)) = True := eq_true (tD); have hpb63 : ((x15_1 : Int) < ((x3_2.length : Int) : Int)) = True := eq_true (tD); have hwr63 : wrap64 ((x7_3 : Int) + 1) = (x7_3 : Int) + 1 := wrap_len_ hl63 (by have h_ : (x7_3 : Int) < ((rd_L66 y131 x15_1).length : Int) := (tD); exact h_) (tD); obtain ⟨Da63, hDa63⟩ : ∃ D_ : Option Addr, D_ = (if ci63 = ((x7_3 : Int) + 1).toNat then some ⟨gi63, 0, none⟩ else some ⟨gi63, ((x7_3 : Int) + 1).toNat * 2, none⟩) := ⟨_, rfl⟩; obtain ⟨Db63, hDb63⟩ : ∃ D_ : Option Addr, D_ = (if ci63 = ((x7_3 : Int)).toNat then some ⟨gi63, 0, none⟩ else some ⟨gi63, ((x7_3 : Int)).toNat * 2, none⟩) := ⟨_, rfl⟩; have hs163 := fun w_ => run_low_ (w := w_) Try.underlying59 info66 gi63 (n := (rd_L66 y131 x15_1).length) (c := ci63) (l := (x7_3 : Int) + 1) Da63 hDa63 (by have h_ : 0 ≤ (x7_3 : Int) := (tD); omega) (by have h_ : (x7_3 : Int) < ((rd_L66 y131 x15_1).length : Int) := (tD); omega); have hs263 := fun w_ => run_low_ (w := w_) Try.underlying59 info66 gi63 (n := (rd_L66 y131 x15_1).length) (c := ci63) (l := (x7_3 : Int)) Db63 hDb63 (tD) (by have h_ : (x7_3 : Int) < ((rd_L66 y131 x15_1).length : Int) := (tD); omega); have HDa63 := Aside0.mk hDa63; have HDb63 := Aside0.mk hDb63; clear hDa63 hDb63; refine start_ (n := 14) (S := fun w' => w'.cell? ⟨go58, ((x15_1 : Int)).toNat, none⟩ = some (.slice (some ⟨gi63, 0, none⟩) (rd_L66 y131 x15_1).length ci63)) (ds := [13]) #[false, false, false, false, false, false, false, false, false, false, false, false, false, false] (by kernel_rfl) rfl rfl hx63 (fun hHeld63 => ?_); refine with_tabW witness_steps.tab13 witness_steps.bits13 (fun HT_ HW_ => ?_); refine pure_ (i := 0) (N := some 78) (v := ?v0_63) (a' := ?a0_63) #[true, false, false, false, false, false, false, false, false, false, false, false, false, false] rfl rfl (any_of HT_.out (by kernel_rfl)) (fun _ _ _ h => h) (Or.inl ⟨by rfl, ?y0_63⟩) ?e0_63 ?h0_63; (case y0_63 => first | (intro w' s0; go_simp; with_reducible rfl) | (intro w'; go_simp; with_reducible rfl)); (case e0_63 => simp only [tS, i64_w, i32_w]; rfl); refine pure_ (i := 1) (N := some 79) (v := ?v1_63) (a' := ?a1_63) #[true, true, false, false, false, false, false, false, false, false, false, false, false, false] rfl rfl (any_of HT_.out (by kernel_rfl)) (fun _ _ _ h => h) (Or.inl ⟨by rfl, ?y1_63⟩) ?e1_63 ?h1_63; (case y1_63 => first | (intro w' s0; go_simp; with_reducible rfl) | (intro w'; go_simp; with_reducible rfl)); (case e1_63 => simp only [tS, i64_w, i32_w]; rfl); refine pure_ (i := 2) (N := some 80) (v := ?v2_63) (a' := ?a2_63) #[true, true, true, false, false, false, false, false, false, false, false, false, false, false] rfl rfl (any_of HT_.out (by kernel_rfl)) (fun _ _ _ h => h) (Or.inl ⟨by rfl, ?y2_63⟩) ?e2_63 ?h2_63; (case y2_63 => first | (intro w' s0; go_simp; with_reducible rfl) | (intro w'; go_simp; with_reducible rfl)); (case e2_63 => simp only [tS, i64_w, i32_w]; rfl); refine take_ (i := 3) (N := some 81) (v := ?v3_63) (a' := ?a3_63) #[true, true, true, true, false, false, false, false, false, false, false, false, false, false] rfl rfl (take_ofW HT_.out HW_.out (by kernel_rfl)) (fun _ _ _ h => h) (Or.inl ⟨by rfl, ?y3_63⟩) hHeld63 ?e3_63 ?h3_63; (case y3_63 => first | (intro w' s0; go_simp; with_reducible rfl) | (intro w'; go_simp; with_reducible rfl)); (case e3_63 => simp only [tS, i64_w, i32_w]; rfl); refine pure_ (i := 4) (N := some 82) (v := ?v4_63) (a' := ?a4_63) #[true, true, true, true, true, false, false, false, false, false, false, false, false, false] rfl rfl (any_of HT_.out (by kernel_rfl)) (fun _ _ _ h => h) (Or.inl ⟨by rfl, ?y4_63⟩) ?e4_63 ?h4_63; (case y4_63 => first | (intro w' s0; go_simp; with_reducible rfl) | (intro w'; go_simp; with_reducible rfl)); (case e4_63 => simp only [tS, i64_w, i32_w]; rfl); refine pure_ (i := 5) (N := some 83) (v := ?v5_63) (a' := ?a5_63) #[true, true, true, true, true, true, false, false, false, false, false, false, false, false] rfl rfl (any_of HT_.out (by kernel_rfl)) (fun _ _ _ h => h) (Or.inl ⟨by rfl, ?y5_63⟩) ?e5_63 ?h5_63; (case y5_63 => first | (intro w' s0; go_simp; with_reducible rfl) | (intro w'; go_simp; with_reducible rfl)); (case e5_63 => simp only [tS, i64_w, i32_w]; rfl); refine pure_ (i := 6) (N := some 84) (v := ?v6_63) (a' := ?a6_63) #[true, true, true, true, true, true, true, false, false, false, false, false, false, false] rfl rfl (any_of HT_.out (by kernel_rfl)) (fun _ _ _ h => h) (Or.inl ⟨by rfl, ?y6_63⟩) ?e6_63 ?h6_63; (case y6_63 => first | (intro w' s0; go_simp; with_reducible rfl) | (intro w'; go_simp; with_reducible rfl)); (case e6_63 => simp only [tS, i64_w, i32_w]; rfl); refine pure_ (i := 7) (N := some 85) (v := ?v7_63) (a' := ?a7_63) #[true, true, true, true, true, true, true, true, false, false, false, false, false, false] rfl rfl (any_of HT_.out (by kernel_rfl)) (fun _ _ _ h => h) (Or.inl ⟨by rfl, ?y7_63⟩) ?e7_63 ?h7_63; (case y7_63 => first | (intro w' s0; go_simp; with_reducible rfl) | (intro w'; go_simp; with_reducible rfl)); (case e7_63 => simp only [tS, i64_w, i32_w]; rfl); refine pure_ (i := 8) (N := some 86) (v := ?v8_63) (a' := ?a8_63) #[true, true, true, true, true, true, true, true, true, false, false, false, false, false] rfl rfl (any_of HT_.out (by kernel_rfl)) (fun _ _ _ h => h) (Or.inl ⟨by rfl, ?y8_63⟩) ?e8_63 ?h8_63; (case y8_63 => first | (intro w' s0; go_simp; with_reducible rfl) | (intro w'; go_simp; with_reducible rfl)); (case e8_63 => simp only [tS, i64_w, i32_w]; rfl); refine pure_ (i := 9) (N := some 87) (v := ?v9_63) (a' := ?a9_63) #[true, true, true, true, true, true, true, true, true, true, false, false, false, false] rfl rfl (any_of HT_.out (by kernel_rfl)) (fun _ _ _ h => h) (Or.inl ⟨by rfl, ?y9_63⟩) ?e9_63 ?h9_63; (case y9_63 => first | (intro w' s0; go_simp; with_reducible rfl) | (intro w'; go_simp; with_reducible rfl)); (case e9_63 => simp only [tS, i64_w, i32_w]; rfl); refine take_ (i := 10) (N := some 88) (v := ?v10_63) (a' := ?a10_63) #[true, true, true, true, true, true, true, true, true, true, true, false, false, false] rfl rfl (take_ofW HT_.out HW_.out (by kernel_rfl)) (fun _ _ _ h => h) (Or.inl ⟨by rfl, ?y10_63⟩) hHeld63 ?e10_63 ?h10_63; (case y10_63 => first | (intro w' s0; go_simp; with_reducible rfl) | (intro w'; go_simp; with_reducible rfl)); (case e10_63 => simp only [tS, i64_w, i32_w]; rfl); refine pure_ (i := 11) (N := some 89) (v := ?v11_63) (a' := ?a11_63) #[true, true, true, true, true, true, true, true, true, true, true, true, false, false] rfl rfl (any_of HT_.out (by kernel_rfl)) (fun _ _ _ h => h) (Or.inl ⟨by rfl, ?y11_63⟩) ?e11_63 ?h11_63; (case y11_63 => first | (intro w' s0; go_simp; with_reducible rfl) | (intro w'; go_simp; with_reducible rfl)); (case e11_63 => simp only [tS, i64_w, i32_w]; rfl); refine pure_ (i := 12) (N := some 90) (v := ?v12_63) (a' := ?a12_63) #[true, true, true, true, true, true, true, true, true, true, true, true, true, false] rfl rfl (any_of HT_.out (by kernel_rfl)) (fun _ _ _ h => h) (Or.inl ⟨by rfl, ?y12_63⟩) ?e12_63 ?h12_63; (case y12_63 => first | (intro w' s0; go_simp; with_reducible rfl) | (intro w'; go_simp; with_reducible rfl)); (case e12_63 => simp only [tS, i64_w, i32_w]; rfl); refine last_ (i := 13) (N := some 91) #[true, true, true, true, true, true, true, true, true, true, true, true, true, true] rfl rfl (one_of HT_.out (by kernel_rfl)) (by decide) (fun K hK => ?_); obtain ⟨w64, hr63, ho, hg⟩ := hrun63 Try.underlying59 info66 (by decide); refine value_ (w1 := w64) (v := goInt (((rd_L66 y131 x15_1).length - ((x7_3 : Int).toNat + 1) : Nat) : Int)) (by rfl) rfl ?rr63_ ?_; (case rr63_ => (refine copy_op_ rfl ?_ ?_ (fun ty => hr63 ty Da63 Db63 HDa63.out HDb63.out); all_goals rfl)); refine hK.out _ _ ?_; clear hK K; refine done_ (done_of HT_.out (by kernel_rfl)) ?_; rw [← Ny132.out] at ho; have hb := below_grown_ (tB) hg hg63; replace HO_20 := Aside0.mk (Kd.R_overg_ (tR HO_20) hg63.1 (by decide) hg); replace BK101 := Aside0.mk (blk_grown (g := gb101) (o := .cells #[.slice A0_0 l0_0.length c0_0, .slice A0_1 l0_1.length c0_1, .bool a0_2] 25 (0, 0)) (tK BK101) hg (fun e__ => blk_ne_ (BK101.out) hg63.1 (by decide) (by injection e__))); replace BK109 := Aside0.mk (blk_grown (g := gb109) (o := .cells #[.int .i64 ((rd_T80 t105 x22_2).f0), .int .i64 ((rd_T80 t105 x22_2).f1), .int .i64 ((rd_T80 t105 x22_2).f2)] 80 (0, 0)) (tK BK109) hg (fun e__ => blk_ne_ (BK109.out) hg63.1 (by decide) (by injection e__))); replace HB := Aside0.mk (hb); replace HO_3 := Aside0.mk (ho); clear ho hb hg))
          replace HO_20 := Aside0.mk (Kd.R_drew HO_20.out)
          replace HO_3 := Aside0.mk (Kd.S_drew HO_3.out)
          replace BK101 := Aside0.mk (blk_drew BK101.out)
          replace BK109 := Aside0.mk (blk_drew BK109.out)
          replace HB := Aside0.mk (below_drew1 HB.out)
          have p133 : 0 ≤ (x15_1 : Int) := tD
          have q133 : x15_1 < (y132.length : Int) := (by have h_ : (x15_1 : Int) < ((x3_2.length : Int) : Int) := tD; first | (have e_ := (Kd.S_reads' HO_3.out).1; omega) | simpa only [Ny131.out, Ny132.out, List.length_set] using h_)
          have ql133 : ((x15_1 : Int) < ((x3_2.length : Int) : Int)) = True := eq_true (tD)
          obtain ⟨ad133, A133_0, c133_0, e133, hx133_0, hl133_0, hi133_0⟩ := at_L66 (Kd.S_reads' HO_3.out).2.2 x15_1 p133 q133
          obtain rfl : (⟨go58, 0, none⟩ : Addr) = ad133 := (by injection e133)
          obtain ⟨ce133, hce133, hMe133, hcc133⟩ := Kd.S_get HO_3.out [] x15_1 p133 (by first | exact q133 | exact tD | (have e_ := (Kd.S_reads' HO_3.out).1; omega))
          obtain ⟨ve133_0, rfl, ge133_0⟩ := hMe133
          have hv133_0 := hcc133 0 _ rfl
          rw [Nat.add_zero, show ((Kd.slice 66 k66)).sz = 1 from rfl, Nat.mul_one] at hv133_0
          replace hv133_0 := Option.some.inj (hv133_0.symm.trans hx133_0)
          rw [hv133_0] at ge133_0
          have HL133_0 := Aside0.mk (show Kd.R k66 66 _ _ _ _ (rd_L66 y132 x15_1) from ge133_0)
          clear hv133_0 ge133_0
          have HX133_0 := Aside0.mk hx133_0
          clear hcc133 hce133
          (first | simp only [add_plain] at hx133_0 | simp only [add_at] at hx133_0 | simp only [Addr.add, Nat.zero_add] at hx133_0 | skip)
          have HR133_0 := Aside0.mk hi133_0
          have HC133_0 := Aside0.mk hl133_0
          clear hi133_0 hl133_0
          replace p133 := eq_true p133
          replace q133 := eq_true q133
          have p54 : 0 ≤ (x7_3 : Int) := tD
          have q54 : (x7_3 : Int) < (((rd_L66 y132 x15_1).length : Int) : Int) := tD
          obtain ⟨go54, co54, eo54, gb54, gl54, cl54, HG54⟩ := Kd.R_form HL133_0.out (by omega)
          (first | cases eo54 | (injection eo54 with ea_ en_ ec_; (first | subst ea_ | (injection ea_ with ea_; subst ea_)); subst ec_; clear en_))
          have GB54 := Aside0.mk gb54
          have GG54 := Aside0.mk HG54
          clear gb54 gl54 HG54
          obtain ⟨ce54, hcl54, hM54, hcc54, hfr54⟩ := Kd.R_elem HL133_0.out z66 (x7_3 : Int) p54 q54
          obtain rfl := k66_openM hM54
          have hx54_0 : World.cell? _ ⟨go54, (x7_3 : Int).toNat * 2, none⟩ = some (.int .i64 ((rd_T66 (rd_L66 y132 x15_1) x7_3).f0)) := hcc54 0 _ rfl
          have hx54_1 : World.cell? _ ⟨go54, (x7_3 : Int).toNat * 2 + 1, none⟩ = some (.int .i64 ((rd_T66 (rd_L66 y132 x15_1) x7_3).f1)) := hcc54 1 _ rfl
          have hf54_0 : World.frozen? _ ⟨go54, (x7_3 : Int).toNat * 2, none⟩ = false := hfr54 0
          have hf54_1 : World.frozen? _ ⟨go54, (x7_3 : Int).toNat * 2 + 1, none⟩ = false := hfr54 1
          clear hcl54 hcc54 hfr54 hM54
          replace p54 := eq_true p54
          replace q54 := eq_true q54
          have hq66 : (x15_1 : Int) < (x3_2.length : Int) := (by have h_ : (x15_1 : Int) < ((x3_2.length : Int) : Int) := tD; first | exact h_ | (have e_ := (Kd.S_reads' HO_3.out).1; omega) | simpa only [Ny131.out, Ny132.out, List.length_set] using h_)
          obtain ⟨oki66, ce66, hcl66, hM66, hcc66, hok66, hbk66⟩ := Kd.S_borrow HO_3.out [] (x15_1 : Int) (tD) hq66
          obtain ⟨ve66_0, rfl, ge66_0⟩ := hM66
          have hv66 := hcc66 0 _ rfl
          rw [Nat.add_zero, show ((Kd.slice 66 k66)).sz = 1 from rfl, Nat.mul_one] at hv66
          replace hv66 := Option.some.inj (hv66.symm.trans HX133_0.out)
          subst hv66
          clear hcc66 hcl66
          replace ge66_0 := (show Kd.R k66 66 _ _ _ _ (rd_L66 y132 x15_1) from ge66_0)
          obtain ⟨cf66, hcl66, hN66, hcc66, hfr66⟩ := Kd.R_elem ge66_0 z66 (x7_3 : Int) (tD) (by have h_ : (x7_3 : Int) < (((rd_L66 y132 x15_1).length : Int) : Int) := tD; first | exact h_ | (have e_ := (Kd.R_reads' HR133_0.out).1; omega) | simpa using h_)
          obtain rfl := k66_openM hN66
          have HP66 := Kd.R_seg ge66_0 (x7_3 : Int) (tD) (by have h_ : (x7_3 : Int) < (((rd_L66 y132 x15_1).length : Int) : Int) := tD; first | exact h_ | (have e_ := (Kd.R_reads' HR133_0.out).1; omega) | simpa using h_) (seg := [.int .i64 ((rd_T80 t105 x22_2).f1), .int .i64 ((rd_T80 t105 x22_2).f2)]) (j := 0) hcl66 hcc66 (show 2 ≤ 2 from by decide) (x' := (⟨((rd_T80 t105 x22_2).f1), ((rd_T80 t105 x22_2).f2)⟩ : S66)) (k66_mkM _ _ _ (⟨((rd_T80 t105 x22_2).f1), ((rd_T80 t105 x22_2).f2)⟩ : S66)) (fun _ hk => hk)
          clear hcl66 hcc66 hfr66 hN66
          rw [← Ny134.out] at HP66
          have HS66 := hbk66 HP66.2 (fun k_ e_ => by injection e_ with e_; subst e_; exact ge66_0.1 _ rfl) (x' := y134) (Kd.M_row HP66.1)
          rw [← Ny136.out] at HS66
          have HQ66 := Aside0.mk HS66
          clear HP66 HS66 hbk66 hok66
          refine sS4 12 [11] rfl witness_steps.tab14 witness_steps.bits14 ⟨tz BK109 0, tz BK109 1, tz BK109 2, hx133_0⟩ (fun hHeld HT_ HW_ => ?_)
          generalize w64.drew = w65 at HO_20 HO_3 BK101 BK109 HB GG54 HL133_0 HQ66 HR133_0 HX133_0 hf54_0 hf54_1 hx133_0 hx54_0 hx54_1 hHeld ⊢
          refine sP 0 92 HT_ rfl rfl ?_
          refine sP 1 93 HT_ rfl rfl ?_
          refine sP 2 94 HT_ rfl rfl ?_
          refine sP 4 96 HT_ rfl rfl ?_
          refine sP 5 97 HT_ rfl rfl ?_
          refine sP 7 99 HT_ rfl rfl ?_
          refine sT 3 95 HT_ HW_ rfl rfl hHeld ?_
          refine sT 6 98 HT_ HW_ rfl rfl hHeld ?_
          refine sT 8 100 HT_ HW_ rfl rfl hHeld ?_
          refine sP 9 101 HT_ rfl rfl ?_
          refine sP 10 102 HT_ rfl rfl ?_
          refine sL 11 none HT_ rfl rfl (fun K hK => ?_)
          refine skip_ (w1 := ?_) (by rfl) rfl ?_ ?_
          rotate_left
          ·go_simp
           rfl
          refine hK.out _ _ ?_
          clear hK K
          refine sD HT_ ?_
          try go_wp2_with go_step3
          go_roundg k3
          case measure => have := HK1.out; have := HK2.out; have := HK3.out; omega
          case rel => exact ⟨(y136), (wrap64 (x22_2 + 1)), tU, H', ⟨by have := HK1.out; have := HK2.out; have := HK3.out; omega⟩, ⟨tR HQ66⟩, ⟨by (with_reducible repeat (first | apply Kd.R_alloc | apply Kd.R_drewN | apply Kd.R_drew)); exact Kd.R_mono (Kd.R_far (p := ⟨go54, (x7_3 : Int).toNat * 2 + 1, none⟩) (Kd.R_far (p := ⟨go54, (x7_3 : Int).toNat * 2, none⟩) (Kd.R_types HO_20.out GG54.out (by decide)) (fun _ hk => hk.2) (.int .i64 ((rd_T80 t105 x22_2).f1))) (fun _ hk => hk.2) (.int .i64 ((rd_T80 t105 x22_2).f2))) (fun _ hk => trivial)⟩, ⟨by (with_reducible repeat (first | refine blk_drewN ?_ _ | refine blk_drew ?_ | refine blk_alloc ?_ _)); refine blk_far ?_ (by have h_ := Kd.R_ne HL133_0.out BK101.out (by decide); intro e_; exact h_ (by rw [e_]; rfl)) _; (with_reducible repeat (first | refine blk_drewN ?_ _ | refine blk_drew ?_ | refine blk_alloc ?_ _)); refine blk_far ?_ (by have h_ := Kd.R_ne HL133_0.out BK101.out (by decide); intro e_; exact h_ (by rw [e_]; rfl)) _; (with_reducible repeat (first | refine blk_drewN ?_ _ | refine blk_drew ?_ | refine blk_alloc ?_ _)); exact BK101.out⟩, ⟨by repeat (first | (with_reducible first | exact HB.out | apply below_alloc | apply pw_below_drewN | apply below_drew1 | refine below_set ?_ GB54.out | refine below_set ?_ GB54.out | refine below_set ?_ GE101.out | refine below_set ?_ GE109.out) | exact HB.out)⟩⟩
       rw [if_neg c14] at H
       have c14b0 := decide_eq_false c14
       clear c14
       have H' := Aside0.mk H
       clear H
       go_wp2_with go_step3
       go_roundg k2
       case measure => have := HK1.out; have := HK2.out; omega
       case rel => exact ⟨(x3_2), (wrap64 (x15_1 + 1)), tU, H', ⟨by have := HK1.out; have := HK2.out; omega⟩, ⟨tR HO_3⟩, ⟨tK BK101⟩, ⟨tB⟩⟩
    rw [if_neg c9] at H
    have c9b0 := decide_eq_false c9
    clear c9
    obtain rfl := Option.some.inj H
    go_wp2_with go_step3
    ((try rw [Exit.noGoto_ret]); go_ret)
    exact ⟨_, tE, by (with_reducible repeat (first | apply Kd.S_alloc | apply Kd.S_drewN | apply Kd.S_drew)); exact HO_3.out, tB⟩
 rw [if_neg c2] at H
 exact absurd H (by simp)
def r14_Sound.f (l0_0 : List (List Int)) (l0_1 : List (S80)) (a0_2 : Bool) (a1_0 : Int) (a1_1 : Int) (a1_2 : Int) : Option (Bool) := if a1_0 ≥ 0 then (if a1_0 < (l0_0.length : Int) then (if a1_2 ≥ 0 then (some (decide (a1_2 < (l0_0.length : Int)))) else (some false)) else (some false)) else (some false)
mutual
def r16_Moves.l0 : Nat → Int → List (S80) → Int → List (List Int) → List (S80) → Bool → Option ((List (S80)))
 | 0, _, _, _, _, _, _ => none
 | k + 1, x1, x5, x6, x102000, x102001, x102002 => if x6 < (x102001.length : Int) then (if 0 ≤ x6 then ((r14_Sound.f x102000 x102001 x102002 ((rd_T80 x102001 x6).f0) ((rd_T80 x102001 x6).f1) ((rd_T80 x102001 x6).f2)).bind fun t104 => (if t104 = true then (r16_Moves.j1 k x1 x5 x6 (((rd_T80 x102001 x6).f0) == x1) x102000 x102001 x102002 ((rd_T80 x102001 x6).f0) ((rd_T80 x102001 x6).f1) ((rd_T80 x102001 x6).f2)) else (r16_Moves.j1 k x1 x5 x6 false x102000 x102001 x102002 ((rd_T80 x102001 x6).f0) ((rd_T80 x102001 x6).f1) ((rd_T80 x102001 x6).f2)))) else (none)) else (some x5)
def r16_Moves.j1 : Nat → Int → List (S80) → Int → Bool → List (List Int) → List (S80) → Bool → Int → Int → Int → Option ((List (S80)))
 | 0, _, _, _, _, _, _, _, _, _, _ => none
 | k + 1, x1, x5, x6, x8, x102000, x102001, x102002, x104000, x104001, x104002 => r16_Moves.l1 k x1 x5 x6 x8 0 x102000 x102001 x102002 x104000 x104001 x104002
def r16_Moves.l1 : Nat → Int → List (S80) → Int → Bool → Int → List (List Int) → List (S80) → Bool → Int → Int → Int → Option ((List (S80)))
 | 0, _, _, _, _, _, _, _, _, _, _, _ => none
 | k + 1, x1, x5, x6, x8, x9, x102000, x102001, x102002, x104000, x104001, x104002 => if x9 < (x5.length : Int) then (if x8 = true then (if 0 ≤ x9 then (r16_Moves.l1 k x1 x5 x6 (((rd_T80 x5 x9).f1) != x104001) (wrap64 (x9 + 1)) x102000 x102001 x102002 x104000 x104001 x104002) else (none)) else (r16_Moves.l1 k x1 x5 x6 false (wrap64 (x9 + 1)) x102000 x102001 x102002 x104000 x104001 x104002)) else (if x8 = true then (r16_Moves.l2 k x1 x5 x6 ([] : List (S80)) false 0 x102000 x102001 x102002 x104000 x104001 x104002) else (r16_Moves.l0 k x1 x5 (wrap64 (x6 + 1)) x102000 x102001 x102002))
def r16_Moves.l2 : Nat → Int → List (S80) → Int → List (S80) → Bool → Int → List (List Int) → List (S80) → Bool → Int → Int → Int → Option ((List (S80)))
 | 0, _, _, _, _, _, _, _, _, _, _, _, _ => none
 | k + 1, x1, x5, x6, x10, x11, x12, x102000, x102001, x102002, x104000, x104001, x104002 => if x12 < (x5.length : Int) then (if x11 = true then (if 0 ≤ x12 then (if x10.length < 5864062014805 then (r16_Moves.l2 k x1 x5 x6 (x10 ++ [(⟨(rd_T80 x5 x12).f0, (rd_T80 x5 x12).f1, (rd_T80 x5 x12).f2⟩ : S80)]) x11 (wrap64 (x12 + 1)) x102000 x102001 x102002 x104000 x104001 x104002) else (none)) else (none)) else (if 0 ≤ x12 then (if ((rd_T80 x5 x12).f1) > x104001 then (if x10.length < 5864062014805 then ((some (x10 ++ [(⟨x104000, x104001, x104002⟩ : S80)] : List (S80))).bind fun y111 => (if y111.length < 5864062014805 then (r16_Moves.l2 k x1 x5 x6 (y111 ++ [(⟨(rd_T80 x5 x12).f0, (rd_T80 x5 x12).f1, (rd_T80 x5 x12).f2⟩ : S80)]) true (wrap64 (x12 + 1)) x102000 x102001 x102002 x104000 x104001 x104002) else (none))) else (none)) else (if x10.length < 5864062014805 then (r16_Moves.l2 k x1 x5 x6 (x10 ++ [(⟨(rd_T80 x5 x12).f0, (rd_T80 x5 x12).f1, (rd_T80 x5 x12).f2⟩ : S80)]) x11 (wrap64 (x12 + 1)) x102000 x102001 x102002 x104000 x104001 x104002) else (none))) else (none))) else (if x11 = true then (r16_Moves.l0 k x1 x10 (wrap64 (x6 + 1)) x102000 x102001 x102002) else (if x10.length < 5864062014805 then (r16_Moves.l0 k x1 (x10 ++ [(⟨x104000, x104001, x104002⟩ : S80)]) (wrap64 (x6 + 1)) x102000 x102001 x102002) else (none)))
end
def r16_Moves.f (k : Nat) (l0_0 : List (List Int)) (l0_1 : List (S80)) (a0_2 : Bool) (a1 : Int) : Option ((List (S80))) := r16_Moves.l0 k a1 ([] : List (S80)) 0 l0_0 l0_1 a0_2
def r16_Table.l0 : Nat → List (List (S80)) → Int → List (List Int) → List (S80) → Bool → Option ((List (List (S80))))
 | 0, _, _, _, _, _ => none
 | k + 1, x3, x4, x102000, x102001, x102002 => if x4 < (x102000.length : Int) then ((r16_Moves.f k x102000 x102001 x102002 x4).bind fun t102 => (if x3.length < 5864062014805 then (r16_Table.l0 k (x3 ++ [t102]) (wrap64 (x4 + 1)) x102000 x102001 x102002) else (none))) else (some x3)
def r16_Table.f (k : Nat) (l0_0 : List (List Int)) (l0_1 : List (S80)) (a0_2 : Bool) : Option ((List (List (S80)))) := r16_Table.l0 k ([] : List (List (S80))) 0 l0_0 l0_1 a0_2
end Go.Proofs.Ytfnjbgggmddgpaa.Q
end
section
set_option linter.unusedVariables false
set_option linter.unusedSimpArgs false
namespace Go.Proofs.Ytfnjbgggmddgpaa.Q
open Go.RowKit Go.Proofs.Fn Go.Proofs.YtfnjbgggmddgpaaW.PrintWords Go.Proofs.Gr
def cnt (n : Nat) (s : Int) (e : S80) : Bool := decide (0 ≤ e.f0 ∧ e.f0 < (n : Int) ∧ 0 ≤ e.f2 ∧ e.f2 < (n : Int)) && decide (e.f0 = s)
def insE (e : S80) : List S80 → List S80
  | [] => [e]
  | p :: l => if p.f1 < e.f1 then p :: insE e l else if p.f1 = e.f1 then p :: l else e :: p :: l
def row (n : Nat) (es : List S80) (s : Int) : List S80 := (es.filter (cnt n s)).foldl (fun l e => insE e l) []
def tab (n : Nat) (es : List S80) : List (List S80) := (List.range n).map (fun (s : Nat) => row n es (s : Int))
def pr (e : S80) : S66 := ⟨e.f1, e.f2⟩
theorem rd80 {es : List S80} {j : Nat} (h : j < es.length) : rd_T80 es (j : Int) = es[j] := by simp [rd_T80, h]
theorem drop80 {es : List S80} {j : Nat} (h : j < es.length) : es.drop j = rd_T80 es (j : Int) :: es.drop (j + 1) := by
  rw [rd80 h]; exact List.drop_eq_getElem_cons h
theorem exists_eq (st : List (List Int)) (es : List S80) (b : Bool) (a c d : Int) : explore_exists.f st es b a c d = some (decide (0 ≤ a ∧ a < (st.length : Int) ∧ 0 ≤ d ∧ d < (st.length : Int))) := by
  unfold explore_exists.f
  have key : ∀ x y : Bool, (x = true ↔ y = true) → some x = some y := fun x y h => congrArg some (Bool.eq_iff_iff.2 h)
  split
  · split
    · split
      · refine key _ _ ?_; simp only [decide_eq_true_eq]; omega
      · refine key _ _ ?_; simp only [decide_eq_true_eq, Bool.false_eq_true, false_iff]; omega
    · refine key _ _ ?_; simp only [decide_eq_true_eq, Bool.false_eq_true, false_iff]; omega
  · refine key _ _ ?_; simp only [decide_eq_true_eq, Bool.false_eq_true, false_iff]; omega
theorem sound_eq (st : List (List Int)) (es : List S80) (b : Bool) (a c d : Int) : r14_Sound.f st es b a c d = some (decide (0 ≤ a ∧ a < (st.length : Int) ∧ 0 ≤ d ∧ d < (st.length : Int))) := exists_eq st es b a c d
theorem next_l0 (st : List (List Int)) (es : List S80) (b : Bool) (a : Int) (hes : es.length ≤ 1000000) : ∀ (m j : Nat) (acc : List S80), j + m = es.length → acc.length ≤ j → Evn (fun k => explore_Next.l0 k a acc es (es.length : Int) (j : Int) st es b) (acc ++ (es.drop j).filter (cnt st.length a)) := by
  intro m
  induction m with
  | zero =>
    intro j acc hj ha
    refine Evn.succ ?_
    simp only [explore_Next.l0]
    (first | refine Evn.pos (by first | assumption | omega | (simp; done) | (simp; omega)) ?_ | refine Evn.neg (by first | assumption | omega | (simp; done) | (simp; omega)) ?_)
    rw [List.drop_of_length_le (by omega)]
    simpa using Evn.const _
  | succ m ih =>
    intro j acc hj ha
    refine Evn.succ ?_
    simp only [explore_Next.l0, exists_eq, Option.bind_some, wrap_succ (show j < 9223372036854775807 by omega)]
    (first | refine Evn.pos (by first | assumption | omega | (simp; done) | (simp; omega)) ?_ | refine Evn.neg (by first | assumption | omega | (simp; done) | (simp; omega)) ?_); (first | refine Evn.pos (by first | assumption | omega | (simp; done) | (simp; omega)) ?_ | refine Evn.neg (by first | assumption | omega | (simp; done) | (simp; omega)) ?_); (first | refine Evn.pos (by first | assumption | omega | (simp; done) | (simp; omega)) ?_ | refine Evn.neg (by first | assumption | omega | (simp; done) | (simp; omega)) ?_)
    rw [drop80 (show j < es.length by omega)]
    generalize rd_T80 es (j : Int) = e
    by_cases c : e.f0 = a
    · refine Evn.pos c ?_
      by_cases c2 : 0 ≤ e.f0 ∧ e.f0 < (st.length : Int) ∧ 0 ≤ e.f2 ∧ e.f2 < (st.length : Int)
      · refine Evn.pos (by simpa using c2) ?_
        (first | refine Evn.pos (by first | assumption | omega | (simp; done) | (simp; omega)) ?_ | refine Evn.neg (by first | assumption | omega | (simp; done) | (simp; omega)) ?_)
        have := ih (j + 1) (acc ++ [e]) (by omega) (by simp; omega)
        have e1 : cnt st.length a e = true := by simp [cnt, c]; simp [c] at c2; omega
        rw [List.filter_cons_of_pos e1]
        simpa using this
      · refine Evn.neg (by simpa using c2) ?_
        have := ih (j + 1) acc (by omega) (by omega)
        rw [List.filter_cons_of_neg (by simp [cnt]; intro h1 h2 h3 h4; exact absurd ⟨h1, h2, h3, h4⟩ c2)]
        exact this
    · refine Evn.neg c ?_
      have := ih (j + 1) acc (by omega) (by omega)
      rw [List.filter_cons_of_neg (by simp [cnt, c])]
      exact this
theorem next_ev (st : List (List Int)) (es : List S80) (b : Bool) (a : Int) (hes : es.length ≤ 1000000) : Evn (fun k => explore_Next.f k st es b a) (es.filter (cnt st.length a)) := by
  have := next_l0 st es b a hes es.length 0 [] (by omega) (by simp)
  simpa [explore_Next.f] using this
def insS (e : S66) : List S66 → List S66
  | [] => [e]
  | p :: l => if p.f0 < e.f0 then p :: insS e l else if p.f0 = e.f0 then p :: l else e :: p :: l
theorem insS_pr (e : S80) (l : List S80) : (insE e l).map pr = insS (pr e) (l.map pr) := by
  induction l with
  | nil => rfl
  | cons p l ih =>
    simp only [insE, List.map_cons, insS]
    show _ = if p.f1 < e.f1 then _ else if p.f1 = e.f1 then _ else _
    split
    · rw [List.map_cons, ih]
    · split <;> simp
theorem insS_len (e : S66) (l : List S66) : (insS e l).length ≤ l.length + 1 := by
  induction l with
  | nil => simp [insS]
  | cons p l ih => simp only [insS]; repeat' split
                   all_goals simp <;> omega
theorem shift_set {α : Type} (l : List α) (i : Nat) (z x : α) (h : i ≤ l.length) : (shiftUp (l ++ [z]) i).set i x = l.take i ++ x :: l.drop i := by
  unfold shiftUp
  apply List.ext_getElem?
  intro j
  rw [List.getElem?_set]
  simp only [List.getElem?_append, List.getElem?_take, List.getElem?_drop, List.length_append, List.length_take, List.length_singleton, List.length_cons, List.length_nil, List.getElem?_cons]
  grind
theorem rd66 {l : List S66} {j : Nat} (h : j < l.length) : rd_T66 l (j : Int) = l[j] := by simp [rd_T66, h]
theorem rdL66 {x : List (List S66)} {s : Nat} : rd_L66 x (s : Int) = x.getD s [] := by simp [rd_L66]
theorem steps_l2 (st : List (List Int)) (es : List S80) (b : Bool) (lst : List S80) (r : List (List S66)) (n s : Nat) (q : Int) (e : S80) (hs : s < n) :
    ∀ (suf pre : List S66) (x : List (List S66)), x.length = n → x.getD s [] = pre ++ suf → (∀ p ∈ pre, p.f0 < e.f1) → (pre ++ suf).length ≤ 1000000 →
    Evn (fun k => witness_steps.l1 k (x.set s (pre ++ insS (pr e) suf)) s n s lst (lst.length : Int) (wrap64 (q + 1)) st es b) r →
    Evn (fun k => witness_steps.l2 k x s (pre.length : Int) n s lst (lst.length : Int) q st es b e.f0 e.f1 e.f2) r := by
  intro suf
  induction suf with
  | nil =>
    intro pre x hx hg hp hl hr
    rw [List.append_nil] at hg hl
    have e0 : ∀ (l : List S66), (x.set s l).getD s [] = l := fun z => by simp [hx, hs]
    have e1 : ∀ (z : S66), (shiftUp (pre ++ [z]) pre.length).length = pre.length + 1 := fun z => by simp [shiftUp]
    refine Evn.succ ?_
    simp only [witness_steps.l2, rdL66, hg, Option.bind_some, Int.toNat_natCast, shiftAt_, e0, List.length_set, List.set_set, hx, e1, shift_set _ _ _ _ (Nat.le_refl _), List.take_length, List.drop_length, List.length_append, List.length_singleton]
    iterate 7 (first | refine Evn.pos (by first | assumption | omega | (simp; done) | (simp; omega)) ?_ | refine Evn.neg (by first | assumption | omega | (simp; done) | (simp; omega)) ?_)
    exact hr
  | cons p suf ih =>
    intro pre x hx hg hp hl hr
    have e0 : ∀ (l : List S66), (x.set s l).getD s [] = l := fun z => by simp [hx, hs]
    have e1 : ∀ (z : S66), (shiftUp (pre ++ p :: suf ++ [z]) pre.length).length = (pre ++ p :: suf).length + 1 := fun z => by simp [shiftUp]; omega
    have ep : rd_T66 (pre ++ p :: suf) (pre.length : Int) = p := by rw [rd66 (by simp)]; simp
    have hl2 : (pre ++ p :: suf).length = pre.length + (suf.length + 1) := by simp
    have et : (pre ++ p :: suf).take pre.length = pre := by simp
    have ed : (pre ++ p :: suf).drop pre.length = p :: suf := by simp
    refine Evn.succ ?_
    simp only [witness_steps.l2, rdL66, hg, ep, Option.bind_some, Int.toNat_natCast, shiftAt_, e0, List.length_set, List.set_set, hx, e1, shift_set (pre ++ p :: suf) pre.length _ _ (by simp), et, ed, wrap_succ (show pre.length < 9223372036854775807 by omega)]
    rw [hl2] at hl
    iterate 4 (first | refine Evn.pos (by first | assumption | omega | (simp; done) | (simp; omega)) ?_ | refine Evn.neg (by first | assumption | omega | (simp; done) | (simp; omega)) ?_)
    by_cases c : p.f0 < e.f1
    · refine Evn.pos c ?_
      have := ih (pre ++ [p]) x hx (by rw [List.append_assoc]; exact hg) (by intro q hq; rcases List.mem_append.1 hq with hq | hq; exact hp q hq; rw [List.mem_singleton.1 hq]; exact c) (by simp; omega) (by
        rw [List.append_assoc]
        have e2 : insS (pr e) (p :: suf) = p :: insS (pr e) suf := by simp only [insS]; rw [if_pos (show p.f0 < (pr e).f0 from c)]
        rw [e2] at hr
        exact hr)
      simpa using this
    · refine Evn.neg c ?_
      by_cases c2 : p.f0 = e.f1
      · refine Evn.pos c2 ?_
        have e2 : insS (pr e) (p :: suf) = p :: suf := by simp only [insS]; rw [if_neg (show ¬ p.f0 < (pr e).f0 from c), if_pos (show p.f0 = (pr e).f0 from c2)]
        have e3 : x.set s (pre ++ p :: suf) = x := by
          apply List.ext_getElem?
          intro i
          rw [List.getElem?_set]
          have : s < x.length := by omega
          rw [List.getD_eq_getElem?_getD] at hg
          grind
        rw [e2, e3] at hr
        exact hr
      · refine Evn.neg c2 ?_
        have e2 : insS (pr e) (p :: suf) = pr e :: p :: suf := by simp only [insS]; rw [if_neg (show ¬ p.f0 < (pr e).f0 from c), if_neg (show ¬ p.f0 = (pr e).f0 from c2)]
        rw [e2] at hr
        iterate 3 (first | refine Evn.pos (by first | assumption | omega | (simp; done) | (simp; omega)) ?_ | refine Evn.neg (by first | assumption | omega | (simp; done) | (simp; omega)) ?_)
        exact hr
theorem steps_l1 (st : List (List Int)) (es : List S80) (b : Bool) (lst : List S80) (r : List (List S66)) (n s : Nat) (hs : s < n) (hl : lst.length ≤ 1000000) :
    ∀ (m q : Nat) (x : List (List S66)), q + m = lst.length → x.length = n → (x.getD s []).length ≤ q →
    Evn (fun k => witness_steps.l0 k (x.set s ((lst.drop q).foldl (fun l e => insS (pr e) l) (x.getD s []))) n (wrap64 ((s : Int) + 1)) st es b) r →
    Evn (fun k => witness_steps.l1 k x s n s lst (lst.length : Int) (q : Int) st es b) r := by
  intro m
  induction m with
  | zero =>
    intro q x hq hx hg hr
    refine Evn.succ ?_
    simp only [witness_steps.l1]
    (first | refine Evn.pos (by first | assumption | omega | (simp; done) | (simp; omega)) ?_ | refine Evn.neg (by first | assumption | omega | (simp; done) | (simp; omega)) ?_)
    rw [List.drop_of_length_le (by omega)] at hr
    have e3 : x.set s (x.getD s []) = x := by
      apply List.ext_getElem?
      intro i
      rw [List.getElem?_set]
      grind
    simpa only [List.foldl_nil, e3] using hr
  | succ m ih =>
    intro q x hq hx hg hr
    refine Evn.succ ?_
    simp only [witness_steps.l1]
    iterate 3 (first | refine Evn.pos (by first | assumption | omega | (simp; done) | (simp; omega)) ?_ | refine Evn.neg (by first | assumption | omega | (simp; done) | (simp; omega)) ?_)
    rw [drop80 (show q < lst.length by omega)] at hr
    revert hr
    generalize rd_T80 lst (q : Int) = e
    intro hr
    have := steps_l2 st es b lst r n s (q : Int) e hs (x.getD s []) [] x hx rfl (by simp) (by simp only [List.nil_append]; omega)
    refine this ?_
    rw [wrap_succ (by omega), List.nil_append]
    have e0 : (x.set s (insS (pr e) (x.getD s []))).getD s [] = insS (pr e) (x.getD s []) := by simp [hx, hs]
    refine ih (q + 1) _ (by omega) (by simpa using hx) (by rw [e0]; have := insS_len (pr e) (x.getD s []); omega) ?_
    rw [e0, List.set_set]
    exact hr
theorem fold_pr (l : List S80) : ∀ a : List S80, (l.foldl (fun l e => insE e l) a).map pr = l.foldl (fun l e => insS (pr e) l) (a.map pr) := by
  induction l with
  | nil => intro a; rfl
  | cons e l ih => intro a; simp only [List.foldl_cons]; rw [ih, insS_pr]
theorem steps_l0 (st : List (List Int)) (es : List S80) (b : Bool) (hn : st.length ≤ 1000000) (he : es.length ≤ 1000000) :
    ∀ (m s : Nat), s + m = st.length → Evn (fun k => witness_steps.l0 k ((List.range s).map (fun (i : Nat) => (row st.length es (i : Int)).map pr) ++ List.replicate m []) (st.length : Int) (s : Int) st es b) ((tab st.length es).map (List.map pr)) := by
  intro m
  induction m with
  | zero =>
    intro s hs
    refine Evn.succ ?_
    simp only [witness_steps.l0]
    (first | refine Evn.pos (by first | assumption | omega | (simp; done) | (simp; omega)) ?_ | refine Evn.neg (by first | assumption | omega | (simp; done) | (simp; omega)) ?_)
    obtain rfl : s = st.length := by omega
    simpa [tab, Function.comp_def] using Evn.const _
  | succ m ih =>
    intro s hs
    refine Evn.succ ?_
    simp only [witness_steps.l0]
    (first | refine Evn.pos (by first | assumption | omega | (simp; done) | (simp; omega)) ?_ | refine Evn.neg (by first | assumption | omega | (simp; done) | (simp; omega)) ?_)
    refine Evn.bind (next_ev st es b (s : Int) he) ?_
    have hg : ((List.range s).map (fun (i : Nat) => (row st.length es (i : Int)).map pr) ++ List.replicate (m + 1) []).getD s [] = ([] : List S66) := by simp [List.getElem?_append_right]
    have hlen : (es.filter (cnt st.length (s : Int))).length ≤ 1000000 := Nat.le_trans (List.length_filter_le _ _) he
    refine steps_l1 st es b _ _ st.length s (by omega) hlen _ 0 _ (by rw [Nat.zero_add]) (by simp; omega) (by rw [hg]; simp) ?_
    rw [wrap_succ (by omega), hg, List.drop_zero]
    have e1 : (es.filter (cnt st.length (s : Int))).foldl (fun l e => insS (pr e) l) [] = (row st.length es (s : Int)).map pr := by
      unfold row; rw [fold_pr]; rfl
    rw [e1]
    have e2 : ((List.range s).map (fun (i : Nat) => (row st.length es (i : Int)).map pr) ++ List.replicate (m + 1) []).set s ((row st.length es (s : Int)).map pr) = (List.range (s + 1)).map (fun (i : Nat) => (row st.length es (i : Int)).map pr) ++ List.replicate m [] := by
      rw [List.set_append_right _ _ (by simp)]
      simp [List.replicate_succ, List.range_succ]
    rw [e2]
    exact ih (s + 1) (by omega)
theorem steps_ev (st : List (List Int)) (es : List S80) (b : Bool) (hn : st.length ≤ 1000000) (he : es.length ≤ 1000000) : Evn (fun k => witness_steps.f k st es b) ((tab st.length es).map (List.map pr)) := by
  unfold witness_steps.f
  (first | refine Evn.pos (by first | assumption | omega | (simp; done) | (simp; omega)) ?_ | refine Evn.neg (by first | assumption | omega | (simp; done) | (simp; omega)) ?_); (first | refine Evn.pos (by first | assumption | omega | (simp; done) | (simp; omega)) ?_ | refine Evn.neg (by first | assumption | omega | (simp; done) | (simp; omega)) ?_)
  have := steps_l0 st es b hn he st.length 0 (by omega)
  simpa using this
theorem insE_len (e : S80) (l : List S80) : (insE e l).length ≤ l.length + 1 := by
  induction l with
  | nil => simp [insE]
  | cons p l ih => simp only [insE]; repeat' split
                   all_goals simp <;> omega
theorem mem_insE {e q : S80} {l : List S80} (h : q ∈ insE e l) : q = e ∨ q ∈ l := by
  induction l with
  | nil => simp only [insE, List.mem_singleton] at h; exact .inl h
  | cons p l ih =>
    simp only [insE] at h
    split at h
    · rcases List.mem_cons.1 h with h | h
      · exact .inr (by simp [h])
      · rcases ih h with h | h
        · exact .inl h
        · exact .inr (List.mem_cons_of_mem _ h)
    · split at h
      · exact .inr h
      · rcases List.mem_cons.1 h with h | h
        · exact .inl h
        · exact .inr h
theorem insE_sorted {e : S80} {l : List S80} (h : l.Pairwise (fun a b => a.f1 < b.f1)) : (insE e l).Pairwise (fun a b => a.f1 < b.f1) := by
  induction l with
  | nil => simp [insE]
  | cons p l ih =>
    rw [List.pairwise_cons] at h
    simp only [insE]
    split
    · rename_i c
      rw [List.pairwise_cons]
      refine ⟨fun q hq => ?_, ih h.2⟩
      rcases mem_insE hq with rfl | hq
      · exact c
      · exact h.1 q hq
    · split
      · rw [List.pairwise_cons]; exact h
      · rename_i c c2
        rw [List.pairwise_cons, List.pairwise_cons]
        refine ⟨fun q hq => ?_, h⟩
        rcases List.mem_cons.1 hq with rfl | hq
        · omega
        · have := h.1 q hq; omega
theorem insE_old {e : S80} {l : List S80} (h : l.Pairwise (fun a b => a.f1 < b.f1)) (hm : ∃ p ∈ l, p.f1 = e.f1) : insE e l = l := by
  induction l with
  | nil => obtain ⟨p, hp, _⟩ := hm; cases hp
  | cons p l ih =>
    rw [List.pairwise_cons] at h
    simp only [insE]
    split
    · rename_i c
      rw [ih h.2]
      obtain ⟨q, hq, e1⟩ := hm
      rcases List.mem_cons.1 hq with rfl | hq
      · omega
      · exact ⟨q, hq, e1⟩
    · rename_i c
      obtain ⟨q, hq, e1⟩ := hm
      rcases List.mem_cons.1 hq with rfl | hq
      · rw [if_pos e1]
      · have := h.1 q hq; omega
theorem moves_l1 (st : List (List Int)) (es : List S80) (b : Bool) (x1 x6 : Int) (x5 : List S80) (e : S80) (r : List S80) (h5 : x5.length ≤ 1000000) :
    ∀ (m j : Nat) (f : Bool), j + m = x5.length →
    ((f && (x5.drop j).all (fun p => p.f1 != e.f1)) = true → Evn (fun k => r16_Moves.l2 k x1 x5 x6 [] false 0 st es b e.f0 e.f1 e.f2) r) →
    ((f && (x5.drop j).all (fun p => p.f1 != e.f1)) = false → Evn (fun k => r16_Moves.l0 k x1 x5 (wrap64 (x6 + 1)) st es b) r) →
    Evn (fun k => r16_Moves.l1 k x1 x5 x6 f (j : Int) st es b e.f0 e.f1 e.f2) r := by
  intro m
  induction m with
  | zero =>
    intro j f hj h1 h2
    rw [List.drop_of_length_le (by omega)] at h1 h2
    refine Evn.succ ?_
    simp only [r16_Moves.l1]
    (first | refine Evn.pos (by first | assumption | omega | (simp; done) | (simp; omega)) ?_ | refine Evn.neg (by first | assumption | omega | (simp; done) | (simp; omega)) ?_)
    cases f with
    | true => refine Evn.pos rfl ?_; exact h1 (by simp)
    | false => refine Evn.neg (by simp) ?_; exact h2 (by simp)
  | succ m ih =>
    intro j f hj h1 h2
    rw [drop80 (show j < x5.length by omega)] at h1 h2
    refine Evn.succ ?_
    simp only [r16_Moves.l1, wrap_succ (show j < 9223372036854775807 by omega)]
    (first | refine Evn.pos (by first | assumption | omega | (simp; done) | (simp; omega)) ?_ | refine Evn.neg (by first | assumption | omega | (simp; done) | (simp; omega)) ?_)
    cases f with
    | true =>
      refine Evn.pos rfl ?_
      (first | refine Evn.pos (by first | assumption | omega | (simp; done) | (simp; omega)) ?_ | refine Evn.neg (by first | assumption | omega | (simp; done) | (simp; omega)) ?_)
      exact ih (j + 1) _ (by omega) (by simpa using h1) (by simpa using h2)
    | false =>
      refine Evn.neg (by simp) ?_
      exact ih (j + 1) _ (by omega) (by simp) (by simpa using h2)
theorem moves_l2t (st : List (List Int)) (es : List S80) (b : Bool) (x1 x6 : Int) (x5 : List S80) (e : S80) (r : List S80) (h5 : x5.length ≤ 1000000) :
    ∀ (m j : Nat) (x10 : List S80), j + m = x5.length → x10.length ≤ j + 1 →
    Evn (fun k => r16_Moves.l0 k x1 (x10 ++ x5.drop j) (wrap64 (x6 + 1)) st es b) r →
    Evn (fun k => r16_Moves.l2 k x1 x5 x6 x10 true (j : Int) st es b e.f0 e.f1 e.f2) r := by
  intro m
  induction m with
  | zero =>
    intro j x10 hj hl hr
    rw [List.drop_of_length_le (by omega), List.append_nil] at hr
    refine Evn.succ ?_
    simp only [r16_Moves.l2]
    (first | refine Evn.pos (by first | assumption | omega | (simp; done) | (simp; omega)) ?_ | refine Evn.neg (by first | assumption | omega | (simp; done) | (simp; omega)) ?_)
    refine Evn.pos (by simp) hr
  | succ m ih =>
    intro j x10 hj hl hr
    rw [drop80 (show j < x5.length by omega)] at hr
    refine Evn.succ ?_
    simp only [r16_Moves.l2, wrap_succ (show j < 9223372036854775807 by omega)]
    (first | refine Evn.pos (by first | assumption | omega | (simp; done) | (simp; omega)) ?_ | refine Evn.neg (by first | assumption | omega | (simp; done) | (simp; omega)) ?_)
    refine Evn.pos (by simp) ?_
    iterate 2 (first | refine Evn.pos (by first | assumption | omega | (simp; done) | (simp; omega)) ?_ | refine Evn.neg (by first | assumption | omega | (simp; done) | (simp; omega)) ?_)
    refine ih (j + 1) _ (by omega) (by simp; omega) ?_
    rw [List.append_assoc]
    exact hr
theorem moves_l2f (st : List (List Int)) (es : List S80) (b : Bool) (x1 x6 : Int) (x5 : List S80) (e : S80) (r : List S80) (h5 : x5.length ≤ 1000000) :
    ∀ (m j : Nat) (x10 : List S80), j + m = x5.length → x10.length ≤ j → (∀ p ∈ x5.drop j, p.f1 ≠ e.f1) →
    Evn (fun k => r16_Moves.l0 k x1 (x10 ++ insE e (x5.drop j)) (wrap64 (x6 + 1)) st es b) r →
    Evn (fun k => r16_Moves.l2 k x1 x5 x6 x10 false (j : Int) st es b e.f0 e.f1 e.f2) r := by
  intro m
  induction m with
  | zero =>
    intro j x10 hj hl hp hr
    rw [List.drop_of_length_le (by omega)] at hr
    refine Evn.succ ?_
    simp only [r16_Moves.l2]
    (first | refine Evn.pos (by first | assumption | omega | (simp; done) | (simp; omega)) ?_ | refine Evn.neg (by first | assumption | omega | (simp; done) | (simp; omega)) ?_)
    refine Evn.neg (by simp) ?_
    (first | refine Evn.pos (by first | assumption | omega | (simp; done) | (simp; omega)) ?_ | refine Evn.neg (by first | assumption | omega | (simp; done) | (simp; omega)) ?_)
    exact hr
  | succ m ih =>
    intro j x10 hj hl hp hr
    rw [drop80 (show j < x5.length by omega)] at hr hp
    refine Evn.succ ?_
    simp only [r16_Moves.l2, Option.bind_some, wrap_succ (show j < 9223372036854775807 by omega)]
    (first | refine Evn.pos (by first | assumption | omega | (simp; done) | (simp; omega)) ?_ | refine Evn.neg (by first | assumption | omega | (simp; done) | (simp; omega)) ?_)
    refine Evn.neg (by simp) ?_
    (first | refine Evn.pos (by first | assumption | omega | (simp; done) | (simp; omega)) ?_ | refine Evn.neg (by first | assumption | omega | (simp; done) | (simp; omega)) ?_)
    have hp0 := hp _ List.mem_cons_self
    have hp1 := fun q hq => hp q (List.mem_cons_of_mem _ hq)
    revert hr hp0
    generalize hpp : rd_T80 x5 (j : Int) = p
    intro hr hp0
    simp only [insE] at hr
    by_cases c : p.f1 > e.f1
    · refine Evn.pos c ?_
      rw [if_neg (show ¬ p.f1 < e.f1 by omega), if_neg hp0] at hr
      (first | refine Evn.pos (by first | assumption | omega | (simp; done) | (simp; omega)) ?_ | refine Evn.neg (by first | assumption | omega | (simp; done) | (simp; omega)) ?_)
      refine Evn.pos (by simp; omega) ?_
      refine moves_l2t st es b x1 x6 x5 e r h5 m (j + 1) _ (by omega) (by simp; omega) ?_
      simp only [List.append_assoc, List.singleton_append, List.cons_append, List.nil_append]
      exact hr
    · refine Evn.neg c ?_
      rw [if_pos (show p.f1 < e.f1 by omega)] at hr
      (first | refine Evn.pos (by first | assumption | omega | (simp; done) | (simp; omega)) ?_ | refine Evn.neg (by first | assumption | omega | (simp; done) | (simp; omega)) ?_)
      refine ih (j + 1) _ (by omega) (by simp; omega) hp1 ?_
      rw [List.append_assoc]
      exact hr
theorem moves_l0 (st : List (List Int)) (es : List S80) (b : Bool) (s : Int) (he : es.length ≤ 1000000) :
    ∀ (m j : Nat) (x5 : List S80), j + m = es.length → x5.length ≤ j → x5.Pairwise (fun a b => a.f1 < b.f1) →
    Evn (fun k => r16_Moves.l0 k s x5 (j : Int) st es b) (((es.drop j).filter (cnt st.length s)).foldl (fun l e => insE e l) x5) := by
  intro m
  induction m with
  | zero =>
    intro j x5 hj hl hp
    rw [List.drop_of_length_le (by omega)]
    refine Evn.succ ?_
    simp only [r16_Moves.l0]
    (first | refine Evn.pos (by first | assumption | omega | (simp; done) | (simp; omega)) ?_ | refine Evn.neg (by first | assumption | omega | (simp; done) | (simp; omega)) ?_)
    exact Evn.const _
  | succ m ih =>
    intro j x5 hj hl hp
    rw [drop80 (show j < es.length by omega)]
    refine Evn.succ ?_
    simp only [r16_Moves.l0, sound_eq, Option.bind_some]
    iterate 2 (first | refine Evn.pos (by first | assumption | omega | (simp; done) | (simp; omega)) ?_ | refine Evn.neg (by first | assumption | omega | (simp; done) | (simp; omega)) ?_)
    generalize rd_T80 es (j : Int) = e
    have same : ∀ f : Bool, f = false → Evn (fun k => r16_Moves.j1 k s x5 (j : Int) f st es b e.f0 e.f1 e.f2) (((es.drop (j + 1)).filter (cnt st.length s)).foldl (fun l e => insE e l) x5) := by
      intro f hf
      refine Evn.succ ?_
      simp only [r16_Moves.j1]
      refine moves_l1 st es b s (j : Int) x5 e _ (by omega) x5.length 0 f (by omega) (by simp [hf]) (fun _ => ?_)
      rw [wrap_succ (by omega)]
      exact ih (j + 1) x5 (by omega) (by omega) hp
    by_cases c2 : 0 ≤ e.f0 ∧ e.f0 < (st.length : Int) ∧ 0 ≤ e.f2 ∧ e.f2 < (st.length : Int)
    · refine Evn.pos (by simpa using c2) ?_
      by_cases c : e.f0 = s
      · have e1 : cnt st.length s e = true := by simp [cnt, c]; simp [c] at c2; omega
        rw [List.filter_cons_of_pos e1, List.foldl_cons]
        refine Evn.succ ?_
        simp only [r16_Moves.j1]
        have hb : (e.f0 == s) = true := by simp [c]
        rw [hb]
        refine moves_l1 st es b s (j : Int) x5 e _ (by omega) x5.length 0 true (by omega) (fun h => ?_) (fun h => ?_)
        · refine moves_l2f st es b s (j : Int) x5 e _ (by omega) x5.length 0 [] (by omega) (by simp) (by simpa using h) ?_
          rw [wrap_succ (by omega), List.nil_append, List.drop_zero]
          exact ih (j + 1) _ (by omega) (by have := insE_len e x5; omega) (insE_sorted hp)
        · have : ∃ p ∈ x5, p.f1 = e.f1 := by simpa using h
          rw [insE_old hp this, wrap_succ (by omega)]
          exact ih (j + 1) x5 (by omega) (by omega) hp
      · rw [List.filter_cons_of_neg (by simp [cnt, c])]
        exact same _ (by simp [c])
    · refine Evn.neg (by simpa using c2) ?_
      rw [List.filter_cons_of_neg (by simp [cnt]; intro h1 h2 h3 h4; exact absurd ⟨h1, h2, h3, h4⟩ c2)]
      exact same _ rfl
theorem moves_ev (st : List (List Int)) (es : List S80) (b : Bool) (s : Int) (he : es.length ≤ 1000000) : Evn (fun k => r16_Moves.f k st es b s) (row st.length es s) := by
  have := moves_l0 st es b s he es.length 0 [] (by omega) (by simp) (by simp)
  simpa [r16_Moves.f, row] using this
theorem table_ev (st : List (List Int)) (es : List S80) (b : Bool) (hn : st.length ≤ 1000000) (he : es.length ≤ 1000000) : Evn (fun k => r16_Table.f k st es b) (tab st.length es) := by
  have key : ∀ (m s : Nat), s + m = st.length → Evn (fun k => r16_Table.l0 k ((List.range s).map (fun (i : Nat) => row st.length es (i : Int))) (s : Int) st es b) (tab st.length es) := by
    intro m
    induction m with
    | zero =>
      intro s hs
      refine Evn.succ ?_
      simp only [r16_Table.l0]
      (first | refine Evn.pos (by first | assumption | omega | (simp; done) | (simp; omega)) ?_ | refine Evn.neg (by first | assumption | omega | (simp; done) | (simp; omega)) ?_)
      obtain rfl : s = st.length := by omega
      exact Evn.const _
    | succ m ih =>
      intro s hs
      refine Evn.succ ?_
      simp only [r16_Table.l0]
      (first | refine Evn.pos (by first | assumption | omega | (simp; done) | (simp; omega)) ?_ | refine Evn.neg (by first | assumption | omega | (simp; done) | (simp; omega)) ?_)
      refine Evn.bind (moves_ev st es b (s : Int) he) ?_
      refine Evn.pos (by simp; omega) ?_
      rw [wrap_succ (by omega)]
      have := ih (s + 1) (by omega)
      rw [List.range_succ, List.map_append] at this
      exact this
  exact key st.length 0 (by omega)
end Go.Proofs.Ytfnjbgggmddgpaa.Q
end
