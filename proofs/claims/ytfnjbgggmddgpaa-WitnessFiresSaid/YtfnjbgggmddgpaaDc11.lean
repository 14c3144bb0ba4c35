/- Part 11 of a proof: Dc. Words and walks that a program printed for this claim stand here without what the claim does not use. -/
import Derived.Test.YtfnjbgggmddgpaaDc10
import Derived.Test.YtfnjbgggmddgpaaDc2
import Derived.Test.YtfnjbgggmddgpaaDc5
import Derived.Test.YtfnjbgggmddgpaaDc6
import Derived.Test.YtfnjbgggmddgpaaDc7
import Derived.Test.YtfnjbgggmddgpaaDc8
section
namespace Go.Proofs.Ytfnjbgggmddgpaa.Q
open Go.RowKit Go.Proofs.Fn Go.Proofs.YtfnjbgggmddgpaaW.PrintWords Go.Proofs.YtfnjbgggmddgpaaW.PrintLast Go.Proofs.YtfnjbgggmddgpaaW.PrintMore
attribute [local go_sem] max2_int min2_int max_two min_two max_three min_three max_four min_four
set_option linter.unusedVariables false
set_option linter.unusedSimpArgs false
mutual
def petrinetref16_Loop.j0 : Nat → Int → Bool → List (List Int) → List (S80) → Bool → Option (List Int × Bool)
 | 0, _, _, _, _, _ => none
 | k + 1, x1, x23, x102000, x102001, x102002 => if x23 = true then (some (([] : List Int), false)) else ((petrinetref16_Table.f k x102000 x102001 x102002).bind fun t102 => ((petrinetref16_single.f x102000 x102001 x102002 x1).bind fun t105 => ((petrinetref16_distances.f k t102 t105).bind fun t108 => (petrinetref16_Loop.l0 k x1 t102 t108 (-1) 0 x102000 x102001 x102002))))
def petrinetref16_Loop.l0 : Nat → Int → List (List (S80)) → List Int → Int → Int → List (List Int) → List (S80) → Bool → Option (List Int × Bool)
 | 0, _, _, _, _, _, _, _, _ => none
 | k + 1, x1, x6, x7, x8, x9, x102000, x102001, x102002 => if 0 ≤ x1 then (if x1 < (x6.length : Int) then (if x9 < ((rd_L80 x6 x1).length : Int) then (if 0 ≤ x9 then (if 0 ≤ ((rd_T80 (rd_L80 x6 x1) x9).f2) then (if ((rd_T80 (rd_L80 x6 x1) x9).f2) < (x7.length : Int) then (if (rd x7 ((rd_T80 (rd_L80 x6 x1) x9).f2)) ≥ 0 then (if x8 < 0 then (petrinetref16_Loop.l0 k x1 x6 x7 x9 (wrap64 (x9 + 1)) x102000 x102001 x102002) else (if 0 ≤ x8 then (if x8 < ((rd_L80 x6 x1).length : Int) then (if 0 ≤ ((rd_T80 (rd_L80 x6 x1) x8).f2) then (if ((rd_T80 (rd_L80 x6 x1) x8).f2) < (x7.length : Int) then (if (rd x7 ((rd_T80 (rd_L80 x6 x1) x9).f2)) < (rd x7 ((rd_T80 (rd_L80 x6 x1) x8).f2)) then (petrinetref16_Loop.l0 k x1 x6 x7 x9 (wrap64 (x9 + 1)) x102000 x102001 x102002) else (petrinetref16_Loop.l0 k x1 x6 x7 x8 (wrap64 (x9 + 1)) x102000 x102001 x102002)) else (none)) else (none)) else (none)) else (none))) else (petrinetref16_Loop.l0 k x1 x6 x7 x8 (wrap64 (x9 + 1)) x102000 x102001 x102002)) else (none)) else (none)) else (none)) else (if x8 < 0 then (some (([] : List Int), false)) else (if 0 ≤ x8 then (if x8 < ((rd_L80 x6 x1).length : Int) then ((petrinetref16_single.f x102000 x102001 x102002 x1).bind fun t121 => ((petrinetref16_follow.f k x6 ((rd_T80 (rd_L80 x6 x1) x8).f2) t121).bind fun bt124 => (petrinetref16_Loop.l1 k bt124.1 (([(rd_T80 (rd_L80 x6 x1) x8).f1] : List Int)) 0))) else (none)) else (none)))) else (none)) else (none)
def petrinetref16_Loop.l1 : Nat → List Int → List Int → Int → Option (List Int × Bool)
 | 0, _, _, _ => none
 | k + 1, x11, x13, x14 => if x14 < (x11.length : Int) then (if 0 ≤ x14 then (if x13.length < 17592186044416 then (petrinetref16_Loop.l1 k x11 (x13 ++ [rd x11 x14]) (wrap64 (x14 + 1))) else (none)) else (none)) else (some (x13, true))
end
def petrinetref16_Loop.f (k : Nat) (l0_0 : List (List Int)) (l0_1 : List (S80)) (a0_2 : Bool) (a1 : Int) : Option (List Int × Bool) := if a1 < 0 then (petrinetref16_Loop.j0 k a1 true l0_0 l0_1 a0_2) else (petrinetref16_Loop.j0 k a1 (decide (a1 ≥ (l0_0.length : Int))) l0_0 l0_1 a0_2)
def petrinetref16_Loop.T10 : Bool × List (List Nat × List Nat) := (true, [([], []), ([], []), ([0, 1], [0, 1]), ([2], [2]), ([3], [3]), ([4], [4]), ([5], [5]), ([6, 5], [5, 6]), ([7, 5, 5], [5, 7]), ([8], [8]), ([8], [8]), ([9, 10, 8], [8, 9, 10]), ([11, 8], [8, 11]), ([8], [8]), ([8], [8]), ([8], [8]), ([14, 15, 8], [8, 14, 15]), ([16, 8], [8, 16]), ([8], [8]), ([17, 18, 8], [8, 17, 18]), ([19, 8], [8, 19]), ([20, 8], [8, 20]), ([13, 21, 8], [8, 13, 21]), ([22, 8], [8, 22]), ([12, 23, 8], [8, 12, 23]), ([8, 24, 5], [5, 8, 24]), ([5, 25], [5, 25])])
def petrinetref16_Loop.B10 : List Nat := [0, 0, 3, 7, 15, 31, 63, 127, 255, 511, 511, 2047, 4095, 511, 511, 511, 49663, 115199, 511, 508415, 1032703, 2081279, 4186623, 8380927, 16777215, 33554431, 67108863]
theorem petrinetref16_Loop.tab10 : rtab .any (opsOf Try.f31 10) = petrinetref16_Loop.T10 := by kernel_rfl
theorem petrinetref16_Loop.bits10 : waitsOk petrinetref16_Loop.T10.2 petrinetref16_Loop.B10 = true := by kernel_rfl
def petrinetref16_Loop.T14 : Bool × List (List Nat × List Nat) := (true, [([], []), ([], []), ([], []), ([1, 2], [1, 2]), ([3], [3]), ([], []), ([4, 5], [4, 5]), ([6], [6]), ([7], [7]), ([], []), ([], []), ([9, 10], [9, 10]), ([0, 8, 11, 11], [0, 8, 11]), ([12], [12]), ([13], [13]), ([13], [13]), ([14, 12, 0, 1, 2, 3, 4, 5, 6, 7, 8, 9, 10, 11, 12, 13, 14], [14]), ([15, 16, 0, 1, 2, 3, 4, 5, 6, 7, 8, 9, 10, 11, 12, 13, 14, 15, 16], [15])])
def petrinetref16_Loop.B14 : List Nat := [0, 0, 0, 6, 14, 0, 62, 126, 254, 0, 0, 1536, 4095, 8191, 16383, 16383, 32767, 131071]
theorem petrinetref16_Loop.tab14 : rtab .any (opsOf Try.f31 14) = petrinetref16_Loop.T14 := by kernel_rfl
theorem petrinetref16_Loop.bits14 : waitsOk petrinetref16_Loop.T14.2 petrinetref16_Loop.B14 = true := by kernel_rfl
set_option maxHeartbeats 8000000 in
set_option maxRecDepth 100000 in
theorem petrinetref16_Loop.calls (k : Nat) (A0_0 : Option Addr) (c0_0 : Nat) (l0_0 : List (List Int)) (A0_1 : Option Addr) (c0_1 : Nat) (l0_1 : List (S80)) (a0_2 : Bool) (a1 : Int) (r1 : List Int) (r2 : Bool) (w : World) (hr0_0 : Kd.C (Kd.slice 3 (Kd.int .i64)) w A0_0 l0_0.length l0_0) (hc0_0 : l0_0.length ≤ c0_0) (hr0_1 : Kd.C k80 w A0_1 l0_1.length l0_1) (hc0_1 : l0_1.length ≤ c0_1) (h : petrinetref16_Loop.f k l0_0 l0_1 a0_2 a1 = some (r1, r2)) :
  Calls Try.prog 31 #[.agg #[.slice A0_0 l0_0.length c0_0, .slice A0_1 l0_1.length c0_1, .bool a0_2], .int .i64 a1] w fun e w' => ∃ v0_ : Value, e = .returned (.tuple #[v0_, .bool r2]) ∧ Kd.R (Kd.int .i64) 3 w' w.heap.size (fun _ => True) v0_ r1 ∧ Below w.heap.size w w' := by
 have hu25 := Try.underlying25
 have HR0_0 := Aside0.mk hr0_0
 have HC0_0 := Aside0.mk hc0_0
 clear hr0_0 hc0_0
 have HR0_1 := Aside0.mk hr0_1
 have HC0_1 := Aside0.mk hc0_1
 clear hr0_1 hc0_1
 have HB := Aside0.mk (Below.refl w.heap.size w)
 have H : (if a1 < 0 then (petrinetref16_Loop.j0 k a1 true l0_0 l0_1 a0_2) else (petrinetref16_Loop.j0 k a1 (decide (a1 ≥ (l0_0.length : Int))) l0_0 l0_1 a0_2)) = some (r1, r2) := h
 clear h
 have HC3 := Aside0.mk H
 clear H
 go_enter Try.func31, Try.ntmps31
 go_upto_region 1 with (first | ((with_reducible refine gate_dst (N := 2) rfl ?_); (try (refine gate_guard (by rfl) ?_; dsimp only)); refine box_event ?hg (N := 2) ?hd (cs := #[.slice A0_0 l0_0.length c0_0, .slice A0_1 l0_1.length c0_1, .bool a0_2]) (t := 25) ?hr ?_; (case hd => rfl); (case hg => rfl); (case hr => first | (go_simp; done) | (go_simp; rfl)); intro gb101 hg w4 hbox hb; have n0_ := Aside0.mk (below_step (tB) hb); have n1_ := Aside0.mk (hbox); have n2_ := Aside0.mk ((by rw [hg]; exact (below_size (tB)) : w.heap.size ≤ gb101)); have n3_ := Aside0.mk ((by rw [hg]; exact (below_size (tB)) : w.heap.size ≤ gb101)); clear HB; have HB := n0_; have BK101 := n1_; have GW101 := n2_; have GE101 := n3_; clear n0_ n1_ n2_ n3_; clear hb hbox hg))
 (try simp only [Act.put, List.setIfInBounds_toArray, List.set_cons_zero, List.set_cons_succ])
 go_cut [23] (fun v23 wc => ∃ (kq : Nat) (x23_2 : Bool), v23 = .bool x23_2 ∧ Aside0 (petrinetref16_Loop.j0 kq a1 x23_2 l0_0 l0_1 a0_2 = some (r1, r2)) ∧ Aside0 (kq ≤ k) ∧ Aside0 (wc.heap[gb101]? = some (.cells #[(.slice A0_0 l0_0.length c0_0), (.slice A0_1 l0_1.length c0_1), .bool a0_2] 25 (0, 0))) ∧ Aside0 (Below w.heap.size w wc))
 case first =>
  have H := HC3.out
  clear HC3
  by_cases c5 : a1 < 0
  ·rw [if_pos c5] at H
   have c5b0 : decide (a1 < 0) = true := decide_eq_true c5
   clear c5
   (first | rw [c5b0] | (simp only [i64_w, i32_w]; rw [c5b0]) | skip)
   have H' := Aside0.mk H
   clear H
   go_wp2
   go_meet
   case rel => exact ⟨_, (true), (by first | rfl | (simp; done) | (simp [*]; done)), H', ⟨by first | omega | exact Nat.le_refl _⟩, ⟨tK BK101⟩, ⟨tB⟩⟩
  ·rw [if_neg c5] at H
   have c5b0 : decide (a1 < 0) = false := decide_eq_false c5
   clear c5
   (first | rw [c5b0] | (simp only [i64_w, i32_w]; rw [c5b0]) | skip)
   have H' := Aside0.mk H
   clear H
   have hcz6_0 : w4.cell? ⟨gb101, 0, none⟩ = some (.slice A0_0 l0_0.length c0_0) := (blk_cell BK101.out 0).trans rfl
   have hcz6_1 : w4.cell? ⟨gb101, 1, none⟩ = some (.slice A0_1 l0_1.length c0_1) := (blk_cell BK101.out 1).trans rfl
   have hcz6_2 : w4.cell? ⟨gb101, 2, none⟩ = some (.bool a0_2) := (blk_cell BK101.out 2).trans rfl
   have hfz6_0 := blk_frozen BK101.out 0
   have hfz6_1 := blk_frozen BK101.out 1
   have hfz6_2 := blk_frozen BK101.out 2
   go_wp2
   go_meet
   case rel => exact ⟨_, (decide (a1 ≥ (l0_0.length : Int))), (by first | rfl | (simp; done) | (simp [*]; done)), H', ⟨by first | omega | exact Nat.le_refl _⟩, ⟨tK BK101⟩, ⟨tB⟩⟩
 case rest =>
  clear HC3
  try clear p2
  try clear c3
  try clear c5
  try clear c5b0
  try clear hcz6_0
  try clear hcz6_1
  try clear hcz6_2
  try clear hfz6_0
  try clear hfz6_1
  try clear hfz6_2
  obtain ⟨kq, x23_2, rfl, HA, HJ2, BK101, HB⟩ := hcut
  cases kq with
  | zero => exact absurd HA.out (by simp [petrinetref16_Loop.j0])
  | succ kj2 =>
   have H := HA.out
   clear HA
   simp only [petrinetref16_Loop.j0] at H
   by_cases c7 : x23_2 = true
   ·subst c7
    have H1 : (some (([] : List Int), false)) = some (r1, r2) := by rw [if_pos rfl] at H; exact H
    clear H
    have H := H1
    clear H1
    simp only [Option.some.injEq, Prod.mk.injEq] at H
    obtain ⟨rfl, rfl⟩ := H
    go_wp2
    go_ret2
    exact ⟨_, tE, by first | exact Kd.R_nil _ _ _ _ _ | exact Kd.N_nil _ _ _ _ _ | exact Kd.V_nil _ _ _ _ _ | exact Kd.Q_nil _ _ _ _ _ | exact Kd.S_nil _ _ _ _ _, tB⟩
   ·replace c7 := Bool.eq_false_iff.mpr c7
    subst c7
    have H1 : ((petrinetref16_Table.f kj2 l0_0 l0_1 a0_2).bind fun t102 => ((petrinetref16_single.f l0_0 l0_1 a0_2 a1).bind fun t105 => ((petrinetref16_distances.f kj2 t102 t105).bind fun t108 => (petrinetref16_Loop.l0 kj2 a1 t102 t108 (-1) 0 l0_0 l0_1 a0_2)))) = some (r1, r2) := by rw [if_neg (show ¬ (false = true) by decide)] at H; exact H
    clear H
    have H := H1
    clear H1
    replace H := Option.bind_eq_some_iff.mp H
    obtain ⟨t102, A80, H⟩ := H
    replace H : ((petrinetref16_single.f l0_0 l0_1 a0_2 a1).bind fun t105 => ((petrinetref16_distances.f kj2 t102 t105).bind fun t108 => (petrinetref16_Loop.l0 kj2 a1 t102 t108 (-1) 0 l0_0 l0_1 a0_2))) = some (r1, r2) := H
    have A8 := Aside0.mk A80
    clear A80
    replace H := Option.bind_eq_some_iff.mp H
    obtain ⟨t105, A90, H⟩ := H
    replace H : ((petrinetref16_distances.f kj2 t102 t105).bind fun t108 => (petrinetref16_Loop.l0 kj2 a1 t102 t108 (-1) 0 l0_0 l0_1 a0_2)) = some (r1, r2) := H
    have A9 := Aside0.mk A90
    clear A90
    replace H := Option.bind_eq_some_iff.mp H
    obtain ⟨t108, A100, H⟩ := H
    replace H : (petrinetref16_Loop.l0 kj2 a1 t102 t108 (-1) 0 l0_0 l0_1 a0_2) = some (r1, r2) := H
    have A10 := Aside0.mk A100
    clear A100
    have H' := Aside0.mk H
    clear H
    have hcz11_0 : wc.cell? ⟨gb101, 0, none⟩ = some (.slice A0_0 l0_0.length c0_0) := (blk_cell BK101.out 0).trans rfl
    have hcz11_1 : wc.cell? ⟨gb101, 1, none⟩ = some (.slice A0_1 l0_1.length c0_1) := (blk_cell BK101.out 1).trans rfl
    have hcz11_2 : wc.cell? ⟨gb101, 2, none⟩ = some (.bool a0_2) := (blk_cell BK101.out 2).trans rfl
    have hfz11_0 := blk_frozen BK101.out 0
    have hfz11_1 := blk_frozen BK101.out 1
    have hfz11_2 := blk_frozen BK101.out 2
    go_wp2_with (first | ((with_reducible refine gate_callee (f := 37) rfl ?_); refine goesL_ (some 25) rfl rfl Try.func37 (by kernel_rfl) rfl #[.agg #[.slice A0_0 l0_0.length c0_0, .slice A0_1 l0_1.length c0_1, .bool a0_2]] rfl (by (try simp only [List.map_toArray, List.map_cons, List.map_nil]); first | done | rfl | (simp only [List.length_drop, List.length_take]; rfl)) ?_; (with_reducible refine (petrinetref16_Table.calls kj2 _ _ l0_0 _ _ l0_1 a0_2 t102 _ ?side1 ?side2 ?side3 ?side4 A8.out).mono ?_); (case side1 => exact tC (Kd.C_below HR0_0.out HB.out)); (case side2 => exact HC0_0.out); (case side3 => exact tC (Kd.C_below HR0_1.out HB.out)); (case side4 => exact HC0_1.out); rintro e w12 ⟨v103, rfl, ho0, hb⟩; refine ⟨_, rfl, ?_⟩; have n0_ := Aside0.mk (Kd.S_lower ho0 (below_size (tB))); have n1_ := Aside0.mk (blk_below (g := gb101) (o := .cells #[.slice A0_0 l0_0.length c0_0, .slice A0_1 l0_1.length c0_1, .bool a0_2] 25 (0, 0)) (tK BK101) hb); have n2_ := Aside0.mk (below_step (tB) hb); clear BK101; clear HB; have HO104 := n0_; have BK101 := n1_; have HB := n2_; clear n0_ n1_ n2_; (try clear hb); (try clear hb2); (try clear hk); (try clear hi); (try clear ho0); have hcz13_0 : w12.cell? ⟨gb101, 0, none⟩ = some (.slice A0_0 l0_0.length c0_0) := (blk_cell BK101.out 0).trans rfl; have hcz13_1 : w12.cell? ⟨gb101, 1, none⟩ = some (.slice A0_1 l0_1.length c0_1) := (blk_cell BK101.out 1).trans rfl; have hcz13_2 : w12.cell? ⟨gb101, 2, none⟩ = some (.bool a0_2) := (blk_cell BK101.out 2).trans rfl; have hfz13_0 := blk_frozen BK101.out 0; have hfz13_1 := blk_frozen BK101.out 1; have hfz13_2 := blk_frozen BK101.out 2) | ((with_reducible refine gate_callee (f := 40) rfl ?_); refine goesL_ (some 29) rfl rfl Try.func40 (by kernel_rfl) rfl #[.agg #[.slice A0_0 l0_0.length c0_0, .slice A0_1 l0_1.length c0_1, .bool a0_2], .int .i64 a1] rfl (by (try simp only [List.map_toArray, List.map_cons, List.map_nil]); first | done | rfl | (simp only [List.length_drop, List.length_take]; rfl)) ?_; (with_reducible refine (petrinetref16_single.calls _ _ l0_0 _ _ l0_1 a0_2 a1 t105 _ ?side1 ?side2 ?side3 ?side4 A9.out).mono ?_); (case side1 => exact tC (Kd.C_below HR0_0.out HB.out)); (case side2 => exact HC0_0.out); (case side3 => exact tC (Kd.C_below HR0_1.out HB.out)); (case side4 => exact HC0_1.out); rintro e w14 ⟨v106, rfl, ho0, hb⟩; refine ⟨_, rfl, ?_⟩; have n0_ := Aside0.mk (Kd.S_below (tR HO104) hb); have n1_ := Aside0.mk (Kd.R_lower ho0 (below_size (tB))); have n2_ := Aside0.mk (blk_below (g := gb101) (o := .cells #[.slice A0_0 l0_0.length c0_0, .slice A0_1 l0_1.length c0_1, .bool a0_2] 25 (0, 0)) (tK BK101) hb); have n3_ := Aside0.mk (below_step (tB) hb); clear HO104; clear BK101; clear HB; have HO104 := n0_; have HO107 := n1_; have BK101 := n2_; have HB := n3_; clear n0_ n1_ n2_ n3_; (try clear hb); (try clear hb2); (try clear hk); (try clear hi); (try clear ho0); obtain ⟨Ao15, co15, eo15⟩ := Kd.S_slice HO104.out; subst eo15; obtain ⟨Ao16, co16, eo16⟩ := Kd.R_slice HO107.out; subst eo16) | ((with_reducible refine gate_callee (f := 56) rfl ?_); refine goesL_ (some 30) rfl rfl Try.func56 (by kernel_rfl) rfl #[.slice Ao15 t102.length co15, .slice Ao16 t105.length co16] rfl (by (try simp only [List.map_toArray, List.map_cons, List.map_nil]); first | done | rfl | (simp only [List.length_drop, List.length_take]; rfl)) ?_; (with_reducible refine (petrinetref16_distances.calls kj2 _ _ t102 _ _ t105 t108 _ ?side1 ?side2 ?side3 ?side4 A10.out).mono ?_); (case side1 => exact tC (Kd.S_reads' HO104.out).2.2); (case side2 => exact (Kd.S_reads' HO104.out).2.1); (case side3 => exact tC (Kd.R_reads' HO107.out).2.2); (case side4 => exact (Kd.R_reads' HO107.out).2.1); rintro e w17 ⟨v109, rfl, ho0, hb⟩; refine ⟨_, rfl, ?_⟩; have n0_ := Aside0.mk (Kd.S_below (tR HO104) hb); have n1_ := Aside0.mk (Kd.R_below (tR HO107) hb); have n2_ := Aside0.mk (Kd.R_lower ho0 (below_size (tB))); have n3_ := Aside0.mk (blk_below (g := gb101) (o := .cells #[.slice A0_0 l0_0.length c0_0, .slice A0_1 l0_1.length c0_1, .bool a0_2] 25 (0, 0)) (tK BK101) hb); have n4_ := Aside0.mk (below_step (tB) hb); clear HO104; clear HO107; clear BK101; clear HB; have HO104 := n0_; have HO107 := n1_; have HO110 := n2_; have BK101 := n3_; have HB := n4_; clear n0_ n1_ n2_ n3_ n4_; (try clear hb); (try clear hb2); (try clear hk); (try clear hi); (try clear ho0)))
    go_loopg [8, 9] kj2 (fun kq v8 v9 w' => ∃ (x8_2 : Int) (x9_2 : Int), v8 = .int .i64 x8_2 ∧ v9 = .int .i64 x9_2 ∧ Aside0 (petrinetref16_Loop.l0 kq a1 t102 t108 x8_2 x9_2 l0_0 l0_1 a0_2 = some (r1, r2)) ∧ Aside0 (kq ≤ kj2) ∧ Aside0 (Kd.S (Kd.slice 80 k80) 23 w' w.heap.size (fun _ => True) (.slice Ao15 t102.length co15) t102) ∧ Aside0 (Kd.R (Kd.int .i64) 3 w' w.heap.size (fun _ => True) v109 t108) ∧ Aside0 (w'.heap[gb101]? = some (.cells #[(.slice A0_0 l0_0.length c0_0), (.slice A0_1 l0_1.length c0_1), .bool a0_2] 25 (0, 0))) ∧ Aside0 (Below w.heap.size w w'))
    case atStart => exact ⟨((-1)), (0), (by first | rfl | (simp; done) | (simp [*]; done)), (by first | rfl | (simp; done) | (simp [*]; done)), H', ⟨Nat.le_refl _⟩, ⟨tR HO104⟩, ⟨tR HO110⟩, ⟨tK BK101⟩, ⟨tB⟩⟩
    case round =>
     clear H'
     try clear p2
     try clear c3
     try clear c4
     try clear c5
     try clear c5b0
     try clear c7
     try clear hcz11_0
     try clear hcz11_1
     try clear hcz11_2
     try clear hcz13_0
     try clear hcz13_1
     try clear hcz13_2
     try clear hcz6_0
     try clear hcz6_1
     try clear hcz6_2
     try clear hfz11_0
     try clear hfz11_1
     try clear hfz11_2
     try clear hfz13_0
     try clear hfz13_1
     try clear hfz13_2
     try clear hfz6_0
     try clear hfz6_1
     try clear hfz6_2
     try clear p2
     obtain ⟨x8_2, x9_2, rfl, rfl, HA, HK2, HO_6, HO_7, BK101, HB⟩ := hrel
     cases gk with
     | zero => exact absurd HA.out (by simp [petrinetref16_Loop.l0])
     | succ k2 =>
      have H := HA.out
      clear HA
      simp only [petrinetref16_Loop.l0] at H
      by_cases c18 : 0 ≤ a1
      ·rw [if_pos c18] at H
       have c18b0 : decide (0 ≤ a1) = true := decide_eq_true c18
       clear c18
       by_cases c19 : a1 < (t102.length : Int)
       ·rw [if_pos c19] at H
        have c19b0 : decide (a1 < (t102.length : Int)) = true := decide_eq_true c19
        clear c19
        by_cases c20 : x9_2 < ((rd_L80 t102 a1).length : Int)
        ·rw [if_pos c20] at H
         have c20b0 : decide (x9_2 < ((rd_L80 t102 a1).length : Int)) = true := decide_eq_true c20
         clear c20
         by_cases c21 : 0 ≤ x9_2
         ·rw [if_pos c21] at H
          have c21b0 : decide (0 ≤ x9_2) = true := decide_eq_true c21
          clear c21
          by_cases c22 : 0 ≤ ((rd_T80 (rd_L80 t102 a1) x9_2).f2)
          ·rw [if_pos c22] at H
           have c22b0 : decide (0 ≤ ((rd_T80 (rd_L80 t102 a1) x9_2).f2)) = true := decide_eq_true c22
           clear c22
           by_cases c23 : ((rd_T80 (rd_L80 t102 a1) x9_2).f2) < (t108.length : Int)
           ·rw [if_pos c23] at H
            have c23b0 : decide (((rd_T80 (rd_L80 t102 a1) x9_2).f2) < (t108.length : Int)) = true := decide_eq_true c23
            clear c23
            by_cases c24 : (rd t108 ((rd_T80 (rd_L80 t102 a1) x9_2).f2)) ≥ 0
            ·rw [if_pos c24] at H
             have c24b0 : decide (0 ≤ (rd t108 ((rd_T80 (rd_L80 t102 a1) x9_2).f2))) = true := decide_eq_true c24
             clear c24
             by_cases c25 : x8_2 < 0
             ·rw [if_pos c25] at H
              have c25b0 : decide (x8_2 < 0) = true := decide_eq_true c25
              clear c25
              have H' := Aside0.mk H
              clear H
              have p111 : 0 ≤ (a1 : Int) := tD
              have q111 : a1 < (t102.length : Int) := tD
              obtain ⟨ad111, A111_0, c111_0, e111, hx111_0, hl111_0, hi111_0⟩ := at_L80 (Kd.S_reads' HO_6.out).2.2 a1 p111 q111
              cases e111
              obtain ⟨ce111, hce111, hMe111, hcc111⟩ := Kd.S_get HO_6.out [] a1 p111 (by first | exact q111 | exact tD | (have e_ := (Kd.S_reads' HO_6.out).1; omega))
              obtain ⟨ve111_0, rfl, ge111_0⟩ := hMe111
              have hv111_0 := hcc111 0 _ rfl
              rw [Nat.add_zero, show ((Kd.slice 80 k80)).sz = 1 from rfl, Nat.mul_one] at hv111_0
              replace hv111_0 := Option.some.inj (hv111_0.symm.trans hx111_0)
              rw [hv111_0] at ge111_0
              have HL111_0 := Aside0.mk (show Kd.R k80 80 _ _ _ _ (rd_L80 t102 a1) from ge111_0)
              clear hv111_0 ge111_0
              clear hcc111 hce111
              have HR111_0 := Aside0.mk hi111_0
              have HC111_0 := Aside0.mk hl111_0
              clear hi111_0 hl111_0
              replace p111 := eq_true p111
              replace q111 := eq_true q111
              have p112 : 0 ≤ (a1 : Int) := tD
              have q112 : a1 < (t102.length : Int) := tD
              obtain ⟨ad112, A112_0, c112_0, e112, hx112_0, hl112_0, hi112_0⟩ := at_L80 (Kd.S_reads' HO_6.out).2.2 a1 p112 q112
              obtain rfl : ad111 = ad112 := (by injection e112)
              obtain ⟨ce112, hce112, hMe112, hcc112⟩ := Kd.S_get HO_6.out [] a1 p112 (by first | exact q112 | exact tD | (have e_ := (Kd.S_reads' HO_6.out).1; omega))
              obtain ⟨ve112_0, rfl, ge112_0⟩ := hMe112
              have hv112_0 := hcc112 0 _ rfl
              rw [Nat.add_zero, show ((Kd.slice 80 k80)).sz = 1 from rfl, Nat.mul_one] at hv112_0
              replace hv112_0 := Option.some.inj (hv112_0.symm.trans hx112_0)
              rw [hv112_0] at ge112_0
              have HL112_0 := Aside0.mk (show Kd.R k80 80 _ _ _ _ (rd_L80 t102 a1) from ge112_0)
              clear hv112_0 ge112_0
              clear hcc112 hce112
              have HR112_0 := Aside0.mk hi112_0
              have HC112_0 := Aside0.mk hl112_0
              clear hi112_0 hl112_0
              replace p112 := eq_true p112
              replace q112 := eq_true q112
              have ea_ := Option.some.inj (hx111_0.symm.trans hx112_0)
              injection ea_ with ea_ en_ ec_
              subst ea_
              subst ec_
              clear en_
              have p113 : 0 ≤ (x9_2 : Int) := tD
              have q113 : x9_2 < ((rd_L80 t102 a1).length : Int) := tD
              obtain ⟨ad113, e113, hx113_0, hx113_1, hx113_2⟩ := at_T80 (by repeat (first | (with_reducible exact HR112_0.out) | (with_reducible refine Kd.C_alloc ?_ _) | (with_reducible refine Kd.C_drewN ?_ _) | (with_reducible refine Kd.C_drew ?_) | exact HR112_0.out)) x9_2 p113 q113
              cases e113
              replace p113 := eq_true p113
              replace q113 := eq_true q113
              try go_wp2
              have n0_ := Aside0.mk (Kd.S_drew HO_6.out)
              have n1_ := Aside0.mk (Kd.R_drew HO_7.out)
              have n2_ := Aside0.mk (Kd.R_drew HL111_0.out)
              have n3_ := Aside0.mk (Kd.R_drew HL112_0.out)
              have n4_ := Aside0.mk (blk_drew BK101.out)
              have n5_ := Aside0.mk (Kd.C_drew HR111_0.out)
              have n6_ := Aside0.mk (Kd.C_drew HR112_0.out)
              have n7_ := Aside0.mk (below_drew1 HB.out)
              clear HO_6
              clear HO_7
              clear HL111_0
              clear HL112_0
              clear BK101
              clear HR111_0
              clear HR112_0
              clear HB
              have HO_6 := n0_
              have HO_7 := n1_
              have HL111_0 := n2_
              have HL112_0 := n3_
              have BK101 := n4_
              have HR111_0 := n5_
              have HR112_0 := n6_
              have HB := n7_
              clear n0_ n1_ n2_ n3_ n4_ n5_ n6_ n7_
              obtain ⟨Ao27, co27, eo27⟩ := Kd.R_slice HO_7.out
              (first | subst eo27 | (injection eo27 with f1_ f2_ f3_; have f4_ := f1_.symm; have f5_ := f3_.symm; clear f1_ f2_ f3_; subst f4_; subst f5_))
              have p114 : 0 ≤ (((rd_T80 (rd_L80 t102 a1) x9_2).f2) : Int) := tD
              have q114 : ((rd_T80 (rd_L80 t102 a1) x9_2).f2) < (t108.length : Int) := tD
              obtain ⟨ad114, e114, hx114_0⟩ := Kd.at_int (Kd.R_reads' HO_7.out).2.2 ((rd_T80 (rd_L80 t102 a1) x9_2).f2) p114 q114
              cases e114
              replace p114 := eq_true p114
              replace q114 := eq_true q114
              refine start_ (n := 27) (S := fun w' => w'.cell? (ad114.add (((rd_T80 (rd_L80 t102 a1) x9_2).f2)).toNat) = some (.int .i64 (rd t108 ((rd_T80 (rd_L80 t102 a1) x9_2).f2)))) (ds := []) #[false, false, false, false, false, false, false, false, false, false, false, false, false, false, false, false, false, false, false, false, false, false, false, false, false, false, false] (by kernel_rfl) rfl rfl (hx114_0) (fun hHeld => ?_); refine with_tabW petrinetref16_Loop.tab10 petrinetref16_Loop.bits10 (fun HT_ HW_ => ?_)
              generalize wr.drew = w26 at HO_6 HO_7 HL111_0 HL112_0 BK101 HR111_0 HR112_0 HB hx114_0 hHeld ⊢
              refine pure_ (i := 0) (N := some 48) (v := ?_) (a' := ?_) #[true, false, false, false, false, false, false, false, false, false, false, false, false, false, false, false, false, false, false, false, false, false, false, false, false, false, false] rfl rfl (any_of HT_.out (by kernel_rfl)) (fun _ _ _ h => h) (Or.inl ⟨by rfl, ?_⟩) ?_ ?_
              rotate_left
              ·intro w'
               go_simp
               with_reducible rfl
              rotate_left
              ·simp only [tS, i64_w, i32_w]
               rfl
              refine pure_ (i := 1) (N := some 49) (v := ?_) (a' := ?_) #[true, true, false, false, false, false, false, false, false, false, false, false, false, false, false, false, false, false, false, false, false, false, false, false, false, false, false] rfl rfl (any_of HT_.out (by kernel_rfl)) (fun _ _ _ h => h) (Or.inl ⟨by rfl, ?_⟩) ?_ ?_
              rotate_left
              ·intro w'
               go_simp
               with_reducible rfl
              rotate_left
              ·simp only [tS, i64_w, i32_w]
               rfl
              refine pure_ (i := 2) (N := some 50) (v := ?_) (a' := ?_) #[true, true, true, false, false, false, false, false, false, false, false, false, false, false, false, false, false, false, false, false, false, false, false, false, false, false, false] rfl rfl (any_of HT_.out (by kernel_rfl)) (fun _ _ _ h => h) (Or.inl ⟨by rfl, ?_⟩) ?_ ?_
              rotate_left
              ·intro w'
               go_simp
               with_reducible rfl
              rotate_left
              ·simp only [tS, i64_w, i32_w]
               rfl
              refine take_ (i := 3) (N := some 51) (v := ?_) (a' := ?_) #[true, true, true, true, false, false, false, false, false, false, false, false, false, false, false, false, false, false, false, false, false, false, false, false, false, false, false] rfl rfl (take_ofW HT_.out HW_.out (by kernel_rfl)) (fun _ _ _ h => h) (Or.inl ⟨by rfl, ?_⟩) hHeld ?_ ?_
              rotate_left
              ·intro w' s0
               go_simp
               with_reducible rfl
              rotate_left
              ·simp only [tS, i64_w, i32_w]
               rfl
              refine pure_ (i := 4) (N := some 52) (v := ?_) (a' := ?_) #[true, true, true, true, true, false, false, false, false, false, false, false, false, false, false, false, false, false, false, false, false, false, false, false, false, false, false] rfl rfl (any_of HT_.out (by kernel_rfl)) (fun _ _ _ h => h) (Or.inl ⟨by rfl, ?_⟩) ?_ ?_
              rotate_left
              ·intro w'
               go_simp
               with_reducible rfl
              rotate_left
              ·simp only [tS, i64_w, i32_w]
               rfl
              refine pure_ (i := 5) (N := some 53) (v := ?_) (a' := ?_) #[true, true, true, true, true, true, false, false, false, false, false, false, false, false, false, false, false, false, false, false, false, false, false, false, false, false, false] rfl rfl (any_of HT_.out (by kernel_rfl)) (fun _ _ _ h => h) (Or.inl ⟨by rfl, ?_⟩) ?_ ?_
              rotate_left
              ·intro w'
               go_simp
               with_reducible rfl
              rotate_left
              ·simp only [tS, i64_w, i32_w]
               rfl
              refine pure_ (i := 6) (N := some 54) (v := ?_) (a' := ?_) #[true, true, true, true, true, true, true, false, false, false, false, false, false, false, false, false, false, false, false, false, false, false, false, false, false, false, false] rfl rfl (any_of HT_.out (by kernel_rfl)) (fun _ _ _ h => h) (Or.inl ⟨by rfl, ?_⟩) ?_ ?_
              rotate_left
              ·intro w'
               go_simp
               with_reducible rfl
              rotate_left
              ·simp only [tS, i64_w, i32_w]
               rfl
              refine pure_ (i := 7) (N := some 55) (v := ?_) (a' := ?_) #[true, true, true, true, true, true, true, true, false, false, false, false, false, false, false, false, false, false, false, false, false, false, false, false, false, false, false] rfl rfl (any_of HT_.out (by kernel_rfl)) (fun _ _ _ h => h) (Or.inl ⟨by rfl, ?_⟩) ?_ ?_
              rotate_left
              ·intro w'
               go_simp
               with_reducible rfl
              rotate_left
              ·simp only [tS, i64_w, i32_w]
               rfl
              refine pure_ (i := 8) (N := some 56) (v := ?_) (a' := ?_) #[true, true, true, true, true, true, true, true, true, false, false, false, false, false, false, false, false, false, false, false, false, false, false, false, false, false, false] rfl rfl (any_of HT_.out (by kernel_rfl)) (fun _ _ _ h => h) (Or.inl ⟨by rfl, ?_⟩) ?_ ?_
              rotate_left
              ·intro w'
               go_simp
               with_reducible rfl
              rotate_left
              ·simp only [tS, i64_w, i32_w]
               rfl
              refine pure_ (i := 9) (N := some 57) (v := undef) (a' := ?_) #[true, true, true, true, true, true, true, true, true, true, false, false, false, false, false, false, false, false, false, false, false, false, false, false, false, false, false] rfl rfl (any_of HT_.out (by kernel_rfl)) (fun _ _ _ h => h) (Or.inr ⟨by rfl, rfl⟩) ?_ ?_
              rotate_left
              ·simp only [tS, i64_w, i32_w]
               rfl
              refine pure_ (i := 10) (N := some 58) (v := undef) (a' := ?_) #[true, true, true, true, true, true, true, true, true, true, true, false, false, false, false, false, false, false, false, false, false, false, false, false, false, false, false] rfl rfl (any_of HT_.out (by kernel_rfl)) (fun _ _ _ h => h) (Or.inr ⟨by rfl, rfl⟩) ?_ ?_
              rotate_left
              ·simp only [tS, i64_w, i32_w]
               rfl
              refine pure_ (i := 11) (N := some 59) (v := undef) (a' := ?_) #[true, true, true, true, true, true, true, true, true, true, true, true, false, false, false, false, false, false, false, false, false, false, false, false, false, false, false] rfl rfl (any_of HT_.out (by kernel_rfl)) (fun _ _ _ h => h) (Or.inr ⟨by rfl, rfl⟩) ?_ ?_
              rotate_left
              ·simp only [tS, i64_w, i32_w]
               rfl
              refine pure_ (i := 12) (N := some 60) (v := undef) (a' := ?_) #[true, true, true, true, true, true, true, true, true, true, true, true, true, false, false, false, false, false, false, false, false, false, false, false, false, false, false] rfl rfl (any_of HT_.out (by kernel_rfl)) (fun _ _ _ h => h) (Or.inr ⟨by rfl, rfl⟩) ?_ ?_
              rotate_left
              ·simp only [tS, i64_w, i32_w]
               rfl
              refine pure_ (i := 13) (N := some 61) (v := undef) (a' := ?_) #[true, true, true, true, true, true, true, true, true, true, true, true, true, true, false, false, false, false, false, false, false, false, false, false, false, false, false] rfl rfl (any_of HT_.out (by kernel_rfl)) (fun _ _ _ h => h) (Or.inr ⟨by rfl, rfl⟩) ?_ ?_
              rotate_left
              ·simp only [tS, i64_w, i32_w]
               rfl
              refine pure_ (i := 14) (N := some 62) (v := undef) (a' := ?_) #[true, true, true, true, true, true, true, true, true, true, true, true, true, true, true, false, false, false, false, false, false, false, false, false, false, false, false] rfl rfl (any_of HT_.out (by kernel_rfl)) (fun _ _ _ h => h) (Or.inr ⟨by rfl, rfl⟩) ?_ ?_
              rotate_left
              ·simp only [tS, i64_w, i32_w]
               rfl
              refine pure_ (i := 15) (N := some 63) (v := undef) (a' := ?_) #[true, true, true, true, true, true, true, true, true, true, true, true, true, true, true, true, false, false, false, false, false, false, false, false, false, false, false] rfl rfl (any_of HT_.out (by kernel_rfl)) (fun _ _ _ h => h) (Or.inr ⟨by rfl, rfl⟩) ?_ ?_
              rotate_left
              ·simp only [tS, i64_w, i32_w]
               rfl
              refine pure_ (i := 16) (N := some 64) (v := undef) (a' := ?_) #[true, true, true, true, true, true, true, true, true, true, true, true, true, true, true, true, true, false, false, false, false, false, false, false, false, false, false] rfl rfl (any_of HT_.out (by kernel_rfl)) (fun _ _ _ h => h) (Or.inr ⟨by rfl, rfl⟩) ?_ ?_
              rotate_left
              ·simp only [tS, i64_w, i32_w]
               rfl
              refine pure_ (i := 17) (N := some 65) (v := undef) (a' := ?_) #[true, true, true, true, true, true, true, true, true, true, true, true, true, true, true, true, true, true, false, false, false, false, false, false, false, false, false] rfl rfl (any_of HT_.out (by kernel_rfl)) (fun _ _ _ h => h) (Or.inr ⟨by rfl, rfl⟩) ?_ ?_
              rotate_left
              ·simp only [tS, i64_w, i32_w]
               rfl
              refine pure_ (i := 18) (N := some 66) (v := undef) (a' := ?_) #[true, true, true, true, true, true, true, true, true, true, true, true, true, true, true, true, true, true, true, false, false, false, false, false, false, false, false] rfl rfl (any_of HT_.out (by kernel_rfl)) (fun _ _ _ h => h) (Or.inr ⟨by rfl, rfl⟩) ?_ ?_
              rotate_left
              ·simp only [tS, i64_w, i32_w]
               rfl
              refine pure_ (i := 19) (N := some 67) (v := undef) (a' := ?_) #[true, true, true, true, true, true, true, true, true, true, true, true, true, true, true, true, true, true, true, true, false, false, false, false, false, false, false] rfl rfl (any_of HT_.out (by kernel_rfl)) (fun _ _ _ h => h) (Or.inr ⟨by rfl, rfl⟩) ?_ ?_
              rotate_left
              ·simp only [tS, i64_w, i32_w]
               rfl
              refine pure_ (i := 20) (N := some 68) (v := undef) (a' := ?_) #[true, true, true, true, true, true, true, true, true, true, true, true, true, true, true, true, true, true, true, true, true, false, false, false, false, false, false] rfl rfl (any_of HT_.out (by kernel_rfl)) (fun _ _ _ h => h) (Or.inr ⟨by rfl, rfl⟩) ?_ ?_
              rotate_left
              ·simp only [tS, i64_w, i32_w]
               rfl
              refine pure_ (i := 21) (N := some 69) (v := undef) (a' := ?_) #[true, true, true, true, true, true, true, true, true, true, true, true, true, true, true, true, true, true, true, true, true, true, false, false, false, false, false] rfl rfl (any_of HT_.out (by kernel_rfl)) (fun _ _ _ h => h) (Or.inr ⟨by rfl, rfl⟩) ?_ ?_
              rotate_left
              ·simp only [tS, i64_w, i32_w]
               rfl
              refine pure_ (i := 22) (N := some 70) (v := undef) (a' := ?_) #[true, true, true, true, true, true, true, true, true, true, true, true, true, true, true, true, true, true, true, true, true, true, true, false, false, false, false] rfl rfl (any_of HT_.out (by kernel_rfl)) (fun _ _ _ h => h) (Or.inr ⟨by rfl, rfl⟩) ?_ ?_
              rotate_left
              ·simp only [tS, i64_w, i32_w]
               rfl
              refine pure_ (i := 23) (N := some 71) (v := undef) (a' := ?_) #[true, true, true, true, true, true, true, true, true, true, true, true, true, true, true, true, true, true, true, true, true, true, true, true, false, false, false] rfl rfl (any_of HT_.out (by kernel_rfl)) (fun _ _ _ h => h) (Or.inr ⟨by rfl, rfl⟩) ?_ ?_
              rotate_left
              ·simp only [tS, i64_w, i32_w]
               rfl
              refine pure_ (i := 24) (N := some 72) (v := undef) (a' := ?_) #[true, true, true, true, true, true, true, true, true, true, true, true, true, true, true, true, true, true, true, true, true, true, true, true, true, false, false] rfl rfl (any_of HT_.out (by kernel_rfl)) (fun _ _ _ h => h) (Or.inr ⟨by rfl, rfl⟩) ?_ ?_
              rotate_left
              ·simp only [tS, i64_w, i32_w]
               rfl
              refine pure_ (i := 25) (N := some 73) (v := ?_) (a' := ?_) #[true, true, true, true, true, true, true, true, true, true, true, true, true, true, true, true, true, true, true, true, true, true, true, true, true, true, false] rfl rfl (any_of HT_.out (by kernel_rfl)) (fun _ _ _ h => h) (Or.inl ⟨by rfl, ?_⟩) ?_ ?_
              rotate_left
              ·intro w'
               go_simp
               with_reducible rfl
              rotate_left
              ·simp only [tS, i64_w, i32_w]
               rfl
              refine pure_ (i := 26) (N := some 74) (v := ?_) (a' := ?_) #[true, true, true, true, true, true, true, true, true, true, true, true, true, true, true, true, true, true, true, true, true, true, true, true, true, true, true] rfl rfl (any_of HT_.out (by kernel_rfl)) (fun _ _ _ h => h) (Or.inl ⟨by rfl, ?_⟩) ?_ ?_
              rotate_left
              ·intro w'
               go_simp
               with_reducible rfl
              rotate_left
              ·simp only [tS, i64_w, i32_w]
               rfl
              refine done_ (done_of HT_.out (by kernel_rfl)) ?_
              try go_wp2
              go_roundg k2
              case measure => have := HJ2.out; have := HK2.out; omega
              case rel => exact ⟨(x9_2), (wrap64 (x9_2 + 1)), (by first | rfl | (simp; done) | (simp [*]; done)), (by first | rfl | (simp; done) | (simp [*]; done)), H', ⟨by have := HJ2.out; have := HK2.out; omega⟩, ⟨tR HO_6⟩, ⟨tR HO_7⟩, ⟨tK BK101⟩, ⟨tB⟩⟩
             ·rw [if_neg c25] at H
              have c25b0 : decide (x8_2 < 0) = false := decide_eq_false c25
              clear c25
              by_cases c28 : 0 ≤ x8_2
              ·rw [if_pos c28] at H
               have c28b0 : decide (0 ≤ x8_2) = true := decide_eq_true c28
               clear c28
               by_cases c29 : x8_2 < ((rd_L80 t102 a1).length : Int)
               ·rw [if_pos c29] at H
                have c29b0 : decide (x8_2 < ((rd_L80 t102 a1).length : Int)) = true := decide_eq_true c29
                clear c29
                by_cases c30 : 0 ≤ ((rd_T80 (rd_L80 t102 a1) x8_2).f2)
                ·rw [if_pos c30] at H
                 have c30b0 : decide (0 ≤ ((rd_T80 (rd_L80 t102 a1) x8_2).f2)) = true := decide_eq_true c30
                 clear c30
                 by_cases c31 : ((rd_T80 (rd_L80 t102 a1) x8_2).f2) < (t108.length : Int)
                 ·rw [if_pos c31] at H
                  have c31b0 : decide (((rd_T80 (rd_L80 t102 a1) x8_2).f2) < (t108.length : Int)) = true := decide_eq_true c31
                  clear c31
                  by_cases c32 : (rd t108 ((rd_T80 (rd_L80 t102 a1) x9_2).f2)) < (rd t108 ((rd_T80 (rd_L80 t102 a1) x8_2).f2))
                  ·rw [if_pos c32] at H
                   have c32b0 : decide ((rd t108 ((rd_T80 (rd_L80 t102 a1) x9_2).f2)) < (rd t108 ((rd_T80 (rd_L80 t102 a1) x8_2).f2))) = true := decide_eq_true c32
                   clear c32
                   have H' := Aside0.mk H
                   clear H
                   have p111 : 0 ≤ (a1 : Int) := tD
                   have q111 : a1 < (t102.length : Int) := tD
                   obtain ⟨ad111, A111_0, c111_0, e111, hx111_0, hl111_0, hi111_0⟩ := at_L80 (Kd.S_reads' HO_6.out).2.2 a1 p111 q111
                   cases e111
                   obtain ⟨ce111, hce111, hMe111, hcc111⟩ := Kd.S_get HO_6.out [] a1 p111 (by first | exact q111 | exact tD | (have e_ := (Kd.S_reads' HO_6.out).1; omega))
                   obtain ⟨ve111_0, rfl, ge111_0⟩ := hMe111
                   have hv111_0 := hcc111 0 _ rfl
                   rw [Nat.add_zero, show ((Kd.slice 80 k80)).sz = 1 from rfl, Nat.mul_one] at hv111_0
                   replace hv111_0 := Option.some.inj (hv111_0.symm.trans hx111_0)
                   rw [hv111_0] at ge111_0
                   have HL111_0 := Aside0.mk (show Kd.R k80 80 _ _ _ _ (rd_L80 t102 a1) from ge111_0)
                   clear hv111_0 ge111_0
                   clear hcc111 hce111
                   have HR111_0 := Aside0.mk hi111_0
                   have HC111_0 := Aside0.mk hl111_0
                   clear hi111_0 hl111_0
                   replace p111 := eq_true p111
                   replace q111 := eq_true q111
                   have p112 : 0 ≤ (a1 : Int) := tD
                   have q112 : a1 < (t102.length : Int) := tD
                   obtain ⟨ad112, A112_0, c112_0, e112, hx112_0, hl112_0, hi112_0⟩ := at_L80 (Kd.S_reads' HO_6.out).2.2 a1 p112 q112
                   obtain rfl : ad111 = ad112 := (by injection e112)
                   obtain ⟨ce112, hce112, hMe112, hcc112⟩ := Kd.S_get HO_6.out [] a1 p112 (by first | exact q112 | exact tD | (have e_ := (Kd.S_reads' HO_6.out).1; omega))
                   obtain ⟨ve112_0, rfl, ge112_0⟩ := hMe112
                   have hv112_0 := hcc112 0 _ rfl
                   rw [Nat.add_zero, show ((Kd.slice 80 k80)).sz = 1 from rfl, Nat.mul_one] at hv112_0
                   replace hv112_0 := Option.some.inj (hv112_0.symm.trans hx112_0)
                   rw [hv112_0] at ge112_0
                   have HL112_0 := Aside0.mk (show Kd.R k80 80 _ _ _ _ (rd_L80 t102 a1) from ge112_0)
                   clear hv112_0 ge112_0
                   clear hcc112 hce112
                   have HR112_0 := Aside0.mk hi112_0
                   have HC112_0 := Aside0.mk hl112_0
                   clear hi112_0 hl112_0
                   replace p112 := eq_true p112
                   replace q112 := eq_true q112
                   have ea_ := Option.some.inj (hx111_0.symm.trans hx112_0)
                   injection ea_ with ea_ en_ ec_
                   subst ea_
                   subst ec_
                   clear en_
                   have p113 : 0 ≤ (x9_2 : Int) := tD
                   have q113 : x9_2 < ((rd_L80 t102 a1).length : Int) := tD
                   obtain ⟨ad113, e113, hx113_0, hx113_1, hx113_2⟩ := at_T80 (by repeat (first | (with_reducible exact HR112_0.out) | (with_reducible refine Kd.C_alloc ?_ _) | (with_reducible refine Kd.C_drewN ?_ _) | (with_reducible refine Kd.C_drew ?_) | exact HR112_0.out)) x9_2 p113 q113
                   cases e113
                   replace p113 := eq_true p113
                   replace q113 := eq_true q113
                   try go_wp2
                   have n0_ := Aside0.mk (Kd.S_drew HO_6.out)
                   have n1_ := Aside0.mk (Kd.R_drew HO_7.out)
                   have n2_ := Aside0.mk (Kd.R_drew HL111_0.out)
                   have n3_ := Aside0.mk (Kd.R_drew HL112_0.out)
                   have n4_ := Aside0.mk (blk_drew BK101.out)
                   have n5_ := Aside0.mk (Kd.C_drew HR111_0.out)
                   have n6_ := Aside0.mk (Kd.C_drew HR112_0.out)
                   have n7_ := Aside0.mk (below_drew1 HB.out)
                   clear HO_6
                   clear HO_7
                   clear HL111_0
                   clear HL112_0
                   clear BK101
                   clear HR111_0
                   clear HR112_0
                   clear HB
                   have HO_6 := n0_
                   have HO_7 := n1_
                   have HL111_0 := n2_
                   have HL112_0 := n3_
                   have BK101 := n4_
                   have HR111_0 := n5_
                   have HR112_0 := n6_
                   have HB := n7_
                   clear n0_ n1_ n2_ n3_ n4_ n5_ n6_ n7_
                   obtain ⟨Ao34, co34, eo34⟩ := Kd.R_slice HO_7.out
                   (first | subst eo34 | (injection eo34 with f1_ f2_ f3_; have f4_ := f1_.symm; have f5_ := f3_.symm; clear f1_ f2_ f3_; subst f4_; subst f5_))
                   have p114 : 0 ≤ (((rd_T80 (rd_L80 t102 a1) x9_2).f2) : Int) := tD
                   have q114 : ((rd_T80 (rd_L80 t102 a1) x9_2).f2) < (t108.length : Int) := tD
                   obtain ⟨ad114, e114, hx114_0⟩ := Kd.at_int (Kd.R_reads' HO_7.out).2.2 ((rd_T80 (rd_L80 t102 a1) x9_2).f2) p114 q114
                   cases e114
                   replace p114 := eq_true p114
                   replace q114 := eq_true q114
                   have p115 : 0 ≤ (((rd_T80 (rd_L80 t102 a1) x9_2).f2) : Int) := tD
                   have q115 : ((rd_T80 (rd_L80 t102 a1) x9_2).f2) < (t108.length : Int) := tD
                   obtain ⟨ad115, e115, hx115_0⟩ := Kd.at_int (Kd.R_reads' HO_7.out).2.2 ((rd_T80 (rd_L80 t102 a1) x9_2).f2) p115 q115
                   obtain rfl : ad114 = ad115 := (by injection e115)
                   replace p115 := eq_true p115
                   replace q115 := eq_true q115
                   have p116 : 0 ≤ (a1 : Int) := tD
                   have q116 : a1 < (t102.length : Int) := tD
                   obtain ⟨ad116, A116_0, c116_0, e116, hx116_0, hl116_0, hi116_0⟩ := at_L80 (Kd.S_reads' HO_6.out).2.2 a1 p116 q116
                   obtain rfl : ad111 = ad116 := (by injection e116)
                   obtain ⟨ce116, hce116, hMe116, hcc116⟩ := Kd.S_get HO_6.out [] a1 p116 (by first | exact q116 | exact tD | (have e_ := (Kd.S_reads' HO_6.out).1; omega))
                   obtain ⟨ve116_0, rfl, ge116_0⟩ := hMe116
                   have hv116_0 := hcc116 0 _ rfl
                   rw [Nat.add_zero, show ((Kd.slice 80 k80)).sz = 1 from rfl, Nat.mul_one] at hv116_0
                   replace hv116_0 := Option.some.inj (hv116_0.symm.trans hx116_0)
                   rw [hv116_0] at ge116_0
                   have HL116_0 := Aside0.mk (show Kd.R k80 80 _ _ _ _ (rd_L80 t102 a1) from ge116_0)
                   clear hv116_0 ge116_0
                   clear hcc116 hce116
                   have HR116_0 := Aside0.mk hi116_0
                   have HC116_0 := Aside0.mk hl116_0
                   clear hi116_0 hl116_0
                   replace p116 := eq_true p116
                   replace q116 := eq_true q116
                   have p117 : 0 ≤ (x8_2 : Int) := tD
                   have q117 : x8_2 < ((rd_L80 t102 a1).length : Int) := tD
                   obtain ⟨ad117, e117, hx117_0, hx117_1, hx117_2⟩ := at_T80 (by repeat (first | (with_reducible exact HR116_0.out) | (with_reducible refine Kd.C_alloc ?_ _) | (with_reducible refine Kd.C_drewN ?_ _) | (with_reducible refine Kd.C_drew ?_) | exact HR116_0.out)) x8_2 p117 q117
                   cases e117
                   replace p117 := eq_true p117
                   replace q117 := eq_true q117
                   have p118 : 0 ≤ (((rd_T80 (rd_L80 t102 a1) x8_2).f2) : Int) := tD
                   have q118 : ((rd_T80 (rd_L80 t102 a1) x8_2).f2) < (t108.length : Int) := tD
                   obtain ⟨ad118, e118, hx118_0⟩ := Kd.at_int (Kd.R_reads' HO_7.out).2.2 ((rd_T80 (rd_L80 t102 a1) x8_2).f2) p118 q118
                   obtain rfl : ad114 = ad118 := (by injection e118)
                   replace p118 := eq_true p118
                   replace q118 := eq_true q118
                   refine start_ (n := 27) (S := fun w' => w'.cell? (ad114.add (((rd_T80 (rd_L80 t102 a1) x9_2).f2)).toNat) = some (.int .i64 (rd t108 ((rd_T80 (rd_L80 t102 a1) x9_2).f2))) ∧ w'.cell? (ad114.add (((rd_T80 (rd_L80 t102 a1) x9_2).f2)).toNat) = some (.int .i64 (rd t108 ((rd_T80 (rd_L80 t102 a1) x9_2).f2))) ∧ w'.cell? (ad111.add (a1).toNat) = some (.slice (some ad117) (rd_L80 t102 a1).length c116_0) ∧ w'.cell? (ad117.add ((x8_2).toNat * 3)) = some (.int .i64 ((rd_T80 (rd_L80 t102 a1) x8_2).f0)) ∧ w'.cell? ⟨(ad117.add ((x8_2).toNat * 3)).block, (ad117.add ((x8_2).toNat * 3)).off + 1, none⟩ = some (.int .i64 ((rd_T80 (rd_L80 t102 a1) x8_2).f1)) ∧ w'.cell? ⟨(ad117.add ((x8_2).toNat * 3)).block, (ad117.add ((x8_2).toNat * 3)).off + 2, none⟩ = some (.int .i64 ((rd_T80 (rd_L80 t102 a1) x8_2).f2)) ∧ w'.cell? (ad114.add (((rd_T80 (rd_L80 t102 a1) x8_2).f2)).toNat) = some (.int .i64 (rd t108 ((rd_T80 (rd_L80 t102 a1) x8_2).f2)))) (ds := []) #[false, false, false, false, false, false, false, false, false, false, false, false, false, false, false, false, false, false, false, false, false, false, false, false, false, false, false] (by kernel_rfl) rfl rfl ⟨hx114_0, hx115_0, hx116_0, hx117_0, hx117_1, hx117_2, hx118_0⟩ (fun hHeld => ?_); refine with_tabW petrinetref16_Loop.tab10 petrinetref16_Loop.bits10 (fun HT_ HW_ => ?_)
                   generalize wr.drew = w33 at HO_6 HO_7 HL111_0 HL112_0 BK101 HR111_0 HR112_0 HB HL116_0 HR116_0 hx114_0 hx115_0 hx116_0 hx117_0 hx117_1 hx117_2 hx118_0 hHeld ⊢
                   refine pure_ (i := 0) (N := some 48) (v := ?_) (a' := ?_) #[true, false, false, false, false, false, false, false, false, false, false, false, false, false, false, false, false, false, false, false, false, false, false, false, false, false, false] rfl rfl (any_of HT_.out (by kernel_rfl)) (fun _ _ _ h => h) (Or.inl ⟨by rfl, ?_⟩) ?_ ?_
                   rotate_left
                   ·intro w'
                    go_simp
                    with_reducible rfl
                   rotate_left
                   ·simp only [tS, i64_w, i32_w]
                    rfl
                   refine pure_ (i := 1) (N := some 49) (v := ?_) (a' := ?_) #[true, true, false, false, false, false, false, false, false, false, false, false, false, false, false, false, false, false, false, false, false, false, false, false, false, false, false] rfl rfl (any_of HT_.out (by kernel_rfl)) (fun _ _ _ h => h) (Or.inl ⟨by rfl, ?_⟩) ?_ ?_
                   rotate_left
                   ·intro w'
                    go_simp
                    with_reducible rfl
                   rotate_left
                   ·simp only [tS, i64_w, i32_w]
                    rfl
                   refine pure_ (i := 2) (N := some 50) (v := ?_) (a' := ?_) #[true, true, true, false, false, false, false, false, false, false, false, false, false, false, false, false, false, false, false, false, false, false, false, false, false, false, false] rfl rfl (any_of HT_.out (by kernel_rfl)) (fun _ _ _ h => h) (Or.inl ⟨by rfl, ?_⟩) ?_ ?_
                   rotate_left
                   ·intro w'
                    go_simp
                    with_reducible rfl
                   rotate_left
                   ·simp only [tS, i64_w, i32_w]
                    rfl
                   refine take_ (i := 3) (N := some 51) (v := ?_) (a' := ?_) #[true, true, true, true, false, false, false, false, false, false, false, false, false, false, false, false, false, false, false, false, false, false, false, false, false, false, false] rfl rfl (take_ofW HT_.out HW_.out (by kernel_rfl)) (fun _ _ _ h => h) (Or.inl ⟨by rfl, ?_⟩) hHeld ?_ ?_
                   rotate_left
                   ·rintro w' ⟨s0, s1, s2, s3, s4, s5, s6⟩
                    go_simp
                    with_reducible rfl
                   rotate_left
                   ·simp only [tS, i64_w, i32_w]
                    rfl
                   refine pure_ (i := 4) (N := some 52) (v := ?_) (a' := ?_) #[true, true, true, true, true, false, false, false, false, false, false, false, false, false, false, false, false, false, false, false, false, false, false, false, false, false, false] rfl rfl (any_of HT_.out (by kernel_rfl)) (fun _ _ _ h => h) (Or.inl ⟨by rfl, ?_⟩) ?_ ?_
                   rotate_left
                   ·intro w'
                    go_simp
                    with_reducible rfl
                   rotate_left
                   ·simp only [tS, i64_w, i32_w]
                    rfl
                   refine pure_ (i := 5) (N := some 53) (v := ?_) (a' := ?_) #[true, true, true, true, true, true, false, false, false, false, false, false, false, false, false, false, false, false, false, false, false, false, false, false, false, false, false] rfl rfl (any_of HT_.out (by kernel_rfl)) (fun _ _ _ h => h) (Or.inl ⟨by rfl, ?_⟩) ?_ ?_
                   rotate_left
                   ·intro w'
                    go_simp
                    with_reducible rfl
                   rotate_left
                   ·simp only [tS, i64_w, i32_w]
                    rfl
                   refine pure_ (i := 6) (N := some 54) (v := ?_) (a' := ?_) #[true, true, true, true, true, true, true, false, false, false, false, false, false, false, false, false, false, false, false, false, false, false, false, false, false, false, false] rfl rfl (any_of HT_.out (by kernel_rfl)) (fun _ _ _ h => h) (Or.inl ⟨by rfl, ?_⟩) ?_ ?_
                   rotate_left
                   ·intro w'
                    go_simp
                    with_reducible rfl
                   rotate_left
                   ·simp only [tS, i64_w, i32_w]
                    rfl
                   refine pure_ (i := 7) (N := some 55) (v := ?_) (a' := ?_) #[true, true, true, true, true, true, true, true, false, false, false, false, false, false, false, false, false, false, false, false, false, false, false, false, false, false, false] rfl rfl (any_of HT_.out (by kernel_rfl)) (fun _ _ _ h => h) (Or.inl ⟨by rfl, ?_⟩) ?_ ?_
                   rotate_left
                   ·intro w'
                    go_simp
                    with_reducible rfl
                   rotate_left
                   ·simp only [tS, i64_w, i32_w]
                    rfl
                   refine pure_ (i := 8) (N := some 56) (v := ?_) (a' := ?_) #[true, true, true, true, true, true, true, true, true, false, false, false, false, false, false, false, false, false, false, false, false, false, false, false, false, false, false] rfl rfl (any_of HT_.out (by kernel_rfl)) (fun _ _ _ h => h) (Or.inl ⟨by rfl, ?_⟩) ?_ ?_
                   rotate_left
                   ·intro w'
                    go_simp
                    with_reducible rfl
                   rotate_left
                   ·simp only [tS, i64_w, i32_w]
                    rfl
                   refine pure_ (i := 9) (N := some 57) (v := ?_) (a' := ?_) #[true, true, true, true, true, true, true, true, true, true, false, false, false, false, false, false, false, false, false, false, false, false, false, false, false, false, false] rfl rfl (any_of HT_.out (by kernel_rfl)) (fun _ _ _ h => h) (Or.inl ⟨by rfl, ?_⟩) ?_ ?_
                   rotate_left
                   ·intro w'
                    go_simp
                    with_reducible rfl
                   rotate_left
                   ·simp only [tS, i64_w, i32_w]
                    rfl
                   refine pure_ (i := 10) (N := some 58) (v := ?_) (a' := ?_) #[true, true, true, true, true, true, true, true, true, true, true, false, false, false, false, false, false, false, false, false, false, false, false, false, false, false, false] rfl rfl (any_of HT_.out (by kernel_rfl)) (fun _ _ _ h => h) (Or.inl ⟨by rfl, ?_⟩) ?_ ?_
                   rotate_left
                   ·intro w'
                    go_simp
                    with_reducible rfl
                   rotate_left
                   ·simp only [tS, i64_w, i32_w]
                    rfl
                   refine pure_ (i := 11) (N := some 59) (v := ?_) (a' := ?_) #[true, true, true, true, true, true, true, true, true, true, true, true, false, false, false, false, false, false, false, false, false, false, false, false, false, false, false] rfl rfl (any_of HT_.out (by kernel_rfl)) (fun _ _ _ h => h) (Or.inl ⟨by rfl, ?_⟩) ?_ ?_
                   rotate_left
                   ·intro w'
                    go_simp
                    with_reducible rfl
                   rotate_left
                   ·simp only [tS, i64_w, i32_w]
                    rfl
                   refine pure_ (i := 13) (N := some 61) (v := ?_) (a' := ?_) #[true, true, true, true, true, true, true, true, true, true, true, true, false, true, false, false, false, false, false, false, false, false, false, false, false, false, false] rfl rfl (any_of HT_.out (by kernel_rfl)) (fun _ _ _ h => h) (Or.inl ⟨by rfl, ?_⟩) ?_ ?_
                   rotate_left
                   ·intro w'
                    go_simp
                    with_reducible rfl
                   rotate_left
                   ·simp only [tS, i64_w, i32_w]
                    rfl
                   refine pure_ (i := 14) (N := some 62) (v := ?_) (a' := ?_) #[true, true, true, true, true, true, true, true, true, true, true, true, false, true, true, false, false, false, false, false, false, false, false, false, false, false, false] rfl rfl (any_of HT_.out (by kernel_rfl)) (fun _ _ _ h => h) (Or.inl ⟨by rfl, ?_⟩) ?_ ?_
                   rotate_left
                   ·intro w'
                    go_simp
                    with_reducible rfl
                   rotate_left
                   ·simp only [tS, i64_w, i32_w]
                    rfl
                   refine pure_ (i := 15) (N := some 63) (v := ?_) (a' := ?_) #[true, true, true, true, true, true, true, true, true, true, true, true, false, true, true, true, false, false, false, false, false, false, false, false, false, false, false] rfl rfl (any_of HT_.out (by kernel_rfl)) (fun _ _ _ h => h) (Or.inl ⟨by rfl, ?_⟩) ?_ ?_
                   rotate_left
                   ·intro w'
                    go_simp
                    with_reducible rfl
                   rotate_left
                   ·simp only [tS, i64_w, i32_w]
                    rfl
                   refine pure_ (i := 16) (N := some 64) (v := ?_) (a' := ?_) #[true, true, true, true, true, true, true, true, true, true, true, true, false, true, true, true, true, false, false, false, false, false, false, false, false, false, false] rfl rfl (any_of HT_.out (by kernel_rfl)) (fun _ _ _ h => h) (Or.inl ⟨by rfl, ?_⟩) ?_ ?_
                   rotate_left
                   ·intro w'
                    go_simp
                    with_reducible rfl
                   rotate_left
                   ·simp only [tS, i64_w, i32_w]
                    rfl
                   refine pure_ (i := 18) (N := some 66) (v := ?_) (a' := ?_) #[true, true, true, true, true, true, true, true, true, true, true, true, false, true, true, true, true, false, true, false, false, false, false, false, false, false, false] rfl rfl (any_of HT_.out (by kernel_rfl)) (fun _ _ _ h => h) (Or.inl ⟨by rfl, ?_⟩) ?_ ?_
                   rotate_left
                   ·intro w'
                    go_simp
                    with_reducible rfl
                   rotate_left
                   ·simp only [tS, i64_w, i32_w]
                    rfl
                   refine take_ (i := 12) (N := some 60) (v := ?_) (a' := ?_) #[true, true, true, true, true, true, true, true, true, true, true, true, true, true, true, true, true, false, true, false, false, false, false, false, false, false, false] rfl rfl (take_ofW HT_.out HW_.out (by kernel_rfl)) (fun _ _ _ h => h) (Or.inl ⟨by rfl, ?_⟩) hHeld ?_ ?_
                   rotate_left
                   ·rintro w' ⟨s0, s1, s2, s3, s4, s5, s6⟩
                    go_simp
                    with_reducible rfl
                   rotate_left
                   ·simp only [tS, i64_w, i32_w]
                    rfl
                   refine take_ (i := 17) (N := some 65) (v := ?_) (a' := ?_) #[true, true, true, true, true, true, true, true, true, true, true, true, true, true, true, true, true, true, true, false, false, false, false, false, false, false, false] rfl rfl (take_ofW HT_.out HW_.out (by kernel_rfl)) (fun _ _ _ h => h) (Or.inl ⟨by rfl, ?_⟩) hHeld ?_ ?_
                   rotate_left
                   ·rintro w' ⟨s0, s1, s2, s3, s4, s5, s6⟩
                    go_simp
                    with_reducible rfl
                   rotate_left
                   ·simp only [tS, i64_w, i32_w]
                    rfl
                   refine pure_ (i := 19) (N := some 67) (v := ?_) (a' := ?_) #[true, true, true, true, true, true, true, true, true, true, true, true, true, true, true, true, true, true, true, true, false, false, false, false, false, false, false] rfl rfl (any_of HT_.out (by kernel_rfl)) (fun _ _ _ h => h) (Or.inl ⟨by rfl, ?_⟩) ?_ ?_
                   rotate_left
                   ·intro w'
                    go_simp
                    with_reducible rfl
                   rotate_left
                   ·simp only [tS, i64_w, i32_w]
                    rfl
                   refine pure_ (i := 20) (N := some 68) (v := ?_) (a' := ?_) #[true, true, true, true, true, true, true, true, true, true, true, true, true, true, true, true, true, true, true, true, true, false, false, false, false, false, false] rfl rfl (any_of HT_.out (by kernel_rfl)) (fun _ _ _ h => h) (Or.inl ⟨by rfl, ?_⟩) ?_ ?_
                   rotate_left
                   ·intro w'
                    go_simp
                    with_reducible rfl
                   rotate_left
                   ·simp only [tS, i64_w, i32_w]
                    rfl
                   refine take_ (i := 21) (N := some 69) (v := ?_) (a' := ?_) #[true, true, true, true, true, true, true, true, true, true, true, true, true, true, true, true, true, true, true, true, true, true, false, false, false, false, false] rfl rfl (take_ofW HT_.out HW_.out (by kernel_rfl)) (fun _ _ _ h => h) (Or.inl ⟨by rfl, ?_⟩) hHeld ?_ ?_
                   rotate_left
                   ·rintro w' ⟨s0, s1, s2, s3, s4, s5, s6⟩
                    go_simp
                    with_reducible rfl
                   rotate_left
                   ·simp only [tS, i64_w, i32_w]
                    rfl
                   refine pure_ (i := 22) (N := some 70) (v := ?_) (a' := ?_) #[true, true, true, true, true, true, true, true, true, true, true, true, true, true, true, true, true, true, true, true, true, true, true, false, false, false, false] rfl rfl (any_of HT_.out (by kernel_rfl)) (fun _ _ _ h => h) (Or.inl ⟨by rfl, ?_⟩) ?_ ?_
                   rotate_left
                   ·intro w'
                    go_simp
                    with_reducible rfl
                   rotate_left
                   ·simp only [tS, i64_w, i32_w]
                    rfl
                   refine take_ (i := 23) (N := some 71) (v := ?_) (a' := ?_) #[true, true, true, true, true, true, true, true, true, true, true, true, true, true, true, true, true, true, true, true, true, true, true, true, false, false, false] rfl rfl (take_ofW HT_.out HW_.out (by kernel_rfl)) (fun _ _ _ h => h) (Or.inl ⟨by rfl, ?_⟩) hHeld ?_ ?_
                   rotate_left
                   ·rintro w' ⟨s0, s1, s2, s3, s4, s5, s6⟩
                    go_simp
                    with_reducible rfl
                   rotate_left
                   ·simp only [tS, i64_w, i32_w]
                    rfl
                   refine pure_ (i := 24) (N := some 72) (v := ?_) (a' := ?_) #[true, true, true, true, true, true, true, true, true, true, true, true, true, true, true, true, true, true, true, true, true, true, true, true, true, false, false] rfl rfl (any_of HT_.out (by kernel_rfl)) (fun _ _ _ h => h) (Or.inl ⟨by rfl, ?_⟩) ?_ ?_
                   rotate_left
                   ·intro w'
                    go_simp
                    with_reducible rfl
                   rotate_left
                   ·simp only [tS, i64_w, i32_w]
                    rfl
                   refine pure_ (i := 25) (N := some 73) (v := ?_) (a' := ?_) #[true, true, true, true, true, true, true, true, true, true, true, true, true, true, true, true, true, true, true, true, true, true, true, true, true, true, false] rfl rfl (any_of HT_.out (by kernel_rfl)) (fun _ _ _ h => h) (Or.inl ⟨by rfl, ?_⟩) ?_ ?_
                   rotate_left
                   ·intro w'
                    go_simp
                    with_reducible rfl
                   rotate_left
                   ·simp only [tS, i64_w, i32_w]
                    rfl
                   refine pure_ (i := 26) (N := some 74) (v := ?_) (a' := ?_) #[true, true, true, true, true, true, true, true, true, true, true, true, true, true, true, true, true, true, true, true, true, true, true, true, true, true, true] rfl rfl (any_of HT_.out (by kernel_rfl)) (fun _ _ _ h => h) (Or.inl ⟨by rfl, ?_⟩) ?_ ?_
                   rotate_left
                   ·intro w'
                    go_simp
                    with_reducible rfl
                   rotate_left
                   ·simp only [tS, i64_w, i32_w]
                    rfl
                   refine done_ (done_of HT_.out (by kernel_rfl)) ?_
                   try go_wp2
                   go_roundg k2
                   case measure => have := HJ2.out; have := HK2.out; omega
                   case rel => exact ⟨(x9_2), (wrap64 (x9_2 + 1)), (by first | rfl | (simp; done) | (simp [*]; done)), (by first | rfl | (simp; done) | (simp [*]; done)), H', ⟨by have := HJ2.out; have := HK2.out; omega⟩, ⟨tR HO_6⟩, ⟨tR HO_7⟩, ⟨tK BK101⟩, ⟨tB⟩⟩
                  ·rw [if_neg c32] at H
                   have c32b0 : decide ((rd t108 ((rd_T80 (rd_L80 t102 a1) x9_2).f2)) < (rd t108 ((rd_T80 (rd_L80 t102 a1) x8_2).f2))) = false := decide_eq_false c32
                   clear c32
                   have H' := Aside0.mk H
                   clear H
                   have p111 : 0 ≤ (a1 : Int) := tD
                   have q111 : a1 < (t102.length : Int) := tD
                   obtain ⟨ad111, A111_0, c111_0, e111, hx111_0, hl111_0, hi111_0⟩ := at_L80 (Kd.S_reads' HO_6.out).2.2 a1 p111 q111
                   cases e111
                   obtain ⟨ce111, hce111, hMe111, hcc111⟩ := Kd.S_get HO_6.out [] a1 p111 (by first | exact q111 | exact tD | (have e_ := (Kd.S_reads' HO_6.out).1; omega))
                   obtain ⟨ve111_0, rfl, ge111_0⟩ := hMe111
                   have hv111_0 := hcc111 0 _ rfl
                   rw [Nat.add_zero, show ((Kd.slice 80 k80)).sz = 1 from rfl, Nat.mul_one] at hv111_0
                   replace hv111_0 := Option.some.inj (hv111_0.symm.trans hx111_0)
                   rw [hv111_0] at ge111_0
                   have HL111_0 := Aside0.mk (show Kd.R k80 80 _ _ _ _ (rd_L80 t102 a1) from ge111_0)
                   clear hv111_0 ge111_0
                   clear hcc111 hce111
                   have HR111_0 := Aside0.mk hi111_0
                   have HC111_0 := Aside0.mk hl111_0
                   clear hi111_0 hl111_0
                   replace p111 := eq_true p111
                   replace q111 := eq_true q111
                   have p112 : 0 ≤ (a1 : Int) := tD
                   have q112 : a1 < (t102.length : Int) := tD
                   obtain ⟨ad112, A112_0, c112_0, e112, hx112_0, hl112_0, hi112_0⟩ := at_L80 (Kd.S_reads' HO_6.out).2.2 a1 p112 q112
                   obtain rfl : ad111 = ad112 := (by injection e112)
                   obtain ⟨ce112, hce112, hMe112, hcc112⟩ := Kd.S_get HO_6.out [] a1 p112 (by first | exact q112 | exact tD | (have e_ := (Kd.S_reads' HO_6.out).1; omega))
                   obtain ⟨ve112_0, rfl, ge112_0⟩ := hMe112
                   have hv112_0 := hcc112 0 _ rfl
                   rw [Nat.add_zero, show ((Kd.slice 80 k80)).sz = 1 from rfl, Nat.mul_one] at hv112_0
                   replace hv112_0 := Option.some.inj (hv112_0.symm.trans hx112_0)
                   rw [hv112_0] at ge112_0
                   have HL112_0 := Aside0.mk (show Kd.R k80 80 _ _ _ _ (rd_L80 t102 a1) from ge112_0)
                   clear hv112_0 ge112_0
                   clear hcc112 hce112
                   have HR112_0 := Aside0.mk hi112_0
                   have HC112_0 := Aside0.mk hl112_0
                   clear hi112_0 hl112_0
                   replace p112 := eq_true p112
                   replace q112 := eq_true q112
                   have ea_ := Option.some.inj (hx111_0.symm.trans hx112_0)
                   injection ea_ with ea_ en_ ec_
                   subst ea_
                   subst ec_
                   clear en_
                   have p113 : 0 ≤ (x9_2 : Int) := tD
                   have q113 : x9_2 < ((rd_L80 t102 a1).length : Int) := tD
                   obtain ⟨ad113, e113, hx113_0, hx113_1, hx113_2⟩ := at_T80 (by repeat (first | (with_reducible exact HR112_0.out) | (with_reducible refine Kd.C_alloc ?_ _) | (with_reducible refine Kd.C_drewN ?_ _) | (with_reducible refine Kd.C_drew ?_) | exact HR112_0.out)) x9_2 p113 q113
                   cases e113
                   replace p113 := eq_true p113
                   replace q113 := eq_true q113
                   try go_wp2
                   have n0_ := Aside0.mk (Kd.S_drew HO_6.out)
                   have n1_ := Aside0.mk (Kd.R_drew HO_7.out)
                   have n2_ := Aside0.mk (Kd.R_drew HL111_0.out)
                   have n3_ := Aside0.mk (Kd.R_drew HL112_0.out)
                   have n4_ := Aside0.mk (blk_drew BK101.out)
                   have n5_ := Aside0.mk (Kd.C_drew HR111_0.out)
                   have n6_ := Aside0.mk (Kd.C_drew HR112_0.out)
                   have n7_ := Aside0.mk (below_drew1 HB.out)
                   clear HO_6
                   clear HO_7
                   clear HL111_0
                   clear HL112_0
                   clear BK101
                   clear HR111_0
                   clear HR112_0
                   clear HB
                   have HO_6 := n0_
                   have HO_7 := n1_
                   have HL111_0 := n2_
                   have HL112_0 := n3_
                   have BK101 := n4_
                   have HR111_0 := n5_
                   have HR112_0 := n6_
                   have HB := n7_
                   clear n0_ n1_ n2_ n3_ n4_ n5_ n6_ n7_
                   obtain ⟨Ao36, co36, eo36⟩ := Kd.R_slice HO_7.out
                   (first | subst eo36 | (injection eo36 with f1_ f2_ f3_; have f4_ := f1_.symm; have f5_ := f3_.symm; clear f1_ f2_ f3_; subst f4_; subst f5_))
                   have p114 : 0 ≤ (((rd_T80 (rd_L80 t102 a1) x9_2).f2) : Int) := tD
                   have q114 : ((rd_T80 (rd_L80 t102 a1) x9_2).f2) < (t108.length : Int) := tD
                   obtain ⟨ad114, e114, hx114_0⟩ := Kd.at_int (Kd.R_reads' HO_7.out).2.2 ((rd_T80 (rd_L80 t102 a1) x9_2).f2) p114 q114
                   cases e114
                   replace p114 := eq_true p114
                   replace q114 := eq_true q114
                   have p115 : 0 ≤ (((rd_T80 (rd_L80 t102 a1) x9_2).f2) : Int) := tD
                   have q115 : ((rd_T80 (rd_L80 t102 a1) x9_2).f2) < (t108.length : Int) := tD
                   obtain ⟨ad115, e115, hx115_0⟩ := Kd.at_int (Kd.R_reads' HO_7.out).2.2 ((rd_T80 (rd_L80 t102 a1) x9_2).f2) p115 q115
                   obtain rfl : ad114 = ad115 := (by injection e115)
                   replace p115 := eq_true p115
                   replace q115 := eq_true q115
                   have p116 : 0 ≤ (a1 : Int) := tD
                   have q116 : a1 < (t102.length : Int) := tD
                   obtain ⟨ad116, A116_0, c116_0, e116, hx116_0, hl116_0, hi116_0⟩ := at_L80 (Kd.S_reads' HO_6.out).2.2 a1 p116 q116
                   obtain rfl : ad111 = ad116 := (by injection e116)
                   obtain ⟨ce116, hce116, hMe116, hcc116⟩ := Kd.S_get HO_6.out [] a1 p116 (by first | exact q116 | exact tD | (have e_ := (Kd.S_reads' HO_6.out).1; omega))
                   obtain ⟨ve116_0, rfl, ge116_0⟩ := hMe116
                   have hv116_0 := hcc116 0 _ rfl
                   rw [Nat.add_zero, show ((Kd.slice 80 k80)).sz = 1 from rfl, Nat.mul_one] at hv116_0
                   replace hv116_0 := Option.some.inj (hv116_0.symm.trans hx116_0)
                   rw [hv116_0] at ge116_0
                   have HL116_0 := Aside0.mk (show Kd.R k80 80 _ _ _ _ (rd_L80 t102 a1) from ge116_0)
                   clear hv116_0 ge116_0
                   clear hcc116 hce116
                   have HR116_0 := Aside0.mk hi116_0
                   have HC116_0 := Aside0.mk hl116_0
                   clear hi116_0 hl116_0
                   replace p116 := eq_true p116
                   replace q116 := eq_true q116
                   have p117 : 0 ≤ (x8_2 : Int) := tD
                   have q117 : x8_2 < ((rd_L80 t102 a1).length : Int) := tD
                   obtain ⟨ad117, e117, hx117_0, hx117_1, hx117_2⟩ := at_T80 (by repeat (first | (with_reducible exact HR116_0.out) | (with_reducible refine Kd.C_alloc ?_ _) | (with_reducible refine Kd.C_drewN ?_ _) | (with_reducible refine Kd.C_drew ?_) | exact HR116_0.out)) x8_2 p117 q117
                   cases e117
                   replace p117 := eq_true p117
                   replace q117 := eq_true q117
                   have p118 : 0 ≤ (((rd_T80 (rd_L80 t102 a1) x8_2).f2) : Int) := tD
                   have q118 : ((rd_T80 (rd_L80 t102 a1) x8_2).f2) < (t108.length : Int) := tD
                   obtain ⟨ad118, e118, hx118_0⟩ := Kd.at_int (Kd.R_reads' HO_7.out).2.2 ((rd_T80 (rd_L80 t102 a1) x8_2).f2) p118 q118
                   obtain rfl : ad114 = ad118 := (by injection e118)
                   replace p118 := eq_true p118
                   replace q118 := eq_true q118
                   refine start_ (n := 27) (S := fun w' => w'.cell? (ad114.add (((rd_T80 (rd_L80 t102 a1) x9_2).f2)).toNat) = some (.int .i64 (rd t108 ((rd_T80 (rd_L80 t102 a1) x9_2).f2))) ∧ w'.cell? (ad114.add (((rd_T80 (rd_L80 t102 a1) x9_2).f2)).toNat) = some (.int .i64 (rd t108 ((rd_T80 (rd_L80 t102 a1) x9_2).f2))) ∧ w'.cell? (ad111.add (a1).toNat) = some (.slice (some ad117) (rd_L80 t102 a1).length c116_0) ∧ w'.cell? (ad117.add ((x8_2).toNat * 3)) = some (.int .i64 ((rd_T80 (rd_L80 t102 a1) x8_2).f0)) ∧ w'.cell? ⟨(ad117.add ((x8_2).toNat * 3)).block, (ad117.add ((x8_2).toNat * 3)).off + 1, none⟩ = some (.int .i64 ((rd_T80 (rd_L80 t102 a1) x8_2).f1)) ∧ w'.cell? ⟨(ad117.add ((x8_2).toNat * 3)).block, (ad117.add ((x8_2).toNat * 3)).off + 2, none⟩ = some (.int .i64 ((rd_T80 (rd_L80 t102 a1) x8_2).f2)) ∧ w'.cell? (ad114.add (((rd_T80 (rd_L80 t102 a1) x8_2).f2)).toNat) = some (.int .i64 (rd t108 ((rd_T80 (rd_L80 t102 a1) x8_2).f2)))) (ds := []) #[false, false, false, false, false, false, false, false, false, false, false, false, false, false, false, false, false, false, false, false, false, false, false, false, false, false, false] (by kernel_rfl) rfl rfl ⟨hx114_0, hx115_0, hx116_0, hx117_0, hx117_1, hx117_2, hx118_0⟩ (fun hHeld => ?_); refine with_tabW petrinetref16_Loop.tab10 petrinetref16_Loop.bits10 (fun HT_ HW_ => ?_)
                   generalize wr.drew = w35 at HO_6 HO_7 HL111_0 HL112_0 BK101 HR111_0 HR112_0 HB HL116_0 HR116_0 hx114_0 hx115_0 hx116_0 hx117_0 hx117_1 hx117_2 hx118_0 hHeld ⊢
                   refine pure_ (i := 0) (N := some 48) (v := ?_) (a' := ?_) #[true, false, false, false, false, false, false, false, false, false, false, false, false, false, false, false, false, false, false, false, false, false, false, false, false, false, false] rfl rfl (any_of HT_.out (by kernel_rfl)) (fun _ _ _ h => h) (Or.inl ⟨by rfl, ?_⟩) ?_ ?_
                   rotate_left
                   ·intro w'
                    go_simp
                    with_reducible rfl
                   rotate_left
                   ·simp only [tS, i64_w, i32_w]
                    rfl
                   refine pure_ (i := 1) (N := some 49) (v := ?_) (a' := ?_) #[true, true, false, false, false, false, false, false, false, false, false, false, false, false, false, false, false, false, false, false, false, false, false, false, false, false, false] rfl rfl (any_of HT_.out (by kernel_rfl)) (fun _ _ _ h => h) (Or.inl ⟨by rfl, ?_⟩) ?_ ?_
                   rotate_left
                   ·intro w'
                    go_simp
                    with_reducible rfl
                   rotate_left
                   ·simp only [tS, i64_w, i32_w]
                    rfl
                   refine pure_ (i := 2) (N := some 50) (v := ?_) (a' := ?_) #[true, true, true, false, false, false, false, false, false, false, false, false, false, false, false, false, false, false, false, false, false, false, false, false, false, false, false] rfl rfl (any_of HT_.out (by kernel_rfl)) (fun _ _ _ h => h) (Or.inl ⟨by rfl, ?_⟩) ?_ ?_
                   rotate_left
                   ·intro w'
                    go_simp
                    with_reducible rfl
                   rotate_left
                   ·simp only [tS, i64_w, i32_w]
                    rfl
                   refine take_ (i := 3) (N := some 51) (v := ?_) (a' := ?_) #[true, true, true, true, false, false, false, false, false, false, false, false, false, false, false, false, false, false, false, false, false, false, false, false, false, false, false] rfl rfl (take_ofW HT_.out HW_.out (by kernel_rfl)) (fun _ _ _ h => h) (Or.inl ⟨by rfl, ?_⟩) hHeld ?_ ?_
                   rotate_left
                   ·rintro w' ⟨s0, s1, s2, s3, s4, s5, s6⟩
                    go_simp
                    with_reducible rfl
                   rotate_left
                   ·simp only [tS, i64_w, i32_w]
                    rfl
                   refine pure_ (i := 4) (N := some 52) (v := ?_) (a' := ?_) #[true, true, true, true, true, false, false, false, false, false, false, false, false, false, false, false, false, false, false, false, false, false, false, false, false, false, false] rfl rfl (any_of HT_.out (by kernel_rfl)) (fun _ _ _ h => h) (Or.inl ⟨by rfl, ?_⟩) ?_ ?_
                   rotate_left
                   ·intro w'
                    go_simp
                    with_reducible rfl
                   rotate_left
                   ·simp only [tS, i64_w, i32_w]
                    rfl
                   refine pure_ (i := 5) (N := some 53) (v := ?_) (a' := ?_) #[true, true, true, true, true, true, false, false, false, false, false, false, false, false, false, false, false, false, false, false, false, false, false, false, false, false, false] rfl rfl (any_of HT_.out (by kernel_rfl)) (fun _ _ _ h => h) (Or.inl ⟨by rfl, ?_⟩) ?_ ?_
                   rotate_left
                   ·intro w'
                    go_simp
                    with_reducible rfl
                   rotate_left
                   ·simp only [tS, i64_w, i32_w]
                    rfl
                   refine pure_ (i := 6) (N := some 54) (v := ?_) (a' := ?_) #[true, true, true, true, true, true, true, false, false, false, false, false, false, false, false, false, false, false, false, false, false, false, false, false, false, false, false] rfl rfl (any_of HT_.out (by kernel_rfl)) (fun _ _ _ h => h) (Or.inl ⟨by rfl, ?_⟩) ?_ ?_
                   rotate_left
                   ·intro w'
                    go_simp
                    with_reducible rfl
                   rotate_left
                   ·simp only [tS, i64_w, i32_w]
                    rfl
                   refine pure_ (i := 7) (N := some 55) (v := ?_) (a' := ?_) #[true, true, true, true, true, true, true, true, false, false, false, false, false, false, false, false, false, false, false, false, false, false, false, false, false, false, false] rfl rfl (any_of HT_.out (by kernel_rfl)) (fun _ _ _ h => h) (Or.inl ⟨by rfl, ?_⟩) ?_ ?_
                   rotate_left
                   ·intro w'
                    go_simp
                    with_reducible rfl
                   rotate_left
                   ·simp only [tS, i64_w, i32_w]
                    rfl
                   refine pure_ (i := 8) (N := some 56) (v := ?_) (a' := ?_) #[true, true, true, true, true, true, true, true, true, false, false, false, false, false, false, false, false, false, false, false, false, false, false, false, false, false, false] rfl rfl (any_of HT_.out (by kernel_rfl)) (fun _ _ _ h => h) (Or.inl ⟨by rfl, ?_⟩) ?_ ?_
                   rotate_left
                   ·intro w'
                    go_simp
                    with_reducible rfl
                   rotate_left
                   ·simp only [tS, i64_w, i32_w]
                    rfl
                   refine pure_ (i := 9) (N := some 57) (v := ?_) (a' := ?_) #[true, true, true, true, true, true, true, true, true, true, false, false, false, false, false, false, false, false, false, false, false, false, false, false, false, false, false] rfl rfl (any_of HT_.out (by kernel_rfl)) (fun _ _ _ h => h) (Or.inl ⟨by rfl, ?_⟩) ?_ ?_
                   rotate_left
                   ·intro w'
                    go_simp
                    with_reducible rfl
                   rotate_left
                   ·simp only [tS, i64_w, i32_w]
                    rfl
                   refine pure_ (i := 10) (N := some 58) (v := ?_) (a' := ?_) #[true, true, true, true, true, true, true, true, true, true, true, false, false, false, false, false, false, false, false, false, false, false, false, false, false, false, false] rfl rfl (any_of HT_.out (by kernel_rfl)) (fun _ _ _ h => h) (Or.inl ⟨by rfl, ?_⟩) ?_ ?_
                   rotate_left
                   ·intro w'
                    go_simp
                    with_reducible rfl
                   rotate_left
                   ·simp only [tS, i64_w, i32_w]
                    rfl
                   refine pure_ (i := 11) (N := some 59) (v := ?_) (a' := ?_) #[true, true, true, true, true, true, true, true, true, true, true, true, false, false, false, false, false, false, false, false, false, false, false, false, false, false, false] rfl rfl (any_of HT_.out (by kernel_rfl)) (fun _ _ _ h => h) (Or.inl ⟨by rfl, ?_⟩) ?_ ?_
                   rotate_left
                   ·intro w'
                    go_simp
                    with_reducible rfl
                   rotate_left
                   ·simp only [tS, i64_w, i32_w]
                    rfl
                   refine pure_ (i := 13) (N := some 61) (v := ?_) (a' := ?_) #[true, true, true, true, true, true, true, true, true, true, true, true, false, true, false, false, false, false, false, false, false, false, false, false, false, false, false] rfl rfl (any_of HT_.out (by kernel_rfl)) (fun _ _ _ h => h) (Or.inl ⟨by rfl, ?_⟩) ?_ ?_
                   rotate_left
                   ·intro w'
                    go_simp
                    with_reducible rfl
                   rotate_left
                   ·simp only [tS, i64_w, i32_w]
                    rfl
                   refine pure_ (i := 14) (N := some 62) (v := ?_) (a' := ?_) #[true, true, true, true, true, true, true, true, true, true, true, true, false, true, true, false, false, false, false, false, false, false, false, false, false, false, false] rfl rfl (any_of HT_.out (by kernel_rfl)) (fun _ _ _ h => h) (Or.inl ⟨by rfl, ?_⟩) ?_ ?_
                   rotate_left
                   ·intro w'
                    go_simp
                    with_reducible rfl
                   rotate_left
                   ·simp only [tS, i64_w, i32_w]
                    rfl
                   refine pure_ (i := 15) (N := some 63) (v := ?_) (a' := ?_) #[true, true, true, true, true, true, true, true, true, true, true, true, false, true, true, true, false, false, false, false, false, false, false, false, false, false, false] rfl rfl (any_of HT_.out (by kernel_rfl)) (fun _ _ _ h => h) (Or.inl ⟨by rfl, ?_⟩) ?_ ?_
                   rotate_left
                   ·intro w'
                    go_simp
                    with_reducible rfl
                   rotate_left
                   ·simp only [tS, i64_w, i32_w]
                    rfl
                   refine pure_ (i := 16) (N := some 64) (v := ?_) (a' := ?_) #[true, true, true, true, true, true, true, true, true, true, true, true, false, true, true, true, true, false, false, false, false, false, false, false, false, false, false] rfl rfl (any_of HT_.out (by kernel_rfl)) (fun _ _ _ h => h) (Or.inl ⟨by rfl, ?_⟩) ?_ ?_
                   rotate_left
                   ·intro w'
                    go_simp
                    with_reducible rfl
                   rotate_left
                   ·simp only [tS, i64_w, i32_w]
                    rfl
                   refine pure_ (i := 18) (N := some 66) (v := ?_) (a' := ?_) #[true, true, true, true, true, true, true, true, true, true, true, true, false, true, true, true, true, false, true, false, false, false, false, false, false, false, false] rfl rfl (any_of HT_.out (by kernel_rfl)) (fun _ _ _ h => h) (Or.inl ⟨by rfl, ?_⟩) ?_ ?_
                   rotate_left
                   ·intro w'
                    go_simp
                    with_reducible rfl
                   rotate_left
                   ·simp only [tS, i64_w, i32_w]
                    rfl
                   refine take_ (i := 12) (N := some 60) (v := ?_) (a' := ?_) #[true, true, true, true, true, true, true, true, true, true, true, true, true, true, true, true, true, false, true, false, false, false, false, false, false, false, false] rfl rfl (take_ofW HT_.out HW_.out (by kernel_rfl)) (fun _ _ _ h => h) (Or.inl ⟨by rfl, ?_⟩) hHeld ?_ ?_
                   rotate_left
                   ·rintro w' ⟨s0, s1, s2, s3, s4, s5, s6⟩
                    go_simp
                    with_reducible rfl
                   rotate_left
                   ·simp only [tS, i64_w, i32_w]
                    rfl
                   refine take_ (i := 17) (N := some 65) (v := ?_) (a' := ?_) #[true, true, true, true, true, true, true, true, true, true, true, true, true, true, true, true, true, true, true, false, false, false, false, false, false, false, false] rfl rfl (take_ofW HT_.out HW_.out (by kernel_rfl)) (fun _ _ _ h => h) (Or.inl ⟨by rfl, ?_⟩) hHeld ?_ ?_
                   rotate_left
                   ·rintro w' ⟨s0, s1, s2, s3, s4, s5, s6⟩
                    go_simp
                    with_reducible rfl
                   rotate_left
                   ·simp only [tS, i64_w, i32_w]
                    rfl
                   refine pure_ (i := 19) (N := some 67) (v := ?_) (a' := ?_) #[true, true, true, true, true, true, true, true, true, true, true, true, true, true, true, true, true, true, true, true, false, false, false, false, false, false, false] rfl rfl (any_of HT_.out (by kernel_rfl)) (fun _ _ _ h => h) (Or.inl ⟨by rfl, ?_⟩) ?_ ?_
                   rotate_left
                   ·intro w'
                    go_simp
                    with_reducible rfl
                   rotate_left
                   ·simp only [tS, i64_w, i32_w]
                    rfl
                   refine pure_ (i := 20) (N := some 68) (v := ?_) (a' := ?_) #[true, true, true, true, true, true, true, true, true, true, true, true, true, true, true, true, true, true, true, true, true, false, false, false, false, false, false] rfl rfl (any_of HT_.out (by kernel_rfl)) (fun _ _ _ h => h) (Or.inl ⟨by rfl, ?_⟩) ?_ ?_
                   rotate_left
                   ·intro w'
                    go_simp
                    with_reducible rfl
                   rotate_left
                   ·simp only [tS, i64_w, i32_w]
                    rfl
                   refine take_ (i := 21) (N := some 69) (v := ?_) (a' := ?_) #[true, true, true, true, true, true, true, true, true, true, true, true, true, true, true, true, true, true, true, true, true, true, false, false, false, false, false] rfl rfl (take_ofW HT_.out HW_.out (by kernel_rfl)) (fun _ _ _ h => h) (Or.inl ⟨by rfl, ?_⟩) hHeld ?_ ?_
                   rotate_left
                   ·rintro w' ⟨s0, s1, s2, s3, s4, s5, s6⟩
                    go_simp
                    with_reducible rfl
                   rotate_left
                   ·simp only [tS, i64_w, i32_w]
                    rfl
                   refine pure_ (i := 22) (N := some 70) (v := ?_) (a' := ?_) #[true, true, true, true, true, true, true, true, true, true, true, true, true, true, true, true, true, true, true, true, true, true, true, false, false, false, false] rfl rfl (any_of HT_.out (by kernel_rfl)) (fun _ _ _ h => h) (Or.inl ⟨by rfl, ?_⟩) ?_ ?_
                   rotate_left
                   ·intro w'
                    go_simp
                    with_reducible rfl
                   rotate_left
                   ·simp only [tS, i64_w, i32_w]
                    rfl
                   refine take_ (i := 23) (N := some 71) (v := ?_) (a' := ?_) #[true, true, true, true, true, true, true, true, true, true, true, true, true, true, true, true, true, true, true, true, true, true, true, true, false, false, false] rfl rfl (take_ofW HT_.out HW_.out (by kernel_rfl)) (fun _ _ _ h => h) (Or.inl ⟨by rfl, ?_⟩) hHeld ?_ ?_
                   rotate_left
                   ·rintro w' ⟨s0, s1, s2, s3, s4, s5, s6⟩
                    go_simp
                    with_reducible rfl
                   rotate_left
                   ·simp only [tS, i64_w, i32_w]
                    rfl
                   refine pure_ (i := 24) (N := some 72) (v := ?_) (a' := ?_) #[true, true, true, true, true, true, true, true, true, true, true, true, true, true, true, true, true, true, true, true, true, true, true, true, true, false, false] rfl rfl (any_of HT_.out (by kernel_rfl)) (fun _ _ _ h => h) (Or.inl ⟨by rfl, ?_⟩) ?_ ?_
                   rotate_left
                   ·intro w'
                    go_simp
                    with_reducible rfl
                   rotate_left
                   ·simp only [tS, i64_w, i32_w]
                    rfl
                   refine pure_ (i := 25) (N := some 73) (v := ?_) (a' := ?_) #[true, true, true, true, true, true, true, true, true, true, true, true, true, true, true, true, true, true, true, true, true, true, true, true, true, true, false] rfl rfl (any_of HT_.out (by kernel_rfl)) (fun _ _ _ h => h) (Or.inl ⟨by rfl, ?_⟩) ?_ ?_
                   rotate_left
                   ·intro w'
                    go_simp
                    with_reducible rfl
                   rotate_left
                   ·simp only [tS, i64_w, i32_w]
                    rfl
                   refine pure_ (i := 26) (N := some 74) (v := ?_) (a' := ?_) #[true, true, true, true, true, true, true, true, true, true, true, true, true, true, true, true, true, true, true, true, true, true, true, true, true, true, true] rfl rfl (any_of HT_.out (by kernel_rfl)) (fun _ _ _ h => h) (Or.inl ⟨by rfl, ?_⟩) ?_ ?_
                   rotate_left
                   ·intro w'
                    go_simp
                    with_reducible rfl
                   rotate_left
                   ·simp only [tS, i64_w, i32_w]
                    rfl
                   refine done_ (done_of HT_.out (by kernel_rfl)) ?_
                   try go_wp2
                   go_roundg k2
                   case measure => have := HJ2.out; have := HK2.out; omega
                   case rel => exact ⟨(x8_2), (wrap64 (x9_2 + 1)), (by first | rfl | (simp; done) | (simp [*]; done)), (by first | rfl | (simp; done) | (simp [*]; done)), H', ⟨by have := HJ2.out; have := HK2.out; omega⟩, ⟨tR HO_6⟩, ⟨tR HO_7⟩, ⟨tK BK101⟩, ⟨tB⟩⟩
                 ·rw [if_neg c31] at H
                  exact absurd H (by simp)
                ·rw [if_neg c30] at H
                 exact absurd H (by simp)
               ·rw [if_neg c29] at H
                exact absurd H (by simp)
              ·rw [if_neg c28] at H
               exact absurd H (by simp)
            ·rw [if_neg c24] at H
             have c24b0 : decide (0 ≤ (rd t108 ((rd_T80 (rd_L80 t102 a1) x9_2).f2))) = false := decide_eq_false c24
             clear c24
             have H' := Aside0.mk H
             clear H
             have p111 : 0 ≤ (a1 : Int) := tD
             have q111 : a1 < (t102.length : Int) := tD
             obtain ⟨ad111, A111_0, c111_0, e111, hx111_0, hl111_0, hi111_0⟩ := at_L80 (Kd.S_reads' HO_6.out).2.2 a1 p111 q111
             cases e111
             obtain ⟨ce111, hce111, hMe111, hcc111⟩ := Kd.S_get HO_6.out [] a1 p111 (by first | exact q111 | exact tD | (have e_ := (Kd.S_reads' HO_6.out).1; omega))
             obtain ⟨ve111_0, rfl, ge111_0⟩ := hMe111
             have hv111_0 := hcc111 0 _ rfl
             rw [Nat.add_zero, show ((Kd.slice 80 k80)).sz = 1 from rfl, Nat.mul_one] at hv111_0
             replace hv111_0 := Option.some.inj (hv111_0.symm.trans hx111_0)
             rw [hv111_0] at ge111_0
             have HL111_0 := Aside0.mk (show Kd.R k80 80 _ _ _ _ (rd_L80 t102 a1) from ge111_0)
             clear hv111_0 ge111_0
             clear hcc111 hce111
             have HR111_0 := Aside0.mk hi111_0
             have HC111_0 := Aside0.mk hl111_0
             clear hi111_0 hl111_0
             replace p111 := eq_true p111
             replace q111 := eq_true q111
             have p112 : 0 ≤ (a1 : Int) := tD
             have q112 : a1 < (t102.length : Int) := tD
             obtain ⟨ad112, A112_0, c112_0, e112, hx112_0, hl112_0, hi112_0⟩ := at_L80 (Kd.S_reads' HO_6.out).2.2 a1 p112 q112
             obtain rfl : ad111 = ad112 := (by injection e112)
             obtain ⟨ce112, hce112, hMe112, hcc112⟩ := Kd.S_get HO_6.out [] a1 p112 (by first | exact q112 | exact tD | (have e_ := (Kd.S_reads' HO_6.out).1; omega))
             obtain ⟨ve112_0, rfl, ge112_0⟩ := hMe112
             have hv112_0 := hcc112 0 _ rfl
             rw [Nat.add_zero, show ((Kd.slice 80 k80)).sz = 1 from rfl, Nat.mul_one] at hv112_0
             replace hv112_0 := Option.some.inj (hv112_0.symm.trans hx112_0)
             rw [hv112_0] at ge112_0
             have HL112_0 := Aside0.mk (show Kd.R k80 80 _ _ _ _ (rd_L80 t102 a1) from ge112_0)
             clear hv112_0 ge112_0
             clear hcc112 hce112
             have HR112_0 := Aside0.mk hi112_0
             have HC112_0 := Aside0.mk hl112_0
             clear hi112_0 hl112_0
             replace p112 := eq_true p112
             replace q112 := eq_true q112
             have ea_ := Option.some.inj (hx111_0.symm.trans hx112_0)
             injection ea_ with ea_ en_ ec_
             subst ea_
             subst ec_
             clear en_
             have p113 : 0 ≤ (x9_2 : Int) := tD
             have q113 : x9_2 < ((rd_L80 t102 a1).length : Int) := tD
             obtain ⟨ad113, e113, hx113_0, hx113_1, hx113_2⟩ := at_T80 (by repeat (first | (with_reducible exact HR112_0.out) | (with_reducible refine Kd.C_alloc ?_ _) | (with_reducible refine Kd.C_drewN ?_ _) | (with_reducible refine Kd.C_drew ?_) | exact HR112_0.out)) x9_2 p113 q113
             cases e113
             replace p113 := eq_true p113
             replace q113 := eq_true q113
             try go_wp2
             have n0_ := Aside0.mk (Kd.S_drew HO_6.out)
             have n1_ := Aside0.mk (Kd.R_drew HO_7.out)
             have n2_ := Aside0.mk (Kd.R_drew HL111_0.out)
             have n3_ := Aside0.mk (Kd.R_drew HL112_0.out)
             have n4_ := Aside0.mk (blk_drew BK101.out)
             have n5_ := Aside0.mk (Kd.C_drew HR111_0.out)
             have n6_ := Aside0.mk (Kd.C_drew HR112_0.out)
             have n7_ := Aside0.mk (below_drew1 HB.out)
             clear HO_6
             clear HO_7
             clear HL111_0
             clear HL112_0
             clear BK101
             clear HR111_0
             clear HR112_0
             clear HB
             have HO_6 := n0_
             have HO_7 := n1_
             have HL111_0 := n2_
             have HL112_0 := n3_
             have BK101 := n4_
             have HR111_0 := n5_
             have HR112_0 := n6_
             have HB := n7_
             clear n0_ n1_ n2_ n3_ n4_ n5_ n6_ n7_
             obtain ⟨Ao38, co38, eo38⟩ := Kd.R_slice HO_7.out
             (first | subst eo38 | (injection eo38 with f1_ f2_ f3_; have f4_ := f1_.symm; have f5_ := f3_.symm; clear f1_ f2_ f3_; subst f4_; subst f5_))
             have p114 : 0 ≤ (((rd_T80 (rd_L80 t102 a1) x9_2).f2) : Int) := tD
             have q114 : ((rd_T80 (rd_L80 t102 a1) x9_2).f2) < (t108.length : Int) := tD
             obtain ⟨ad114, e114, hx114_0⟩ := Kd.at_int (Kd.R_reads' HO_7.out).2.2 ((rd_T80 (rd_L80 t102 a1) x9_2).f2) p114 q114
             cases e114
             replace p114 := eq_true p114
             replace q114 := eq_true q114
             refine start_ (n := 27) (S := fun w' => w'.cell? (ad114.add (((rd_T80 (rd_L80 t102 a1) x9_2).f2)).toNat) = some (.int .i64 (rd t108 ((rd_T80 (rd_L80 t102 a1) x9_2).f2)))) (ds := []) #[false, false, false, false, false, false, false, false, false, false, false, false, false, false, false, false, false, false, false, false, false, false, false, false, false, false, false] (by kernel_rfl) rfl rfl (hx114_0) (fun hHeld => ?_); refine with_tabW petrinetref16_Loop.tab10 petrinetref16_Loop.bits10 (fun HT_ HW_ => ?_)
             generalize wr.drew = w37 at HO_6 HO_7 HL111_0 HL112_0 BK101 HR111_0 HR112_0 HB hx114_0 hHeld ⊢
             refine pure_ (i := 0) (N := some 48) (v := ?_) (a' := ?_) #[true, false, false, false, false, false, false, false, false, false, false, false, false, false, false, false, false, false, false, false, false, false, false, false, false, false, false] rfl rfl (any_of HT_.out (by kernel_rfl)) (fun _ _ _ h => h) (Or.inl ⟨by rfl, ?_⟩) ?_ ?_
             rotate_left
             ·intro w'
              go_simp
              with_reducible rfl
             rotate_left
             ·simp only [tS, i64_w, i32_w]
              rfl
             refine pure_ (i := 1) (N := some 49) (v := ?_) (a' := ?_) #[true, true, false, false, false, false, false, false, false, false, false, false, false, false, false, false, false, false, false, false, false, false, false, false, false, false, false] rfl rfl (any_of HT_.out (by kernel_rfl)) (fun _ _ _ h => h) (Or.inl ⟨by rfl, ?_⟩) ?_ ?_
             rotate_left
             ·intro w'
              go_simp
              with_reducible rfl
             rotate_left
             ·simp only [tS, i64_w, i32_w]
              rfl
             refine pure_ (i := 2) (N := some 50) (v := ?_) (a' := ?_) #[true, true, true, false, false, false, false, false, false, false, false, false, false, false, false, false, false, false, false, false, false, false, false, false, false, false, false] rfl rfl (any_of HT_.out (by kernel_rfl)) (fun _ _ _ h => h) (Or.inl ⟨by rfl, ?_⟩) ?_ ?_
             rotate_left
             ·intro w'
              go_simp
              with_reducible rfl
             rotate_left
             ·simp only [tS, i64_w, i32_w]
              rfl
             refine take_ (i := 3) (N := some 51) (v := ?_) (a' := ?_) #[true, true, true, true, false, false, false, false, false, false, false, false, false, false, false, false, false, false, false, false, false, false, false, false, false, false, false] rfl rfl (take_ofW HT_.out HW_.out (by kernel_rfl)) (fun _ _ _ h => h) (Or.inl ⟨by rfl, ?_⟩) hHeld ?_ ?_
             rotate_left
             ·intro w' s0
              go_simp
              with_reducible rfl
             rotate_left
             ·simp only [tS, i64_w, i32_w]
              rfl
             refine pure_ (i := 4) (N := some 52) (v := ?_) (a' := ?_) #[true, true, true, true, true, false, false, false, false, false, false, false, false, false, false, false, false, false, false, false, false, false, false, false, false, false, false] rfl rfl (any_of HT_.out (by kernel_rfl)) (fun _ _ _ h => h) (Or.inl ⟨by rfl, ?_⟩) ?_ ?_
             rotate_left
             ·intro w'
              go_simp
              with_reducible rfl
             rotate_left
             ·simp only [tS, i64_w, i32_w]
              rfl
             refine pure_ (i := 5) (N := some 53) (v := ?_) (a' := ?_) #[true, true, true, true, true, true, false, false, false, false, false, false, false, false, false, false, false, false, false, false, false, false, false, false, false, false, false] rfl rfl (any_of HT_.out (by kernel_rfl)) (fun _ _ _ h => h) (Or.inl ⟨by rfl, ?_⟩) ?_ ?_
             rotate_left
             ·intro w'
              go_simp
              with_reducible rfl
             rotate_left
             ·simp only [tS, i64_w, i32_w]
              rfl
             refine pure_ (i := 6) (N := some 54) (v := undef) (a' := ?_) #[true, true, true, true, true, true, true, false, false, false, false, false, false, false, false, false, false, false, false, false, false, false, false, false, false, false, false] rfl rfl (any_of HT_.out (by kernel_rfl)) (fun _ _ _ h => h) (Or.inr ⟨by rfl, rfl⟩) ?_ ?_
             rotate_left
             ·simp only [tS, i64_w, i32_w]
              rfl
             refine pure_ (i := 7) (N := some 55) (v := undef) (a' := ?_) #[true, true, true, true, true, true, true, true, false, false, false, false, false, false, false, false, false, false, false, false, false, false, false, false, false, false, false] rfl rfl (any_of HT_.out (by kernel_rfl)) (fun _ _ _ h => h) (Or.inr ⟨by rfl, rfl⟩) ?_ ?_
             rotate_left
             ·simp only [tS, i64_w, i32_w]
              rfl
             refine pure_ (i := 8) (N := some 56) (v := undef) (a' := ?_) #[true, true, true, true, true, true, true, true, true, false, false, false, false, false, false, false, false, false, false, false, false, false, false, false, false, false, false] rfl rfl (any_of HT_.out (by kernel_rfl)) (fun _ _ _ h => h) (Or.inr ⟨by rfl, rfl⟩) ?_ ?_
             rotate_left
             ·simp only [tS, i64_w, i32_w]
              rfl
             refine pure_ (i := 9) (N := some 57) (v := undef) (a' := ?_) #[true, true, true, true, true, true, true, true, true, true, false, false, false, false, false, false, false, false, false, false, false, false, false, false, false, false, false] rfl rfl (any_of HT_.out (by kernel_rfl)) (fun _ _ _ h => h) (Or.inr ⟨by rfl, rfl⟩) ?_ ?_
             rotate_left
             ·simp only [tS, i64_w, i32_w]
              rfl
             refine pure_ (i := 10) (N := some 58) (v := undef) (a' := ?_) #[true, true, true, true, true, true, true, true, true, true, true, false, false, false, false, false, false, false, false, false, false, false, false, false, false, false, false] rfl rfl (any_of HT_.out (by kernel_rfl)) (fun _ _ _ h => h) (Or.inr ⟨by rfl, rfl⟩) ?_ ?_
             rotate_left
             ·simp only [tS, i64_w, i32_w]
              rfl
             refine pure_ (i := 11) (N := some 59) (v := undef) (a' := ?_) #[true, true, true, true, true, true, true, true, true, true, true, true, false, false, false, false, false, false, false, false, false, false, false, false, false, false, false] rfl rfl (any_of HT_.out (by kernel_rfl)) (fun _ _ _ h => h) (Or.inr ⟨by rfl, rfl⟩) ?_ ?_
             rotate_left
             ·simp only [tS, i64_w, i32_w]
              rfl
             refine pure_ (i := 12) (N := some 60) (v := undef) (a' := ?_) #[true, true, true, true, true, true, true, true, true, true, true, true, true, false, false, false, false, false, false, false, false, false, false, false, false, false, false] rfl rfl (any_of HT_.out (by kernel_rfl)) (fun _ _ _ h => h) (Or.inr ⟨by rfl, rfl⟩) ?_ ?_
             rotate_left
             ·simp only [tS, i64_w, i32_w]
              rfl
             refine pure_ (i := 13) (N := some 61) (v := undef) (a' := ?_) #[true, true, true, true, true, true, true, true, true, true, true, true, true, true, false, false, false, false, false, false, false, false, false, false, false, false, false] rfl rfl (any_of HT_.out (by kernel_rfl)) (fun _ _ _ h => h) (Or.inr ⟨by rfl, rfl⟩) ?_ ?_
             rotate_left
             ·simp only [tS, i64_w, i32_w]
              rfl
             refine pure_ (i := 14) (N := some 62) (v := undef) (a' := ?_) #[true, true, true, true, true, true, true, true, true, true, true, true, true, true, true, false, false, false, false, false, false, false, false, false, false, false, false] rfl rfl (any_of HT_.out (by kernel_rfl)) (fun _ _ _ h => h) (Or.inr ⟨by rfl, rfl⟩) ?_ ?_
             rotate_left
             ·simp only [tS, i64_w, i32_w]
              rfl
             refine pure_ (i := 15) (N := some 63) (v := undef) (a' := ?_) #[true, true, true, true, true, true, true, true, true, true, true, true, true, true, true, true, false, false, false, false, false, false, false, false, false, false, false] rfl rfl (any_of HT_.out (by kernel_rfl)) (fun _ _ _ h => h) (Or.inr ⟨by rfl, rfl⟩) ?_ ?_
             rotate_left
             ·simp only [tS, i64_w, i32_w]
              rfl
             refine pure_ (i := 16) (N := some 64) (v := undef) (a' := ?_) #[true, true, true, true, true, true, true, true, true, true, true, true, true, true, true, true, true, false, false, false, false, false, false, false, false, false, false] rfl rfl (any_of HT_.out (by kernel_rfl)) (fun _ _ _ h => h) (Or.inr ⟨by rfl, rfl⟩) ?_ ?_
             rotate_left
             ·simp only [tS, i64_w, i32_w]
              rfl
             refine pure_ (i := 17) (N := some 65) (v := undef) (a' := ?_) #[true, true, true, true, true, true, true, true, true, true, true, true, true, true, true, true, true, true, false, false, false, false, false, false, false, false, false] rfl rfl (any_of HT_.out (by kernel_rfl)) (fun _ _ _ h => h) (Or.inr ⟨by rfl, rfl⟩) ?_ ?_
             rotate_left
             ·simp only [tS, i64_w, i32_w]
              rfl
             refine pure_ (i := 18) (N := some 66) (v := undef) (a' := ?_) #[true, true, true, true, true, true, true, true, true, true, true, true, true, true, true, true, true, true, true, false, false, false, false, false, false, false, false] rfl rfl (any_of HT_.out (by kernel_rfl)) (fun _ _ _ h => h) (Or.inr ⟨by rfl, rfl⟩) ?_ ?_
             rotate_left
             ·simp only [tS, i64_w, i32_w]
              rfl
             refine pure_ (i := 19) (N := some 67) (v := undef) (a' := ?_) #[true, true, true, true, true, true, true, true, true, true, true, true, true, true, true, true, true, true, true, true, false, false, false, false, false, false, false] rfl rfl (any_of HT_.out (by kernel_rfl)) (fun _ _ _ h => h) (Or.inr ⟨by rfl, rfl⟩) ?_ ?_
             rotate_left
             ·simp only [tS, i64_w, i32_w]
              rfl
             refine pure_ (i := 20) (N := some 68) (v := undef) (a' := ?_) #[true, true, true, true, true, true, true, true, true, true, true, true, true, true, true, true, true, true, true, true, true, false, false, false, false, false, false] rfl rfl (any_of HT_.out (by kernel_rfl)) (fun _ _ _ h => h) (Or.inr ⟨by rfl, rfl⟩) ?_ ?_
             rotate_left
             ·simp only [tS, i64_w, i32_w]
              rfl
             refine pure_ (i := 21) (N := some 69) (v := undef) (a' := ?_) #[true, true, true, true, true, true, true, true, true, true, true, true, true, true, true, true, true, true, true, true, true, true, false, false, false, false, false] rfl rfl (any_of HT_.out (by kernel_rfl)) (fun _ _ _ h => h) (Or.inr ⟨by rfl, rfl⟩) ?_ ?_
             rotate_left
             ·simp only [tS, i64_w, i32_w]
              rfl
             refine pure_ (i := 22) (N := some 70) (v := undef) (a' := ?_) #[true, true, true, true, true, true, true, true, true, true, true, true, true, true, true, true, true, true, true, true, true, true, true, false, false, false, false] rfl rfl (any_of HT_.out (by kernel_rfl)) (fun _ _ _ h => h) (Or.inr ⟨by rfl, rfl⟩) ?_ ?_
             rotate_left
             ·simp only [tS, i64_w, i32_w]
              rfl
             refine pure_ (i := 23) (N := some 71) (v := undef) (a' := ?_) #[true, true, true, true, true, true, true, true, true, true, true, true, true, true, true, true, true, true, true, true, true, true, true, true, false, false, false] rfl rfl (any_of HT_.out (by kernel_rfl)) (fun _ _ _ h => h) (Or.inr ⟨by rfl, rfl⟩) ?_ ?_
             rotate_left
             ·simp only [tS, i64_w, i32_w]
              rfl
             refine pure_ (i := 24) (N := some 72) (v := undef) (a' := ?_) #[true, true, true, true, true, true, true, true, true, true, true, true, true, true, true, true, true, true, true, true, true, true, true, true, true, false, false] rfl rfl (any_of HT_.out (by kernel_rfl)) (fun _ _ _ h => h) (Or.inr ⟨by rfl, rfl⟩) ?_ ?_
             rotate_left
             ·simp only [tS, i64_w, i32_w]
              rfl
             refine pure_ (i := 25) (N := some 73) (v := undef) (a' := ?_) #[true, true, true, true, true, true, true, true, true, true, true, true, true, true, true, true, true, true, true, true, true, true, true, true, true, true, false] rfl rfl (any_of HT_.out (by kernel_rfl)) (fun _ _ _ h => h) (Or.inr ⟨by rfl, rfl⟩) ?_ ?_
             rotate_left
             ·simp only [tS, i64_w, i32_w]
              rfl
             refine pure_ (i := 26) (N := some 74) (v := ?_) (a' := ?_) #[true, true, true, true, true, true, true, true, true, true, true, true, true, true, true, true, true, true, true, true, true, true, true, true, true, true, true] rfl rfl (any_of HT_.out (by kernel_rfl)) (fun _ _ _ h => h) (Or.inl ⟨by rfl, ?_⟩) ?_ ?_
             rotate_left
             ·intro w'
              go_simp
              with_reducible rfl
             rotate_left
             ·simp only [tS, i64_w, i32_w]
              rfl
             refine done_ (done_of HT_.out (by kernel_rfl)) ?_
             try go_wp2
             go_roundg k2
             case measure => have := HJ2.out; have := HK2.out; omega
             case rel => exact ⟨(x8_2), (wrap64 (x9_2 + 1)), (by first | rfl | (simp; done) | (simp [*]; done)), (by first | rfl | (simp; done) | (simp [*]; done)), H', ⟨by have := HJ2.out; have := HK2.out; omega⟩, ⟨tR HO_6⟩, ⟨tR HO_7⟩, ⟨tK BK101⟩, ⟨tB⟩⟩
           ·rw [if_neg c23] at H
            exact absurd H (by simp)
          ·rw [if_neg c22] at H
           exact absurd H (by simp)
         ·rw [if_neg c21] at H
          exact absurd H (by simp)
        ·rw [if_neg c20] at H
         have c20b0 : decide (x9_2 < ((rd_L80 t102 a1).length : Int)) = false := decide_eq_false c20
         clear c20
         by_cases c39 : x8_2 < 0
         ·rw [if_pos c39] at H
          have c39b0 : decide (x8_2 < 0) = true := decide_eq_true c39
          clear c39
          simp only [Option.some.injEq, Prod.mk.injEq] at H
          obtain ⟨rfl, rfl⟩ := H
          have p111 : 0 ≤ (a1 : Int) := tD
          have q111 : a1 < (t102.length : Int) := tD
          obtain ⟨ad111, A111_0, c111_0, e111, hx111_0, hl111_0, hi111_0⟩ := at_L80 (Kd.S_reads' HO_6.out).2.2 a1 p111 q111
          cases e111
          obtain ⟨ce111, hce111, hMe111, hcc111⟩ := Kd.S_get HO_6.out [] a1 p111 (by first | exact q111 | exact tD | (have e_ := (Kd.S_reads' HO_6.out).1; omega))
          obtain ⟨ve111_0, rfl, ge111_0⟩ := hMe111
          have hv111_0 := hcc111 0 _ rfl
          rw [Nat.add_zero, show ((Kd.slice 80 k80)).sz = 1 from rfl, Nat.mul_one] at hv111_0
          replace hv111_0 := Option.some.inj (hv111_0.symm.trans hx111_0)
          rw [hv111_0] at ge111_0
          have HL111_0 := Aside0.mk (show Kd.R k80 80 _ _ _ _ (rd_L80 t102 a1) from ge111_0)
          clear hv111_0 ge111_0
          clear hcc111 hce111
          have HR111_0 := Aside0.mk hi111_0
          have HC111_0 := Aside0.mk hl111_0
          clear hi111_0 hl111_0
          replace p111 := eq_true p111
          replace q111 := eq_true q111
          go_wp2
          go_ret2
          exact ⟨_, tE, by first | exact Kd.R_nil _ _ _ _ _ | exact Kd.N_nil _ _ _ _ _ | exact Kd.V_nil _ _ _ _ _ | exact Kd.Q_nil _ _ _ _ _ | exact Kd.S_nil _ _ _ _ _, tB⟩
         ·rw [if_neg c39] at H
          have c39b0 : decide (x8_2 < 0) = false := decide_eq_false c39
          clear c39
          by_cases c40 : 0 ≤ x8_2
          ·rw [if_pos c40] at H
           have c40b0 : decide (0 ≤ x8_2) = true := decide_eq_true c40
           clear c40
           by_cases c41 : x8_2 < ((rd_L80 t102 a1).length : Int)
           ·rw [if_pos c41] at H
            have c41b0 : decide (x8_2 < ((rd_L80 t102 a1).length : Int)) = true := decide_eq_true c41
            clear c41
            replace H := Option.bind_eq_some_iff.mp H
            obtain ⟨t121, A420, H⟩ := H
            replace H : ((petrinetref16_follow.f k2 t102 ((rd_T80 (rd_L80 t102 a1) x8_2).f2) t121).bind fun bt124 => (petrinetref16_Loop.l1 k2 bt124.1 (([(rd_T80 (rd_L80 t102 a1) x8_2).f1] : List Int)) 0)) = some (r1, r2) := H
            have A42 := Aside0.mk A420
            clear A420
            replace H := Option.bind_eq_some_iff.mp H
            obtain ⟨⟨t124, t125⟩, A430, H⟩ := H
            replace H : (petrinetref16_Loop.l1 k2 t124 (([(rd_T80 (rd_L80 t102 a1) x8_2).f1] : List Int)) 0) = some (r1, r2) := H
            have A43 := Aside0.mk A430
            clear A430
            obtain ⟨y130, hy130⟩ : ∃ y_ : List Int, y_ = (([(rd_T80 (rd_L80 t102 a1) x8_2).f1] : List Int)) := ⟨_, rfl⟩
            replace H : (petrinetref16_Loop.l1 k2 t124 y130 0) = some (r1, r2) := by first | (rw [hy130]; with_reducible exact H) | (have H2_ := (Option.bind_some _ _).symm.trans H; rw [hy130]; with_reducible exact H2_) | (have H2_ := (Option.bind_some _ _).symm.trans H; with_reducible exact H2_) | with_reducible exact H | (rw [hy130]; exact H) | exact H
            have Ny130 := Aside0.mk hy130
            clear hy130
            have H' := Aside0.mk H
            clear H
            have p111 : 0 ≤ (a1 : Int) := tD
            have q111 : a1 < (t102.length : Int) := tD
            obtain ⟨ad111, A111_0, c111_0, e111, hx111_0, hl111_0, hi111_0⟩ := at_L80 (Kd.S_reads' HO_6.out).2.2 a1 p111 q111
            cases e111
            obtain ⟨ce111, hce111, hMe111, hcc111⟩ := Kd.S_get HO_6.out [] a1 p111 (by first | exact q111 | exact tD | (have e_ := (Kd.S_reads' HO_6.out).1; omega))
            obtain ⟨ve111_0, rfl, ge111_0⟩ := hMe111
            have hv111_0 := hcc111 0 _ rfl
            rw [Nat.add_zero, show ((Kd.slice 80 k80)).sz = 1 from rfl, Nat.mul_one] at hv111_0
            replace hv111_0 := Option.some.inj (hv111_0.symm.trans hx111_0)
            rw [hv111_0] at ge111_0
            have HL111_0 := Aside0.mk (show Kd.R k80 80 _ _ _ _ (rd_L80 t102 a1) from ge111_0)
            clear hv111_0 ge111_0
            clear hcc111 hce111
            have HR111_0 := Aside0.mk hi111_0
            have HC111_0 := Aside0.mk hl111_0
            clear hi111_0 hl111_0
            replace p111 := eq_true p111
            replace q111 := eq_true q111
            try go_wp2
            have n0_ := Aside0.mk (Kd.S_drew HO_6.out)
            have n1_ := Aside0.mk (Kd.R_drew HO_7.out)
            have n2_ := Aside0.mk (Kd.R_drew HL111_0.out)
            have n3_ := Aside0.mk (blk_drew BK101.out)
            have n4_ := Aside0.mk (Kd.C_drew HR111_0.out)
            have n5_ := Aside0.mk (below_drew1 HB.out)
            clear HO_6
            clear HO_7
            clear HL111_0
            clear BK101
            clear HR111_0
            clear HB
            have HO_6 := n0_
            have HO_7 := n1_
            have HL111_0 := n2_
            have BK101 := n3_
            have HR111_0 := n4_
            have HB := n5_
            clear n0_ n1_ n2_ n3_ n4_ n5_
            have p119 : 0 ≤ (a1 : Int) := tD
            have q119 : a1 < (t102.length : Int) := tD
            obtain ⟨ad119, A119_0, c119_0, e119, hx119_0, hl119_0, hi119_0⟩ := at_L80 (Kd.S_reads' HO_6.out).2.2 a1 p119 q119
            obtain rfl : ad111 = ad119 := (by injection e119)
            obtain ⟨ce119, hce119, hMe119, hcc119⟩ := Kd.S_get HO_6.out [] a1 p119 (by first | exact q119 | exact tD | (have e_ := (Kd.S_reads' HO_6.out).1; omega))
            obtain ⟨ve119_0, rfl, ge119_0⟩ := hMe119
            have hv119_0 := hcc119 0 _ rfl
            rw [Nat.add_zero, show ((Kd.slice 80 k80)).sz = 1 from rfl, Nat.mul_one] at hv119_0
            replace hv119_0 := Option.some.inj (hv119_0.symm.trans hx119_0)
            rw [hv119_0] at ge119_0
            have HL119_0 := Aside0.mk (show Kd.R k80 80 _ _ _ _ (rd_L80 t102 a1) from ge119_0)
            clear hv119_0 ge119_0
            clear hcc119 hce119
            have HR119_0 := Aside0.mk hi119_0
            have HC119_0 := Aside0.mk hl119_0
            clear hi119_0 hl119_0
            replace p119 := eq_true p119
            replace q119 := eq_true q119
            have p120 : 0 ≤ (x8_2 : Int) := tD
            have q120 : x8_2 < ((rd_L80 t102 a1).length : Int) := tD
            obtain ⟨ad120, e120, hx120_0, hx120_1, hx120_2⟩ := at_T80 (by repeat (first | (with_reducible exact HR119_0.out) | (with_reducible refine Kd.C_alloc ?_ _) | (with_reducible refine Kd.C_drewN ?_ _) | (with_reducible refine Kd.C_drew ?_) | exact HR119_0.out)) x8_2 p120 q120
            cases e120
            replace p120 := eq_true p120
            replace q120 := eq_true q120
            refine start_ (n := 18) (S := fun w' => w'.cell? ⟨gb101, 0, none⟩ = some (.slice A0_0 l0_0.length c0_0) ∧ w'.cell? ⟨gb101, 1, none⟩ = some (.slice A0_1 l0_1.length c0_1) ∧ w'.cell? ⟨gb101, 2, none⟩ = some (.bool a0_2) ∧ w'.cell? (ad111.add (a1).toNat) = some (.slice (some ad120) (rd_L80 t102 a1).length c119_0) ∧ w'.cell? (ad120.add ((x8_2).toNat * 3)) = some (.int .i64 ((rd_T80 (rd_L80 t102 a1) x8_2).f0)) ∧ w'.cell? ⟨(ad120.add ((x8_2).toNat * 3)).block, (ad120.add ((x8_2).toNat * 3)).off + 1, none⟩ = some (.int .i64 ((rd_T80 (rd_L80 t102 a1) x8_2).f1)) ∧ w'.cell? ⟨(ad120.add ((x8_2).toNat * 3)).block, (ad120.add ((x8_2).toNat * 3)).off + 2, none⟩ = some (.int .i64 ((rd_T80 (rd_L80 t102 a1) x8_2).f2))) (ds := []) #[false, false, false, false, false, false, false, false, false, false, false, false, false, false, false, false, false, false] (by kernel_rfl) rfl rfl ⟨(blk_cell BK101.out 0).trans rfl, (blk_cell BK101.out 1).trans rfl, (blk_cell BK101.out 2).trans rfl, hx119_0, hx120_0, hx120_1, hx120_2⟩ (fun hHeld => ?_); refine with_tabW petrinetref16_Loop.tab14 petrinetref16_Loop.bits14 (fun HT_ HW_ => ?_)
            generalize wr.drew = w44 at HO_6 HO_7 HL111_0 BK101 HR111_0 HB HL119_0 HR119_0 hx119_0 hx120_0 hx120_1 hx120_2 hHeld ⊢
            refine pure_ (i := 0) (N := some 79) (v := ?_) (a' := ?_) #[true, false, false, false, false, false, false, false, false, false, false, false, false, false, false, false, false, false] rfl rfl (any_of HT_.out (by kernel_rfl)) (fun _ _ _ h => h) (Or.inl ⟨by rfl, ?_⟩) ?_ ?_
            rotate_left
            ·intro w'
             go_simp
             with_reducible rfl
            rotate_left
            ·simp only [tS, i64_w, i32_w]
             rfl
            refine pure_ (i := 1) (N := some 80) (v := ?_) (a' := ?_) #[true, true, false, false, false, false, false, false, false, false, false, false, false, false, false, false, false, false] rfl rfl (any_of HT_.out (by kernel_rfl)) (fun _ _ _ h => h) (Or.inl ⟨by rfl, ?_⟩) ?_ ?_
            rotate_left
            ·intro w'
             go_simp
             with_reducible rfl
            rotate_left
            ·simp only [tS, i64_w, i32_w]
             rfl
            refine pure_ (i := 2) (N := some 81) (v := ?_) (a' := ?_) #[true, true, true, false, false, false, false, false, false, false, false, false, false, false, false, false, false, false] rfl rfl (any_of HT_.out (by kernel_rfl)) (fun _ _ _ h => h) (Or.inl ⟨by rfl, ?_⟩) ?_ ?_
            rotate_left
            ·intro w'
             go_simp
             with_reducible rfl
            rotate_left
            ·simp only [tS, i64_w, i32_w]
             rfl
            refine pure_ (i := 3) (N := some 82) (v := ?_) (a' := ?_) #[true, true, true, true, false, false, false, false, false, false, false, false, false, false, false, false, false, false] rfl rfl (any_of HT_.out (by kernel_rfl)) (fun _ _ _ h => h) (Or.inl ⟨by rfl, ?_⟩) ?_ ?_
            rotate_left
            ·intro w'
             go_simp
             with_reducible rfl
            rotate_left
            ·simp only [tS, i64_w, i32_w]
             rfl
            refine pure_ (i := 5) (N := some 84) (v := ?_) (a' := ?_) #[true, true, true, true, false, true, false, false, false, false, false, false, false, false, false, false, false, false] rfl rfl (any_of HT_.out (by kernel_rfl)) (fun _ _ _ h => h) (Or.inl ⟨by rfl, ?_⟩) ?_ ?_
            rotate_left
            ·intro w'
             go_simp
             with_reducible rfl
            rotate_left
            ·simp only [tS, i64_w, i32_w]
             rfl
            refine pure_ (i := 10) (N := some 89) (v := ?_) (a' := ?_) #[true, true, true, true, false, true, false, false, false, false, true, false, false, false, false, false, false, false] rfl rfl (any_of HT_.out (by kernel_rfl)) (fun _ _ _ h => h) (Or.inl ⟨by rfl, ?_⟩) ?_ ?_
            rotate_left
            ·intro w'
             go_simp
             with_reducible rfl
            rotate_left
            ·simp only [tS, i64_w, i32_w]
             rfl
            refine take_ (i := 4) (N := some 83) (v := ?_) (a' := ?_) #[true, true, true, true, true, true, false, false, false, false, true, false, false, false, false, false, false, false] rfl rfl (take_ofW HT_.out HW_.out (by kernel_rfl)) (fun _ _ _ h => h) (Or.inl ⟨by rfl, ?_⟩) hHeld ?_ ?_
            rotate_left
            ·rintro w' ⟨s0, s1, s2, s3, s4, s5, s6⟩
             go_simp
             with_reducible rfl
            rotate_left
            ·simp only [tS, i64_w, i32_w]
             rfl
            refine pure_ (i := 6) (N := some 85) (v := ?_) (a' := ?_) #[true, true, true, true, true, true, true, false, false, false, true, false, false, false, false, false, false, false] rfl rfl (any_of HT_.out (by kernel_rfl)) (fun _ _ _ h => h) (Or.inl ⟨by rfl, ?_⟩) ?_ ?_
            rotate_left
            ·intro w'
             go_simp
             with_reducible rfl
            rotate_left
            ·simp only [tS, i64_w, i32_w]
             rfl
            refine pure_ (i := 7) (N := some 86) (v := ?_) (a' := ?_) #[true, true, true, true, true, true, true, true, false, false, true, false, false, false, false, false, false, false] rfl rfl (any_of HT_.out (by kernel_rfl)) (fun _ _ _ h => h) (Or.inl ⟨by rfl, ?_⟩) ?_ ?_
            rotate_left
            ·intro w'
             go_simp
             with_reducible rfl
            rotate_left
            ·simp only [tS, i64_w, i32_w]
             rfl
            refine take_ (i := 8) (N := some 87) (v := ?_) (a' := ?_) #[true, true, true, true, true, true, true, true, true, false, true, false, false, false, false, false, false, false] rfl rfl (take_ofW HT_.out HW_.out (by kernel_rfl)) (fun _ _ _ h => h) (Or.inl ⟨by rfl, ?_⟩) hHeld ?_ ?_
            rotate_left
            ·rintro w' ⟨s0, s1, s2, s3, s4, s5, s6⟩
             go_simp
             with_reducible rfl
            rotate_left
            ·simp only [tS, i64_w, i32_w]
             rfl
            refine take_ (i := 9) (N := some 88) (v := ?_) (a' := ?_) #[true, true, true, true, true, true, true, true, true, true, true, false, false, false, false, false, false, false] rfl rfl (take_ofW HT_.out HW_.out (by kernel_rfl)) (fun _ _ _ h => h) (Or.inl ⟨by rfl, ?_⟩) hHeld ?_ ?_
            rotate_left
            ·rintro w' ⟨s0, s1, s2, s3, s4, s5, s6⟩
             go_simp
             with_reducible rfl
            rotate_left
            ·simp only [tS, i64_w, i32_w]
             rfl
            refine one_ (i := 11) (N := some 90) #[true, true, true, true, true, true, true, true, true, true, true, true, false, false, false, false, false, false] rfl rfl (one_of HT_.out (by kernel_rfl)) (by decide) (fun K hK => ?_)
            refine goes_ Try.func40 (by kernel_rfl) rfl #[.agg #[.slice A0_0 l0_0.length c0_0, .slice A0_1 l0_1.length c0_1, .bool a0_2], .int .i64 a1] (by rfl) rfl rfl (by (try simp only [List.map_toArray, List.map_cons, List.map_nil]); first | done | rfl | (simp only [List.length_drop, List.length_take]; rfl)) ?_
            with_reducible refine (petrinetref16_single.calls _ _ l0_0 _ _ l0_1 a0_2 a1 t121 _ ?side1 ?side2 ?side3 ?side4 A42.out).mono ?_
            (case side1 => exact tC (Kd.C_below HR0_0.out HB.out))
            (case side2 => exact HC0_0.out)
            (case side3 => exact tC (Kd.C_below HR0_1.out HB.out))
            (case side4 => exact HC0_1.out)
            rintro e w45 ⟨v122, rfl, ho0, hb⟩
            have HS3_ := (hb.cell (World.block_lt_of_cell? _ _ (hHeld.2.2.2.1))).trans (hHeld.2.2.2.1)
            have HS4_ := (hb.cell (World.block_lt_of_cell? _ _ (hHeld.2.2.2.2.1))).trans (hHeld.2.2.2.2.1)
            have HS5_ := (hb.cell (World.block_lt_of_cell? _ _ (hHeld.2.2.2.2.2.1))).trans (hHeld.2.2.2.2.2.1)
            have HS6_ := (hb.cell (World.block_lt_of_cell? _ _ (hHeld.2.2.2.2.2.2))).trans (hHeld.2.2.2.2.2.2)
            refine ⟨_, rfl, ?_⟩
            have n0_ := Aside0.mk (Kd.S_below (tR HO_6) hb)
            have n1_ := Aside0.mk (Kd.R_below (tR HO_7) hb)
            have n2_ := Aside0.mk (Kd.R_below (tR HL111_0) hb)
            have n3_ := Aside0.mk (Kd.R_below (tR HL119_0) hb)
            have n4_ := Aside0.mk (Kd.R_lower ho0 (below_size (tB)))
            have n5_ := Aside0.mk (blk_below (g := gb101) (o := .cells #[.slice A0_0 l0_0.length c0_0, .slice A0_1 l0_1.length c0_1, .bool a0_2] 25 (0, 0)) (tK BK101) hb)
            have n6_ := Aside0.mk (Kd.C_below (by repeat (first | (with_reducible exact HR111_0.out) | (with_reducible refine Kd.C_alloc ?_ _) | (with_reducible refine Kd.C_drewN ?_ _) | (with_reducible refine Kd.C_drew ?_) | exact HR111_0.out)) hb)
            have n7_ := Aside0.mk (Kd.C_below (by repeat (first | (with_reducible exact HR119_0.out) | (with_reducible refine Kd.C_alloc ?_ _) | (with_reducible refine Kd.C_drewN ?_ _) | (with_reducible refine Kd.C_drew ?_) | exact HR119_0.out)) hb)
            have n8_ := Aside0.mk (below_step (tB) hb)
            clear HO_6
            clear HO_7
            clear HL111_0
            clear HL119_0
            clear BK101
            clear HR111_0
            clear HR119_0
            clear HB
            have HO_6 := n0_
            have HO_7 := n1_
            have HL111_0 := n2_
            have HL119_0 := n3_
            have HO123 := n4_
            have BK101 := n5_
            have HR111_0 := n6_
            have HR119_0 := n7_
            have HB := n8_
            clear n0_ n1_ n2_ n3_ n4_ n5_ n6_ n7_ n8_
            (try clear hb)
            (try clear hb2)
            (try clear hk)
            (try clear hi)
            (try clear ho0)
            obtain ⟨Ao46, co46, eo46⟩ := Kd.R_slice HO123.out
            (first | subst eo46 | (injection eo46 with f1_ f2_ f3_; have f4_ := f1_.symm; have f5_ := f3_.symm; clear f1_ f2_ f3_; subst f4_; subst f5_))
            refine hK.out _ _ ⟨(blk_cell BK101.out 0).trans rfl, (blk_cell BK101.out 1).trans rfl, (blk_cell BK101.out 2).trans rfl, HS3_, HS4_, HS5_, HS6_⟩ (fun hHeld => ?_)
            clear hK K
            refine norm_ (a' := ?_) ?_ ?_
            rotate_left
            ·show Act.put _ (some 90) _ = _
             simp only [tS, i64_w, i32_w]
             rfl
            refine one_ (i := 12) (N := some 91) #[true, true, true, true, true, true, true, true, true, true, true, true, true, false, false, false, false, false] rfl rfl (one_of HT_.out (by kernel_rfl)) (by decide) (fun K hK => ?_)
            refine goes_ Try.func38 (by kernel_rfl) rfl #[.slice (some ad111) t102.length co15, .int .i64 ((rd_T80 (rd_L80 t102 a1) x8_2).f2), .slice Ao46 t121.length co46] (by rfl) rfl rfl (by (try simp only [List.map_toArray, List.map_cons, List.map_nil]); first | done | rfl | (simp only [List.length_drop, List.length_take]; rfl)) ?_
            with_reducible refine (petrinetref16_follow.calls k2 _ _ t102 ((rd_T80 (rd_L80 t102 a1) x8_2).f2) _ _ t121 t124 t125 _ ?side1 ?side2 ?side3 ?side4 A43.out).mono ?_
            (case side1 => exact tC (Kd.S_reads' HO_6.out).2.2)
            (case side2 => exact (Kd.S_reads' HO_6.out).2.1)
            (case side3 => exact tC (Kd.R_reads' HO123.out).2.2)
            (case side4 => exact (Kd.R_reads' HO123.out).2.1)
            rintro e w47 ⟨v126, rfl, ho0, hb⟩
            have HS3_ := (hb.cell (World.block_lt_of_cell? _ _ (hHeld.2.2.2.1))).trans (hHeld.2.2.2.1)
            have HS4_ := (hb.cell (World.block_lt_of_cell? _ _ (hHeld.2.2.2.2.1))).trans (hHeld.2.2.2.2.1)
            have HS5_ := (hb.cell (World.block_lt_of_cell? _ _ (hHeld.2.2.2.2.2.1))).trans (hHeld.2.2.2.2.2.1)
            have HS6_ := (hb.cell (World.block_lt_of_cell? _ _ (hHeld.2.2.2.2.2.2))).trans (hHeld.2.2.2.2.2.2)
            refine ⟨_, rfl, ?_⟩
            have n0_ := Aside0.mk (Kd.S_below (tR HO_6) hb)
            have n1_ := Aside0.mk (Kd.R_elder' (tR HO_7) (Kd.R_base ho0) hb)
            have n2_ := Aside0.mk (Kd.R_below (tR HL111_0) hb)
            have n3_ := Aside0.mk (Kd.R_below (tR HL119_0) hb)
            have n4_ := Aside0.mk (Kd.R_below (tR HO123) hb)
            have n5_ := Aside0.mk (Kd.R_lower (Kd.R_new' ho0 (Kd.R_lt (tR HO_7))) (below_size (tB)))
            have n6_ := Aside0.mk (blk_below (g := gb101) (o := .cells #[.slice A0_0 l0_0.length c0_0, .slice A0_1 l0_1.length c0_1, .bool a0_2] 25 (0, 0)) (tK BK101) hb)
            have n7_ := Aside0.mk (Kd.C_below (by repeat (first | (with_reducible exact HR111_0.out) | (with_reducible refine Kd.C_alloc ?_ _) | (with_reducible refine Kd.C_drewN ?_ _) | (with_reducible refine Kd.C_drew ?_) | exact HR111_0.out)) hb)
            have n8_ := Aside0.mk (Kd.C_below (by repeat (first | (with_reducible exact HR119_0.out) | (with_reducible refine Kd.C_alloc ?_ _) | (with_reducible refine Kd.C_drewN ?_ _) | (with_reducible refine Kd.C_drew ?_) | exact HR119_0.out)) hb)
            have n9_ := Aside0.mk (below_step (tB) hb)
            clear HO_6
            clear HO_7
            clear HL111_0
            clear HL119_0
            clear HO123
            clear BK101
            clear HR111_0
            clear HR119_0
            clear HB
            have HO_6 := n0_
            have HO_7 := n1_
            have HL111_0 := n2_
            have HL119_0 := n3_
            have HO123 := n4_
            have HO127 := n5_
            have BK101 := n6_
            have HR111_0 := n7_
            have HR119_0 := n8_
            have HB := n9_
            clear n0_ n1_ n2_ n3_ n4_ n5_ n6_ n7_ n8_ n9_
            (try clear hb)
            (try clear hb2)
            (try clear hk)
            (try clear hi)
            (try clear ho0)
            refine hK.out _ _ ⟨(blk_cell BK101.out 0).trans rfl, (blk_cell BK101.out 1).trans rfl, (blk_cell BK101.out 2).trans rfl, HS3_, HS4_, HS5_, HS6_⟩ (fun hHeld => ?_)
            clear hK K
            refine norm_ (a' := ?_) ?_ ?_
            rotate_left
            ·show Act.put _ (some 91) _ = _
             simp only [tS, i64_w, i32_w]
             rfl
            refine pure_ (i := 13) (N := some 78) (v := ?_) (a' := ?_) #[true, true, true, true, true, true, true, true, true, true, true, true, true, true, false, false, false, false] rfl rfl (any_of HT_.out (by kernel_rfl)) (fun _ _ _ h => h) (Or.inl ⟨by rfl, ?_⟩) ?_ ?_
            rotate_left
            ·intro w'
             go_simp
             with_reducible rfl
            rotate_left
            ·simp only [tS, i64_w, i32_w]
             rfl
            refine pure_ (i := 14) (N := some 92) (v := ?_) (a' := ?_) #[true, true, true, true, true, true, true, true, true, true, true, true, true, true, true, false, false, false] rfl rfl (any_of HT_.out (by kernel_rfl)) (fun _ _ _ h => h) (Or.inl ⟨by rfl, ?_⟩) ?_ ?_
            rotate_left
            ·intro w'
             go_simp
             with_reducible rfl
            rotate_left
            ·simp only [tS, i64_w, i32_w]
             rfl
            refine pure_ (i := 15) (N := some 93) (v := ?_) (a' := ?_) #[true, true, true, true, true, true, true, true, true, true, true, true, true, true, true, true, false, false] rfl rfl (any_of HT_.out (by kernel_rfl)) (fun _ _ _ h => h) (Or.inl ⟨by rfl, ?_⟩) ?_ ?_
            rotate_left
            ·intro w'
             go_simp
             with_reducible rfl
            rotate_left
            ·simp only [tS, i64_w, i32_w]
             rfl
            refine pure_ (i := 16) (N := some 11) (v := ?_) (a' := ?_) #[true, true, true, true, true, true, true, true, true, true, true, true, true, true, true, true, true, false] rfl rfl (any_of HT_.out (by kernel_rfl)) (fun _ _ _ h => h) (Or.inl ⟨by rfl, ?_⟩) ?_ ?_
            rotate_left
            ·intro w'
             go_simp
             with_reducible rfl
            rotate_left
            ·simp only [tS, i64_w, i32_w]
             rfl
            refine pure_ (i := 17) (N := some 12) (v := ?_) (a' := ?_) #[true, true, true, true, true, true, true, true, true, true, true, true, true, true, true, true, true, true] rfl rfl (any_of HT_.out (by kernel_rfl)) (fun _ _ _ h => h) (Or.inl ⟨by rfl, ?_⟩) ?_ ?_
            rotate_left
            ·intro w'
             go_simp
             with_reducible rfl
            rotate_left
            ·simp only [tS, i64_w, i32_w]
             rfl
            refine done_ (done_of HT_.out (by kernel_rfl)) ?_
            have p128 : 0 ≤ (a1 : Int) := tD
            have q128 : a1 < (t102.length : Int) := tD
            obtain ⟨ad128, A128_0, c128_0, e128, hx128_0, hl128_0, hi128_0⟩ := at_L80 (Kd.S_reads' HO_6.out).2.2 a1 p128 q128
            obtain rfl : ad111 = ad128 := (by injection e128)
            obtain ⟨ce128, hce128, hMe128, hcc128⟩ := Kd.S_get HO_6.out [] a1 p128 (by first | exact q128 | exact tD | (have e_ := (Kd.S_reads' HO_6.out).1; omega))
            obtain ⟨ve128_0, rfl, ge128_0⟩ := hMe128
            have hv128_0 := hcc128 0 _ rfl
            rw [Nat.add_zero, show ((Kd.slice 80 k80)).sz = 1 from rfl, Nat.mul_one] at hv128_0
            replace hv128_0 := Option.some.inj (hv128_0.symm.trans hx128_0)
            rw [hv128_0] at ge128_0
            have HL128_0 := Aside0.mk (show Kd.R k80 80 _ _ _ _ (rd_L80 t102 a1) from ge128_0)
            clear hv128_0 ge128_0
            clear hcc128 hce128
            have HR128_0 := Aside0.mk hi128_0
            have HC128_0 := Aside0.mk hl128_0
            clear hi128_0 hl128_0
            replace p128 := eq_true p128
            replace q128 := eq_true q128
            have p129 : 0 ≤ (x8_2 : Int) := tD
            have q129 : x8_2 < ((rd_L80 t102 a1).length : Int) := tD
            obtain ⟨ad129, e129, hx129_0, hx129_1, hx129_2⟩ := at_T80 (by repeat (first | (with_reducible exact HR128_0.out) | (with_reducible refine Kd.C_alloc ?_ _) | (with_reducible refine Kd.C_drewN ?_ _) | (with_reducible refine Kd.C_drew ?_) | exact HR128_0.out)) x8_2 p129 q129
            cases e129
            replace p129 := eq_true p129
            replace q129 := eq_true q129
            try go_wp2_with (first | ((with_reducible refine gate_dst (N := 102) rfl ?_); (try (refine gate_guard (by rfl) ?_; dsimp only)); refine Kd.R_lit (Kd.int .i64) _ 3 ?hg (N := 102) ?hd (xs := ([(rd_T80 (rd_L80 t102 a1) x8_2).f1] : List Int)) (inner := [.int .i64 ((rd_T80 (rd_L80 t102 a1) x8_2).f1)]) (ok := fun _ => True) (okp := fun _ => True) ?hr ?hp (fun _ hk => hk) trivial (Below.refl _ _) (Nat.le_refl _) (by simp) ?_; (case hd => rfl); (case hg => rfl); (case hr => first | (go_simp; done) | (go_simp; rfl)); (case hp => exact (Reps.one (show Kd.M (Kd.int .i64) _ _ _ ((rd_T80 (rd_L80 t102 a1) x8_2).f1) [.int .i64 ((rd_T80 (rd_L80 t102 a1) x8_2).f1)] from rfl) (Reps.none _ _))); intro v131 w48 ho49 hb hg_ hnew_; clear hg_ hnew_; (first | rw [← Ny130.out] at ho49 | (simp only [Int.reduceToNat] at ho49; rw [← Ny130.out] at ho49)); have n0_ := Aside0.mk (Kd.S_below (tR HO_6) hb); have n1_ := Aside0.mk (Kd.R_elder' (tR HO_7) (Kd.R_base ho49) hb); have n2_ := Aside0.mk (Kd.R_below (tR HL111_0) hb); have n3_ := Aside0.mk (Kd.R_below (tR HL119_0) hb); have n4_ := Aside0.mk (Kd.R_below (tR HO123) hb); have n5_ := Aside0.mk (Kd.R_elder' (tR HO127) (Kd.R_base ho49) hb); have n6_ := Aside0.mk (Kd.R_below (tR HL128_0) hb); have n7_ := Aside0.mk (Kd.R_lower (Kd.R_new' (Kd.R_new' ho49 (Kd.R_lt (tR HO_7))) (Kd.R_lt (tR HO127))) (below_size (tB))); have n8_ := Aside0.mk (blk_below (g := gb101) (o := .cells #[.slice A0_0 l0_0.length c0_0, .slice A0_1 l0_1.length c0_1, .bool a0_2] 25 (0, 0)) (tK BK101) hb); have n9_ := Aside0.mk (Kd.C_below (by repeat (first | (with_reducible exact HR111_0.out) | (with_reducible refine Kd.C_alloc ?_ _) | (with_reducible refine Kd.C_drewN ?_ _) | (with_reducible refine Kd.C_drew ?_) | exact HR111_0.out)) hb); have n10_ := Aside0.mk (Kd.C_below (by repeat (first | (with_reducible exact HR119_0.out) | (with_reducible refine Kd.C_alloc ?_ _) | (with_reducible refine Kd.C_drewN ?_ _) | (with_reducible refine Kd.C_drew ?_) | exact HR119_0.out)) hb); have n11_ := Aside0.mk (Kd.C_below (by repeat (first | (with_reducible exact HR128_0.out) | (with_reducible refine Kd.C_alloc ?_ _) | (with_reducible refine Kd.C_drewN ?_ _) | (with_reducible refine Kd.C_drew ?_) | exact HR128_0.out)) hb); have n12_ := Aside0.mk (below_step (tB) hb); clear HO_6; clear HO_7; clear HL111_0; clear HL119_0; clear HO123; clear HO127; clear HL128_0; clear BK101; clear HR111_0; clear HR119_0; clear HR128_0; clear HB; have HO_6 := n0_; have HO_7 := n1_; have HL111_0 := n2_; have HL119_0 := n3_; have HO123 := n4_; have HO127 := n5_; have HL128_0 := n6_; have HO132 := n7_; have BK101 := n8_; have HR111_0 := n9_; have HR119_0 := n10_; have HR128_0 := n11_; have HB := n12_; clear n0_ n1_ n2_ n3_ n4_ n5_ n6_ n7_ n8_ n9_ n10_ n11_ n12_; clear hb ho49))
            go_loopg [13, 14] k2 (fun kq v13 v14 w' => ∃ (x13_3 : List Int) (x14_3 : Int), v14 = .int .i64 x14_3 ∧ Aside0 (petrinetref16_Loop.l1 kq t124 x13_3 x14_3 = some (r1, r2)) ∧ Aside0 (kq ≤ k2) ∧ Aside0 (Kd.R (Kd.int .i64) 3 w' w.heap.size (fun k_ => some k_ ≠ (v13 : Value).ownBlock) v126 t124) ∧ Aside0 (Kd.R (Kd.int .i64) 3 w' w.heap.size (fun k_ => some k_ ≠ (v126 : Value).ownBlock) v13 x13_3) ∧ Aside0 (w'.heap[gb101]? = some (.cells #[(.slice A0_0 l0_0.length c0_0), (.slice A0_1 l0_1.length c0_1), .bool a0_2] 25 (0, 0))) ∧ Aside0 (Below w.heap.size w w'))
            case atStart => exact ⟨(y130), (0), (by first | rfl | (simp; done) | (simp [*]; done)), H', ⟨Nat.le_refl _⟩, ⟨by (with_reducible repeat (first | apply Kd.R_alloc | apply Kd.R_drewN | apply Kd.R_drew)); exact Kd.R_mono HO127.out (fun _ hk => hk.2)⟩, ⟨by (with_reducible repeat (first | apply Kd.R_alloc | apply Kd.R_drewN | apply Kd.R_drew)); exact Kd.R_mono HO132.out (fun _ hk => hk.2)⟩, ⟨tK BK101⟩, ⟨tB⟩⟩
            case round =>
             clear H'
             try clear c1
             try clear p1
             try clear q1
             try clear hx1
             try clear c2
             try clear p2
             try clear c3
             try clear c4
             try clear p6
             try clear c11
             try clear p11
             try clear q11
             try clear hx11
             try clear c12
             try clear p12
             try clear q12
             try clear hx12
             try clear c20
             try clear c20b0
             try clear c21
             try clear c22
             try clear c23
             try clear c38
             try clear c39
             try clear c39b0
             try clear c40
             try clear c40b0
             try clear c41
             try clear c41b0
             try clear hx111_0
             try clear hx112_0
             try clear hx113_0
             try clear hx113_1
             try clear hx113_2
             try clear hx114_0
             try clear hx119_0
             try clear hx120_0
             try clear hx120_1
             try clear hx120_2
             try clear hx128_0
             try clear hx129_0
             try clear hx129_1
             try clear hx129_2
             try clear p111
             try clear p112
             try clear p113
             try clear p114
             try clear p119
             try clear p120
             try clear p128
             try clear p129
             try clear q111
             try clear q112
             try clear q113
             try clear q114
             try clear q119
             try clear q120
             try clear q128
             try clear q129
             obtain ⟨x13_3, x14_3, rfl, HA, HK3, HO_11, HO_13, BK101, HB⟩ := hrel
             cases gk with
             | zero => exact absurd HA.out (by simp [petrinetref16_Loop.l1])
             | succ k3 =>
              have H := HA.out
              clear HA
              simp only [petrinetref16_Loop.l1] at H
              by_cases c50 : x14_3 < (t124.length : Int)
              ·rw [if_pos c50] at H
               have c50b0 : decide (x14_3 < (t124.length : Int)) = true := decide_eq_true c50
               clear c50
               by_cases c51 : 0 ≤ x14_3
               ·rw [if_pos c51] at H
                have c51b0 : decide (0 ≤ x14_3) = true := decide_eq_true c51
                clear c51
                by_cases c52 : x13_3.length < 17592186044416
                ·rw [if_pos c52] at H
                 have LMc52 := Aside0.mk c52
                 clear c52
                 obtain ⟨y134, hy134⟩ : ∃ y_ : List Int, y_ = (x13_3 ++ [rd t124 x14_3]) := ⟨_, rfl⟩
                 replace H : (petrinetref16_Loop.l1 k3 t124 y134 (wrap64 (x14_3 + 1))) = some (r1, r2) := by first | (rw [hy134]; with_reducible exact H) | (have H2_ := (Option.bind_some _ _).symm.trans H; rw [hy134]; with_reducible exact H2_) | (have H2_ := (Option.bind_some _ _).symm.trans H; with_reducible exact H2_) | with_reducible exact H | (rw [hy134]; exact H) | exact H
                 have Ny134 := Aside0.mk hy134
                 clear hy134
                 have H' := Aside0.mk H
                 clear H
                 obtain ⟨Ao53, co53, eo53⟩ := Kd.R_slice HO_11.out
                 subst eo53
                 have p133 : 0 ≤ (x14_3 : Int) := tD
                 have q133 : x14_3 < (t124.length : Int) := tD
                 obtain ⟨ad133, e133, hx133_0⟩ := Kd.at_int (Kd.R_reads' HO_11.out).2.2 x14_3 p133 q133
                 cases e133
                 replace p133 := eq_true p133
                 replace q133 := eq_true q133
                 go_wp2_with (first | ((with_reducible refine gate_builtin (b := .append) (xs := #[.tmp 109, .tmp 114]) rfl ?_); (try (refine gate_guard (by rfl) ?_; dsimp only)); at_builtin; refine Kd.R_append (Kd.int .i64) (w0 := w) w.heap.size rfl (.tmp 109) (.tmp 114) 28 3 (.int .i64 0) 8 rfl Try.underlying28 info3 rfl (by decide) (by omega) u13 x13_3 (rd t124 x14_3) [.int .i64 (rd t124 x14_3)] (fun k_ => some k_ ≠ (.slice (some ad133) t124.length co53 : Value).ownBlock) (fun _ => False) rfl rfl ?aP (fun _ hk => hk.elim) ?aF ?aO ?aB ?aS ?aL ?_; (case aP => exact rfl); (case aB => exact (tB)); (case aF => exact (fun k_ hk => Kd.fresh' (Kd.R_lt (tR HO_11)) k_ hk)); (case aO => exact (tR HO_13)); (case aS => exact (below_size (tB))); (case aL => have := LMc52.out; omega); intro v135 w54 ho hb hg hat; rw [← Ny134.out] at ho; have n0_ := Aside0.mk (Kd.R_after (ok := (fun _ => True)) (by (with_reducible repeat (first | apply Kd.R_alloc | apply Kd.R_drewN | apply Kd.R_drew)); exact Kd.R_mono HO_11.out (fun _ hk => ⟨trivial, hk⟩)) hg hat); have n1_ := Aside0.mk (blk_grown (g := gb101) (o := .cells #[.slice A0_0 l0_0.length c0_0, .slice A0_1 l0_1.length c0_1, .bool a0_2] 25 (0, 0)) (tK BK101) hg (Kd.R_ne HO_13.out BK101.out (by decide))); have n2_ := Aside0.mk (hb); have n3_ := Aside0.mk (ho); clear HO_11; clear BK101; clear HB; clear HO_13; have HO_11 := n0_; have BK101 := n1_; have HB := n2_; have HO136 := n3_; clear n0_ n1_ n2_ n3_; clear ho hb hg hat))
                 go_roundg k3
                 case measure => have := HJ2.out; have := HK2.out; have := HK3.out; omega
                 case rel => exact ⟨(y134), (wrap64 (x14_3 + 1)), (by first | rfl | (simp; done) | (simp [*]; done)), H', ⟨by have := HJ2.out; have := HK2.out; have := HK3.out; omega⟩, ⟨by (with_reducible repeat (first | apply Kd.R_alloc | apply Kd.R_drewN | apply Kd.R_drew)); exact Kd.R_mono HO_11.out (fun _ hk => hk.2)⟩, ⟨tR HO136⟩, ⟨tK BK101⟩, ⟨tB⟩⟩
                ·rw [if_neg c52] at H
                 exact absurd H (by simp)
               ·rw [if_neg c51] at H
                exact absurd H (by simp)
              ·rw [if_neg c50] at H
               have c50b0 : decide (x14_3 < (t124.length : Int)) = false := decide_eq_false c50
               clear c50
               simp only [Option.some.injEq, Prod.mk.injEq] at H
               obtain ⟨rfl, rfl⟩ := H
               obtain ⟨Ao55, co55, eo55⟩ := Kd.R_slice HO_11.out
               subst eo55
               go_wp2
               go_ret2
               exact ⟨_, tE, by (with_reducible repeat (first | apply Kd.R_alloc | apply Kd.R_drewN | apply Kd.R_drew)); exact Kd.R_mono HO_13.out (fun _ hk => trivial), tB⟩
           ·rw [if_neg c41] at H
            exact absurd H (by simp)
          ·rw [if_neg c40] at H
           exact absurd H (by simp)
       ·rw [if_neg c19] at H
        exact absurd H (by simp)
      ·rw [if_neg c18] at H
       exact absurd H (by simp)
end Go.Proofs.Ytfnjbgggmddgpaa.Q
end
section
namespace Go.Proofs.Ytfnjbgggmddgpaa.Q
open Go.RowKit Go.Proofs.Fn Go.Proofs.YtfnjbgggmddgpaaW.PrintWords Go.Proofs.YtfnjbgggmddgpaaW.PrintLast Go.Proofs.YtfnjbgggmddgpaaW.PrintMore
attribute [local go_sem] max2_int min2_int max_two min_two max_three min_three max_four min_four
set_option linter.unusedVariables false
set_option linter.unusedSimpArgs false
def petrinetlaw16_WitnessFires.j0 : Nat → Int → Bool → List (List Int) → List (S80) → Bool → Option (Bool)
 | 0, _, _, _, _, _ => none
 | k + 1, x2, x35, x102000, x102001, x102002 => if x35 = true then (some false) else ((witness_Loop.f k x102000 x102001 x102002 x2).bind fun bt113 => ((petrinetref16_Loop.f k x102000 x102001 x102002 x2).bind fun bt117 => (if (bt113.2 == bt117.2) = true then ((petrinetref04_Same.f k bt113.1 bt117.1).bind fun t121 => (if t121 = true then ((petrinetlaw16_alive.f k).bind fun t122 => (some t122)) else (some false))) else (some false))))
def petrinetlaw16_WitnessFires.f (k : Nat) (l0_0 : List (List Int)) (l0_1 : List (S80)) (a0_2 : Bool) (a1 : Int) (a2 : Int) : Option (Bool) := (petrinetlaw16_few.f l0_0 l0_1 a0_2).bind fun t102 => (if t102 = true then ((witness_Fires.f k l0_0 l0_1 a0_2 a1).bind fun bt104 => ((petrinetref16_Fires.f k l0_0 l0_1 a0_2 a1).bind fun bt108 => (if (bt104.2 != bt108.2) = true then (petrinetlaw16_WitnessFires.j0 k a2 true l0_0 l0_1 a0_2) else ((petrinetref04_Same.f k bt104.1 bt108.1).bind fun t112 => (petrinetlaw16_WitnessFires.j0 k a2 (!t112) l0_0 l0_1 a0_2))))) else ((petrinetlaw16_alive.f k).bind fun t103 => (some t103)))
set_option maxHeartbeats 8000000 in
set_option maxRecDepth 100000 in
theorem petrinetlaw16_WitnessFires.calls (k : Nat) (A0_0 : Option Addr) (c0_0 : Nat) (l0_0 : List (List Int)) (A0_1 : Option Addr) (c0_1 : Nat) (l0_1 : List (S80)) (a0_2 : Bool) (a1 : Int) (a2 : Int) (r : Bool) (w : World) (hr0_0 : Kd.C (Kd.slice 3 (Kd.int .i64)) w A0_0 l0_0.length l0_0) (hc0_0 : l0_0.length ≤ c0_0) (hr0_1 : Kd.C k80 w A0_1 l0_1.length l0_1) (hc0_1 : l0_1.length ≤ c0_1) (h : petrinetlaw16_WitnessFires.f k l0_0 l0_1 a0_2 a1 a2 = some r) :
  Calls Try.prog 7 #[.agg #[.slice A0_0 l0_0.length c0_0, .slice A0_1 l0_1.length c0_1, .bool a0_2], .int .i64 a1, .int .i64 a2] w fun e w' => e = .returned (.bool r) ∧ Below w.heap.size w w' := by
 have hu25 := Try.underlying25
 have HR0_0 := Aside0.mk hr0_0
 have HC0_0 := Aside0.mk hc0_0
 clear hr0_0 hc0_0
 have HR0_1 := Aside0.mk hr0_1
 have HC0_1 := Aside0.mk hc0_1
 clear hr0_1 hc0_1
 have HB := Aside0.mk (Below.refl w.heap.size w)
 have H : ((petrinetlaw16_few.f l0_0 l0_1 a0_2).bind fun t102 => (if t102 = true then ((witness_Fires.f k l0_0 l0_1 a0_2 a1).bind fun bt104 => ((petrinetref16_Fires.f k l0_0 l0_1 a0_2 a1).bind fun bt108 => (if (bt104.2 != bt108.2) = true then (petrinetlaw16_WitnessFires.j0 k a2 true l0_0 l0_1 a0_2) else ((petrinetref04_Same.f k bt104.1 bt108.1).bind fun t112 => (petrinetlaw16_WitnessFires.j0 k a2 (!t112) l0_0 l0_1 a0_2))))) else ((petrinetlaw16_alive.f k).bind fun t103 => (some t103)))) = some r := h
 clear h
 replace H := Option.bind_eq_some_iff.mp H
 obtain ⟨t102, A40, H⟩ := H
 replace H : (if t102 = true then ((witness_Fires.f k l0_0 l0_1 a0_2 a1).bind fun bt104 => ((petrinetref16_Fires.f k l0_0 l0_1 a0_2 a1).bind fun bt108 => (if (bt104.2 != bt108.2) = true then (petrinetlaw16_WitnessFires.j0 k a2 true l0_0 l0_1 a0_2) else ((petrinetref04_Same.f k bt104.1 bt108.1).bind fun t112 => (petrinetlaw16_WitnessFires.j0 k a2 (!t112) l0_0 l0_1 a0_2))))) else ((petrinetlaw16_alive.f k).bind fun t103 => (some t103))) = some r := H
 have A4 := Aside0.mk A40
 clear A40
 by_cases c5 : t102 = true
 ·subst c5
  have H1 : ((witness_Fires.f k l0_0 l0_1 a0_2 a1).bind fun bt104 => ((petrinetref16_Fires.f k l0_0 l0_1 a0_2 a1).bind fun bt108 => (if (bt104.2 != bt108.2) = true then (petrinetlaw16_WitnessFires.j0 k a2 true l0_0 l0_1 a0_2) else ((petrinetref04_Same.f k bt104.1 bt108.1).bind fun t112 => (petrinetlaw16_WitnessFires.j0 k a2 (!t112) l0_0 l0_1 a0_2))))) = some r := by rw [if_pos rfl] at H; exact H
  clear H
  have H := H1
  clear H1
  replace H := Option.bind_eq_some_iff.mp H
  obtain ⟨⟨t104, t107⟩, A60, H⟩ := H
  replace H : ((petrinetref16_Fires.f k l0_0 l0_1 a0_2 a1).bind fun bt108 => (if (t107 != bt108.2) = true then (petrinetlaw16_WitnessFires.j0 k a2 true l0_0 l0_1 a0_2) else ((petrinetref04_Same.f k t104 bt108.1).bind fun t112 => (petrinetlaw16_WitnessFires.j0 k a2 (!t112) l0_0 l0_1 a0_2)))) = some r := H
  have A6 := Aside0.mk A60
  clear A60
  replace H := Option.bind_eq_some_iff.mp H
  obtain ⟨⟨t108, t111⟩, A70, H⟩ := H
  replace H : (if (t107 != t111) = true then (petrinetlaw16_WitnessFires.j0 k a2 true l0_0 l0_1 a0_2) else ((petrinetref04_Same.f k t104 t108).bind fun t112 => (petrinetlaw16_WitnessFires.j0 k a2 (!t112) l0_0 l0_1 a0_2))) = some r := H
  have A7 := Aside0.mk A70
  clear A70
  have HC8 := Aside0.mk H
  clear H
  go_enter Try.func7, Try.ntmps7
  go_upto_region 5 with (first | ((with_reducible refine gate_dst (N := 3) rfl ?_); refine box_event ?hg (N := 3) ?hd (cs := #[.slice A0_0 l0_0.length c0_0, .slice A0_1 l0_1.length c0_1, .bool a0_2]) (t := 25) ?hr ?_; (case hd => rfl); (case hg => rfl); (case hr => first | (go_simp; done) | (go_simp; rfl)); intro gb101 hg w9 hbox hb; have n0_ := Aside0.mk (below_step (tB) hb); have n1_ := Aside0.mk (hbox); have n2_ := Aside0.mk ((by rw [hg]; exact (below_size (tB)) : w.heap.size ≤ gb101)); have n3_ := Aside0.mk ((by rw [hg]; exact (below_size (tB)) : w.heap.size ≤ gb101)); clear HB; have HB := n0_; have BK101 := n1_; have GW101 := n2_; have GE101 := n3_; clear n0_ n1_ n2_ n3_; clear hb hbox hg; have hcz10_0 : w9.cell? ⟨gb101, 0, none⟩ = some (.slice A0_0 l0_0.length c0_0) := (blk_cell BK101.out 0).trans rfl; have hcz10_1 : w9.cell? ⟨gb101, 1, none⟩ = some (.slice A0_1 l0_1.length c0_1) := (blk_cell BK101.out 1).trans rfl; have hcz10_2 : w9.cell? ⟨gb101, 2, none⟩ = some (.bool a0_2) := (blk_cell BK101.out 2).trans rfl; have hfz10_0 := blk_frozen BK101.out 0; have hfz10_1 := blk_frozen BK101.out 1; have hfz10_2 := blk_frozen BK101.out 2) | ((with_reducible refine gate_callee (f := 9) rfl ?_); refine goesL_ (some 12) rfl rfl Try.func9 (by kernel_rfl) rfl #[.agg #[.slice A0_0 l0_0.length c0_0, .slice A0_1 l0_1.length c0_1, .bool a0_2]] rfl (by (try simp only [List.map_toArray, List.map_cons, List.map_nil]); first | done | rfl | (simp only [List.length_drop, List.length_take]; rfl)) ?_; (with_reducible refine (petrinetlaw16_few.calls _ _ l0_0 _ _ l0_1 a0_2 true _ ?side1 ?side2 ?side3 ?side4 A4.out).mono ?_); (case side1 => exact tC (Kd.C_below HR0_0.out HB.out)); (case side2 => exact HC0_0.out); (case side3 => exact tC (Kd.C_below HR0_1.out HB.out)); (case side4 => exact HC0_1.out); rintro e w11 ⟨rfl, hb⟩; refine ⟨_, rfl, ?_⟩; have n0_ := Aside0.mk (blk_below (g := gb101) (o := .cells #[.slice A0_0 l0_0.length c0_0, .slice A0_1 l0_1.length c0_1, .bool a0_2] 25 (0, 0)) (tK BK101) hb); have n1_ := Aside0.mk (below_step (tB) hb); clear BK101; clear HB; have BK101 := n0_; have HB := n1_; clear n0_ n1_; (try clear hb); (try clear hb2); (try clear hk); (try clear hi); have hcz12_0 : w11.cell? ⟨gb101, 0, none⟩ = some (.slice A0_0 l0_0.length c0_0) := (blk_cell BK101.out 0).trans rfl; have hcz12_1 : w11.cell? ⟨gb101, 1, none⟩ = some (.slice A0_1 l0_1.length c0_1) := (blk_cell BK101.out 1).trans rfl; have hcz12_2 : w11.cell? ⟨gb101, 2, none⟩ = some (.bool a0_2) := (blk_cell BK101.out 2).trans rfl; have hfz12_0 := blk_frozen BK101.out 0; have hfz12_1 := blk_frozen BK101.out 1; have hfz12_2 := blk_frozen BK101.out 2) | ((with_reducible refine gate_callee (f := 25) rfl ?_); refine goesL_ (some 18) rfl rfl Try.func25 (by kernel_rfl) rfl #[.agg #[.slice A0_0 l0_0.length c0_0, .slice A0_1 l0_1.length c0_1, .bool a0_2], .int .i64 a1] rfl (by (try simp only [List.map_toArray, List.map_cons, List.map_nil]); first | done | rfl | (simp only [List.length_drop, List.length_take]; rfl)) ?_; (with_reducible refine (witness_Fires.calls k _ _ l0_0 _ _ l0_1 a0_2 a1 t104 t107 _ ?side1 ?side2 ?side3 ?side4 A6.out).mono ?_); (case side1 => exact tC (Kd.C_below HR0_0.out HB.out)); (case side2 => exact HC0_0.out); (case side3 => exact tC (Kd.C_below HR0_1.out HB.out)); (case side4 => exact HC0_1.out); rintro e w13 ⟨v105, rfl, ho0, hb⟩; refine ⟨_, rfl, ?_⟩; have n0_ := Aside0.mk (Kd.R_lower ho0 (below_size (tB))); have n1_ := Aside0.mk (blk_below (g := gb101) (o := .cells #[.slice A0_0 l0_0.length c0_0, .slice A0_1 l0_1.length c0_1, .bool a0_2] 25 (0, 0)) (tK BK101) hb); have n2_ := Aside0.mk (below_step (tB) hb); clear BK101; clear HB; have HO106 := n0_; have BK101 := n1_; have HB := n2_; clear n0_ n1_ n2_; (try clear hb); (try clear hb2); (try clear hk); (try clear hi); (try clear ho0); have hcz14_0 : w13.cell? ⟨gb101, 0, none⟩ = some (.slice A0_0 l0_0.length c0_0) := (blk_cell BK101.out 0).trans rfl; have hcz14_1 : w13.cell? ⟨gb101, 1, none⟩ = some (.slice A0_1 l0_1.length c0_1) := (blk_cell BK101.out 1).trans rfl; have hcz14_2 : w13.cell? ⟨gb101, 2, none⟩ = some (.bool a0_2) := (blk_cell BK101.out 2).trans rfl; have hfz14_0 := blk_frozen BK101.out 0; have hfz14_1 := blk_frozen BK101.out 1; have hfz14_2 := blk_frozen BK101.out 2) | ((with_reducible refine gate_callee (f := 29) rfl ?_); refine goesL_ (some 24) rfl rfl Try.func29 (by kernel_rfl) rfl #[.agg #[.slice A0_0 l0_0.length c0_0, .slice A0_1 l0_1.length c0_1, .bool a0_2], .int .i64 a1] rfl (by (try simp only [List.map_toArray, List.map_cons, List.map_nil]); first | done | rfl | (simp only [List.length_drop, List.length_take]; rfl)) ?_; (with_reducible refine (petrinetref16_Fires.calls k _ _ l0_0 _ _ l0_1 a0_2 a1 t108 t111 _ ?side1 ?side2 ?side3 ?side4 A7.out).mono ?_); (case side1 => exact tC (Kd.C_below HR0_0.out HB.out)); (case side2 => exact HC0_0.out); (case side3 => exact tC (Kd.C_below HR0_1.out HB.out)); (case side4 => exact HC0_1.out); rintro e w15 ⟨v109, rfl, ho0, hb⟩; refine ⟨_, rfl, ?_⟩; have n0_ := Aside0.mk (Kd.R_elder' (tR HO106) (Kd.R_base ho0) hb); have n1_ := Aside0.mk (Kd.R_lower (Kd.R_new' ho0 (Kd.R_lt (tR HO106))) (below_size (tB))); have n2_ := Aside0.mk (blk_below (g := gb101) (o := .cells #[.slice A0_0 l0_0.length c0_0, .slice A0_1 l0_1.length c0_1, .bool a0_2] 25 (0, 0)) (tK BK101) hb); have n3_ := Aside0.mk (below_step (tB) hb); clear HO106; clear BK101; clear HB; have HO106 := n0_; have HO110 := n1_; have BK101 := n2_; have HB := n3_; clear n0_ n1_ n2_ n3_; (try clear hb); (try clear hb2); (try clear hk); (try clear hi); (try clear ho0)))
  (try simp only [Act.put, List.setIfInBounds_toArray, List.set_cons_zero, List.set_cons_succ])
  go_cut [35] (fun v35 wc => ∃ (kq : Nat) (x35_7 : Bool), v35 = .bool x35_7 ∧ Aside0 (petrinetlaw16_WitnessFires.j0 kq a2 x35_7 l0_0 l0_1 a0_2 = some r) ∧ Aside0 (kq ≤ k) ∧ Aside0 (wc.heap[gb101]? = some (.cells #[(.slice A0_0 l0_0.length c0_0), (.slice A0_1 l0_1.length c0_1), .bool a0_2] 25 (0, 0))) ∧ Aside0 (Below w.heap.size w wc))
  case first =>
   have H := HC8.out
   clear HC8
   by_cases c16 : (t107 != t111) = true
   ·rw [if_pos c16] at H
    have c16b0 : (t107 != t111) = true := c16
    (try (have c16b1 : decide (t107 = t111) = false := by simpa using c16))
    (try (have c16b2 : (t107 == t111) = false := by simpa using c16))
    (try (have c16b3 : ¬ (t107 = t111) := by simpa using c16))
    clear c16
    (first | rw [c16b0] | (simp only [i64_w, i32_w]; rw [c16b0]) | skip)
    have H' := Aside0.mk H
    clear H
    go_wp2
    go_meet
    case rel => exact ⟨_, (true), (by first | rfl | (simp; done) | (simp [*]; done)), H', ⟨by first | omega | exact Nat.le_refl _⟩, ⟨tK BK101⟩, ⟨tB⟩⟩
   ·rw [if_neg c16] at H
    have c16b0 : (t107 != t111) = false := by simpa using c16
    (try (have c16b1 : decide (t107 = t111) = true := by simpa using c16))
    (try (have c16b2 : (t107 == t111) = true := by simpa using c16))
    clear c16
    (first | rw [c16b0] | (simp only [i64_w, i32_w]; rw [c16b0]) | skip)
    replace H := Option.bind_eq_some_iff.mp H
    obtain ⟨t112, A170, H⟩ := H
    replace H : (petrinetlaw16_WitnessFires.j0 k a2 (!t112) l0_0 l0_1 a0_2) = some r := H
    have A17 := Aside0.mk A170
    clear A170
    have H' := Aside0.mk H
    clear H
    obtain ⟨Ao18, co18, eo18⟩ := Kd.R_slice HO106.out
    subst eo18
    obtain ⟨Ao19, co19, eo19⟩ := Kd.R_slice HO110.out
    subst eo19
    go_wp2_with (first | (go_at_call 13; (with_reducible refine (petrinetref04_Same.calls k _ _ t104 _ _ t108 t112 _ ?side1 ?side2 ?side3 ?side4 A17.out).mono ?_); (case side1 => exact tC (Kd.R_reads' HO106.out).2.2); (case side2 => exact (Kd.R_reads' HO106.out).2.1); (case side3 => exact tC (Kd.R_reads' HO110.out).2.2); (case side4 => exact (Kd.R_reads' HO110.out).2.1); rintro e w' ⟨rfl, ⟨nd, rfl⟩⟩))
    go_meet
    case rel => exact ⟨_, (!t112), (by first | rfl | (simp; done) | (simp [*]; done)), H', ⟨by first | omega | exact Nat.le_refl _⟩, ⟨tK BK101⟩, ⟨tB⟩⟩
  case rest =>
   clear HC8
   try clear c1
   try clear c2
   try clear p2
   try clear c5
   try clear c7
   try clear c9
   try clear c16
   try clear c16b0
   try clear c16b1
   try clear c16b2
   try clear hcz10_0
   try clear hcz10_1
   try clear hcz10_2
   try clear hcz12_0
   try clear hcz12_1
   try clear hcz12_2
   try clear hcz14_0
   try clear hcz14_1
   try clear hcz14_2
   try clear hfz10_0
   try clear hfz10_1
   try clear hfz10_2
   try clear hfz12_0
   try clear hfz12_1
   try clear hfz12_2
   try clear hfz14_0
   try clear hfz14_1
   try clear hfz14_2
   obtain ⟨kq, x35_7, rfl, HA, HJ7, BK101, HB⟩ := hcut
   cases kq with
   | zero => exact absurd HA.out (by simp [petrinetlaw16_WitnessFires.j0])
   | succ kj7 =>
    have H := HA.out
    clear HA
    simp only [petrinetlaw16_WitnessFires.j0] at H
    by_cases c20 : x35_7 = true
    ·subst c20
     have H1 : (some false) = some r := by rw [if_pos rfl] at H; exact H
     clear H
     have H := H1
     clear H1
     obtain rfl := Option.some.inj H
     go_wp2
     go_ret
     exact ⟨tE, tB⟩
    ·replace c20 := Bool.eq_false_iff.mpr c20
     subst c20
     have H1 : ((witness_Loop.f kj7 l0_0 l0_1 a0_2 a2).bind fun bt113 => ((petrinetref16_Loop.f kj7 l0_0 l0_1 a0_2 a2).bind fun bt117 => (if (bt113.2 == bt117.2) = true then ((petrinetref04_Same.f kj7 bt113.1 bt117.1).bind fun t121 => (if t121 = true then ((petrinetlaw16_alive.f kj7).bind fun t122 => (some t122)) else (some false))) else (some false)))) = some r := by rw [if_neg (show ¬ (false = true) by decide)] at H; exact H
     clear H
     have H := H1
     clear H1
     replace H := Option.bind_eq_some_iff.mp H
     obtain ⟨⟨t113, t116⟩, A210, H⟩ := H
     replace H : ((petrinetref16_Loop.f kj7 l0_0 l0_1 a0_2 a2).bind fun bt117 => (if (t116 == bt117.2) = true then ((petrinetref04_Same.f kj7 t113 bt117.1).bind fun t121 => (if t121 = true then ((petrinetlaw16_alive.f kj7).bind fun t122 => (some t122)) else (some false))) else (some false))) = some r := H
     have A21 := Aside0.mk A210
     clear A210
     replace H := Option.bind_eq_some_iff.mp H
     obtain ⟨⟨t117, t120⟩, A220, H⟩ := H
     replace H : (if (t116 == t120) = true then ((petrinetref04_Same.f kj7 t113 t117).bind fun t121 => (if t121 = true then ((petrinetlaw16_alive.f kj7).bind fun t122 => (some t122)) else (some false))) else (some false)) = some r := H
     have A22 := Aside0.mk A220
     clear A220
     by_cases c23 : (t116 == t120) = true
     ·rw [if_pos c23] at H
      have c23b0 : (t116 == t120) = true := c23
      (try (have c23b1 : decide (t116 = t120) = true := by simpa using c23))
      (try (have c23b2 : (t116 == t120) = true := by simpa using c23))
      clear c23
      replace H := Option.bind_eq_some_iff.mp H
      obtain ⟨t121, A240, H⟩ := H
      replace H : (if t121 = true then ((petrinetlaw16_alive.f kj7).bind fun t122 => (some t122)) else (some false)) = some r := H
      have A24 := Aside0.mk A240
      clear A240
      by_cases c25 : t121 = true
      ·subst c25
       have H1 : ((petrinetlaw16_alive.f kj7).bind fun t122 => (some t122)) = some r := by rw [if_pos rfl] at H; exact H
       clear H
       have H := H1
       clear H1
       replace H := Option.bind_eq_some_iff.mp H
       obtain ⟨t122, A260, H⟩ := H
       replace H : (some t122) = some r := H
       have A26 := Aside0.mk A260
       clear A260
       obtain rfl := Option.some.inj H
       have hcz27_0 : wc.cell? ⟨gb101, 0, none⟩ = some (.slice A0_0 l0_0.length c0_0) := (blk_cell BK101.out 0).trans rfl
       have hcz27_1 : wc.cell? ⟨gb101, 1, none⟩ = some (.slice A0_1 l0_1.length c0_1) := (blk_cell BK101.out 1).trans rfl
       have hcz27_2 : wc.cell? ⟨gb101, 2, none⟩ = some (.bool a0_2) := (blk_cell BK101.out 2).trans rfl
       have hfz27_0 := blk_frozen BK101.out 0
       have hfz27_1 := blk_frozen BK101.out 1
       have hfz27_2 := blk_frozen BK101.out 2
       go_wp2_with (first | ((with_reducible refine gate_callee (f := 30) rfl ?_); refine goesL_ (some 39) rfl rfl Try.func30 (by kernel_rfl) rfl #[.agg #[.slice A0_0 l0_0.length c0_0, .slice A0_1 l0_1.length c0_1, .bool a0_2], .int .i64 a2] rfl (by (try simp only [List.map_toArray, List.map_cons, List.map_nil]); first | done | rfl | (simp only [List.length_drop, List.length_take]; rfl)) ?_; (with_reducible refine (witness_Loop.calls kj7 _ _ l0_0 _ _ l0_1 a0_2 a2 t113 t116 _ ?side1 ?side2 ?side3 ?side4 A21.out).mono ?_); (case side1 => exact tC (Kd.C_below HR0_0.out HB.out)); (case side2 => exact HC0_0.out); (case side3 => exact tC (Kd.C_below HR0_1.out HB.out)); (case side4 => exact HC0_1.out); rintro e w28 ⟨v114, rfl, ho0, hb⟩; refine ⟨_, rfl, ?_⟩; have n0_ := Aside0.mk (Kd.R_lower ho0 (below_size (tB))); have n1_ := Aside0.mk (blk_below (g := gb101) (o := .cells #[.slice A0_0 l0_0.length c0_0, .slice A0_1 l0_1.length c0_1, .bool a0_2] 25 (0, 0)) (tK BK101) hb); have n2_ := Aside0.mk (below_step (tB) hb); clear BK101; clear HB; have HO115 := n0_; have BK101 := n1_; have HB := n2_; clear n0_ n1_ n2_; (try clear hb); (try clear hb2); (try clear hk); (try clear hi); (try clear ho0); have hcz29_0 : w28.cell? ⟨gb101, 0, none⟩ = some (.slice A0_0 l0_0.length c0_0) := (blk_cell BK101.out 0).trans rfl; have hcz29_1 : w28.cell? ⟨gb101, 1, none⟩ = some (.slice A0_1 l0_1.length c0_1) := (blk_cell BK101.out 1).trans rfl; have hcz29_2 : w28.cell? ⟨gb101, 2, none⟩ = some (.bool a0_2) := (blk_cell BK101.out 2).trans rfl; have hfz29_0 := blk_frozen BK101.out 0; have hfz29_1 := blk_frozen BK101.out 1; have hfz29_2 := blk_frozen BK101.out 2) | ((with_reducible refine gate_callee (f := 31) rfl ?_); refine goesL_ (some 45) rfl rfl Try.func31 (by kernel_rfl) rfl #[.agg #[.slice A0_0 l0_0.length c0_0, .slice A0_1 l0_1.length c0_1, .bool a0_2], .int .i64 a2] rfl (by (try simp only [List.map_toArray, List.map_cons, List.map_nil]); first | done | rfl | (simp only [List.length_drop, List.length_take]; rfl)) ?_; (with_reducible refine (petrinetref16_Loop.calls kj7 _ _ l0_0 _ _ l0_1 a0_2 a2 t117 t120 _ ?side1 ?side2 ?side3 ?side4 A22.out).mono ?_); (case side1 => exact tC (Kd.C_below HR0_0.out HB.out)); (case side2 => exact HC0_0.out); (case side3 => exact tC (Kd.C_below HR0_1.out HB.out)); (case side4 => exact HC0_1.out); rintro e w30 ⟨v118, rfl, ho0, hb⟩; refine ⟨_, rfl, ?_⟩; have n0_ := Aside0.mk (Kd.R_elder' (tR HO115) (Kd.R_base ho0) hb); have n1_ := Aside0.mk (Kd.R_lower (Kd.R_new' ho0 (Kd.R_lt (tR HO115))) (below_size (tB))); have n2_ := Aside0.mk (blk_below (g := gb101) (o := .cells #[.slice A0_0 l0_0.length c0_0, .slice A0_1 l0_1.length c0_1, .bool a0_2] 25 (0, 0)) (tK BK101) hb); have n3_ := Aside0.mk (below_step (tB) hb); clear HO115; clear BK101; clear HB; have HO115 := n0_; have HO119 := n1_; have BK101 := n2_; have HB := n3_; clear n0_ n1_ n2_ n3_; (try clear hb); (try clear hb2); (try clear hk); (try clear hi); (try clear ho0); obtain ⟨Ao31, co31, eo31⟩ := Kd.R_slice HO115.out; subst eo31; obtain ⟨Ao32, co32, eo32⟩ := Kd.R_slice HO119.out; subst eo32) | (go_at_call 13; (with_reducible refine (petrinetref04_Same.calls kj7 _ _ t113 _ _ t117 true _ ?side1 ?side2 ?side3 ?side4 A24.out).mono ?_); (case side1 => exact tC (Kd.R_reads' HO115.out).2.2); (case side2 => exact (Kd.R_reads' HO115.out).2.1); (case side3 => exact tC (Kd.R_reads' HO119.out).2.2); (case side4 => exact (Kd.R_reads' HO119.out).2.1); rintro e w' ⟨rfl, ⟨nd, rfl⟩⟩) | (go_at_call 10; (with_reducible refine (petrinetlaw16_alive.calls kj7  t122 _ A26.out).mono ?_); rintro e w33 ⟨rfl, hb⟩; have n0_ := Aside0.mk (Kd.R_below (tR HO115) hb); have n1_ := Aside0.mk (Kd.R_below (tR HO119) hb); have n2_ := Aside0.mk (blk_below (g := gb101) (o := .cells #[.slice A0_0 l0_0.length c0_0, .slice A0_1 l0_1.length c0_1, .bool a0_2] 25 (0, 0)) (tK BK101) hb); have n3_ := Aside0.mk (below_step (tB) hb); clear HO115; clear HO119; clear BK101; clear HB; have HO115 := n0_; have HO119 := n1_; have BK101 := n2_; have HB := n3_; clear n0_ n1_ n2_ n3_; (try clear hb); (try clear hb2); (try clear hk); (try clear hi)))
       go_ret
       exact ⟨tE, tB⟩
      ·replace c25 := Bool.eq_false_iff.mpr c25
       subst c25
       have H1 : (some false) = some r := by rw [if_neg (show ¬ (false = true) by decide)] at H; exact H
       clear H
       have H := H1
       clear H1
       obtain rfl := Option.some.inj H
       have hcz34_0 : wc.cell? ⟨gb101, 0, none⟩ = some (.slice A0_0 l0_0.length c0_0) := (blk_cell BK101.out 0).trans rfl
       have hcz34_1 : wc.cell? ⟨gb101, 1, none⟩ = some (.slice A0_1 l0_1.length c0_1) := (blk_cell BK101.out 1).trans rfl
       have hcz34_2 : wc.cell? ⟨gb101, 2, none⟩ = some (.bool a0_2) := (blk_cell BK101.out 2).trans rfl
       have hfz34_0 := blk_frozen BK101.out 0
       have hfz34_1 := blk_frozen BK101.out 1
       have hfz34_2 := blk_frozen BK101.out 2
       go_wp2_with (first | ((with_reducible refine gate_callee (f := 30) rfl ?_); refine goesL_ (some 39) rfl rfl Try.func30 (by kernel_rfl) rfl #[.agg #[.slice A0_0 l0_0.length c0_0, .slice A0_1 l0_1.length c0_1, .bool a0_2], .int .i64 a2] rfl (by (try simp only [List.map_toArray, List.map_cons, List.map_nil]); first | done | rfl | (simp only [List.length_drop, List.length_take]; rfl)) ?_; (with_reducible refine (witness_Loop.calls kj7 _ _ l0_0 _ _ l0_1 a0_2 a2 t113 t116 _ ?side1 ?side2 ?side3 ?side4 A21.out).mono ?_); (case side1 => exact tC (Kd.C_below HR0_0.out HB.out)); (case side2 => exact HC0_0.out); (case side3 => exact tC (Kd.C_below HR0_1.out HB.out)); (case side4 => exact HC0_1.out); rintro e w35 ⟨v114, rfl, ho0, hb⟩; refine ⟨_, rfl, ?_⟩; have n0_ := Aside0.mk (Kd.R_lower ho0 (below_size (tB))); have n1_ := Aside0.mk (blk_below (g := gb101) (o := .cells #[.slice A0_0 l0_0.length c0_0, .slice A0_1 l0_1.length c0_1, .bool a0_2] 25 (0, 0)) (tK BK101) hb); have n2_ := Aside0.mk (below_step (tB) hb); clear BK101; clear HB; have HO115 := n0_; have BK101 := n1_; have HB := n2_; clear n0_ n1_ n2_; (try clear hb); (try clear hb2); (try clear hk); (try clear hi); (try clear ho0); have hcz36_0 : w35.cell? ⟨gb101, 0, none⟩ = some (.slice A0_0 l0_0.length c0_0) := (blk_cell BK101.out 0).trans rfl; have hcz36_1 : w35.cell? ⟨gb101, 1, none⟩ = some (.slice A0_1 l0_1.length c0_1) := (blk_cell BK101.out 1).trans rfl; have hcz36_2 : w35.cell? ⟨gb101, 2, none⟩ = some (.bool a0_2) := (blk_cell BK101.out 2).trans rfl; have hfz36_0 := blk_frozen BK101.out 0; have hfz36_1 := blk_frozen BK101.out 1; have hfz36_2 := blk_frozen BK101.out 2) | ((with_reducible refine gate_callee (f := 31) rfl ?_); refine goesL_ (some 45) rfl rfl Try.func31 (by kernel_rfl) rfl #[.agg #[.slice A0_0 l0_0.length c0_0, .slice A0_1 l0_1.length c0_1, .bool a0_2], .int .i64 a2] rfl (by (try simp only [List.map_toArray, List.map_cons, List.map_nil]); first | done | rfl | (simp only [List.length_drop, List.length_take]; rfl)) ?_; (with_reducible refine (petrinetref16_Loop.calls kj7 _ _ l0_0 _ _ l0_1 a0_2 a2 t117 t120 _ ?side1 ?side2 ?side3 ?side4 A22.out).mono ?_); (case side1 => exact tC (Kd.C_below HR0_0.out HB.out)); (case side2 => exact HC0_0.out); (case side3 => exact tC (Kd.C_below HR0_1.out HB.out)); (case side4 => exact HC0_1.out); rintro e w37 ⟨v118, rfl, ho0, hb⟩; refine ⟨_, rfl, ?_⟩; have n0_ := Aside0.mk (Kd.R_elder' (tR HO115) (Kd.R_base ho0) hb); have n1_ := Aside0.mk (Kd.R_lower (Kd.R_new' ho0 (Kd.R_lt (tR HO115))) (below_size (tB))); have n2_ := Aside0.mk (blk_below (g := gb101) (o := .cells #[.slice A0_0 l0_0.length c0_0, .slice A0_1 l0_1.length c0_1, .bool a0_2] 25 (0, 0)) (tK BK101) hb); have n3_ := Aside0.mk (below_step (tB) hb); clear HO115; clear BK101; clear HB; have HO115 := n0_; have HO119 := n1_; have BK101 := n2_; have HB := n3_; clear n0_ n1_ n2_ n3_; (try clear hb); (try clear hb2); (try clear hk); (try clear hi); (try clear ho0); obtain ⟨Ao38, co38, eo38⟩ := Kd.R_slice HO115.out; subst eo38; obtain ⟨Ao39, co39, eo39⟩ := Kd.R_slice HO119.out; subst eo39) | (go_at_call 13; (with_reducible refine (petrinetref04_Same.calls kj7 _ _ t113 _ _ t117 false _ ?side1 ?side2 ?side3 ?side4 A24.out).mono ?_); (case side1 => exact tC (Kd.R_reads' HO115.out).2.2); (case side2 => exact (Kd.R_reads' HO115.out).2.1); (case side3 => exact tC (Kd.R_reads' HO119.out).2.2); (case side4 => exact (Kd.R_reads' HO119.out).2.1); rintro e w' ⟨rfl, ⟨nd, rfl⟩⟩))
       go_ret
       exact ⟨tE, tB⟩
     ·rw [if_neg c23] at H
      have c23b0 : (t116 == t120) = false := by simpa using c23
      (try (have c23b1 : decide (t116 = t120) = false := by simpa using c23))
      (try (have c23b2 : (t116 == t120) = false := by simpa using c23))
      (try (have c23b3 : ¬ (t116 = t120) := by simpa using c23))
      clear c23
      obtain rfl := Option.some.inj H
      have hcz40_0 : wc.cell? ⟨gb101, 0, none⟩ = some (.slice A0_0 l0_0.length c0_0) := (blk_cell BK101.out 0).trans rfl
      have hcz40_1 : wc.cell? ⟨gb101, 1, none⟩ = some (.slice A0_1 l0_1.length c0_1) := (blk_cell BK101.out 1).trans rfl
      have hcz40_2 : wc.cell? ⟨gb101, 2, none⟩ = some (.bool a0_2) := (blk_cell BK101.out 2).trans rfl
      have hfz40_0 := blk_frozen BK101.out 0
      have hfz40_1 := blk_frozen BK101.out 1
      have hfz40_2 := blk_frozen BK101.out 2
      go_wp2_with (first | ((with_reducible refine gate_callee (f := 30) rfl ?_); refine goesL_ (some 39) rfl rfl Try.func30 (by kernel_rfl) rfl #[.agg #[.slice A0_0 l0_0.length c0_0, .slice A0_1 l0_1.length c0_1, .bool a0_2], .int .i64 a2] rfl (by (try simp only [List.map_toArray, List.map_cons, List.map_nil]); first | done | rfl | (simp only [List.length_drop, List.length_take]; rfl)) ?_; (with_reducible refine (witness_Loop.calls kj7 _ _ l0_0 _ _ l0_1 a0_2 a2 t113 t116 _ ?side1 ?side2 ?side3 ?side4 A21.out).mono ?_); (case side1 => exact tC (Kd.C_below HR0_0.out HB.out)); (case side2 => exact HC0_0.out); (case side3 => exact tC (Kd.C_below HR0_1.out HB.out)); (case side4 => exact HC0_1.out); rintro e w41 ⟨v114, rfl, ho0, hb⟩; refine ⟨_, rfl, ?_⟩; have n0_ := Aside0.mk (Kd.R_lower ho0 (below_size (tB))); have n1_ := Aside0.mk (blk_below (g := gb101) (o := .cells #[.slice A0_0 l0_0.length c0_0, .slice A0_1 l0_1.length c0_1, .bool a0_2] 25 (0, 0)) (tK BK101) hb); have n2_ := Aside0.mk (below_step (tB) hb); clear BK101; clear HB; have HO115 := n0_; have BK101 := n1_; have HB := n2_; clear n0_ n1_ n2_; (try clear hb); (try clear hb2); (try clear hk); (try clear hi); (try clear ho0); have hcz42_0 : w41.cell? ⟨gb101, 0, none⟩ = some (.slice A0_0 l0_0.length c0_0) := (blk_cell BK101.out 0).trans rfl; have hcz42_1 : w41.cell? ⟨gb101, 1, none⟩ = some (.slice A0_1 l0_1.length c0_1) := (blk_cell BK101.out 1).trans rfl; have hcz42_2 : w41.cell? ⟨gb101, 2, none⟩ = some (.bool a0_2) := (blk_cell BK101.out 2).trans rfl; have hfz42_0 := blk_frozen BK101.out 0; have hfz42_1 := blk_frozen BK101.out 1; have hfz42_2 := blk_frozen BK101.out 2) | ((with_reducible refine gate_callee (f := 31) rfl ?_); refine goesL_ (some 45) rfl rfl Try.func31 (by kernel_rfl) rfl #[.agg #[.slice A0_0 l0_0.length c0_0, .slice A0_1 l0_1.length c0_1, .bool a0_2], .int .i64 a2] rfl (by (try simp only [List.map_toArray, List.map_cons, List.map_nil]); first | done | rfl | (simp only [List.length_drop, List.length_take]; rfl)) ?_; (with_reducible refine (petrinetref16_Loop.calls kj7 _ _ l0_0 _ _ l0_1 a0_2 a2 t117 t120 _ ?side1 ?side2 ?side3 ?side4 A22.out).mono ?_); (case side1 => exact tC (Kd.C_below HR0_0.out HB.out)); (case side2 => exact HC0_0.out); (case side3 => exact tC (Kd.C_below HR0_1.out HB.out)); (case side4 => exact HC0_1.out); rintro e w43 ⟨v118, rfl, ho0, hb⟩; refine ⟨_, rfl, ?_⟩; have n0_ := Aside0.mk (Kd.R_elder' (tR HO115) (Kd.R_base ho0) hb); have n1_ := Aside0.mk (Kd.R_lower (Kd.R_new' ho0 (Kd.R_lt (tR HO115))) (below_size (tB))); have n2_ := Aside0.mk (blk_below (g := gb101) (o := .cells #[.slice A0_0 l0_0.length c0_0, .slice A0_1 l0_1.length c0_1, .bool a0_2] 25 (0, 0)) (tK BK101) hb); have n3_ := Aside0.mk (below_step (tB) hb); clear HO115; clear BK101; clear HB; have HO115 := n0_; have HO119 := n1_; have BK101 := n2_; have HB := n3_; clear n0_ n1_ n2_ n3_; (try clear hb); (try clear hb2); (try clear hk); (try clear hi); (try clear ho0)))
      go_ret
      exact ⟨tE, tB⟩
 ·replace c5 := Bool.eq_false_iff.mpr c5
  subst c5
  have H1 : ((petrinetlaw16_alive.f k).bind fun t103 => (some t103)) = some r := by rw [if_neg (show ¬ (false = true) by decide)] at H; exact H
  clear H
  have H := H1
  clear H1
  replace H := Option.bind_eq_some_iff.mp H
  obtain ⟨t103, A440, H⟩ := H
  replace H : (some t103) = some r := H
  have A44 := Aside0.mk A440
  clear A440
  obtain rfl := Option.some.inj H
  go_enter Try.func7, Try.ntmps7
  go_wp2_with (first | ((with_reducible refine gate_dst (N := 3) rfl ?_); refine box_event ?hg (N := 3) ?hd (cs := #[.slice A0_0 l0_0.length c0_0, .slice A0_1 l0_1.length c0_1, .bool a0_2]) (t := 25) ?hr ?_; (case hd => rfl); (case hg => rfl); (case hr => first | (go_simp; done) | (go_simp; rfl)); intro gb101 hg w45 hbox hb; have n0_ := Aside0.mk (below_step (tB) hb); have n1_ := Aside0.mk (hbox); have n2_ := Aside0.mk ((by rw [hg]; exact (below_size (tB)) : w.heap.size ≤ gb101)); have n3_ := Aside0.mk ((by rw [hg]; exact (below_size (tB)) : w.heap.size ≤ gb101)); clear HB; have HB := n0_; have BK101 := n1_; have GW101 := n2_; have GE101 := n3_; clear n0_ n1_ n2_ n3_; clear hb hbox hg; have hcz46_0 : w45.cell? ⟨gb101, 0, none⟩ = some (.slice A0_0 l0_0.length c0_0) := (blk_cell BK101.out 0).trans rfl; have hcz46_1 : w45.cell? ⟨gb101, 1, none⟩ = some (.slice A0_1 l0_1.length c0_1) := (blk_cell BK101.out 1).trans rfl; have hcz46_2 : w45.cell? ⟨gb101, 2, none⟩ = some (.bool a0_2) := (blk_cell BK101.out 2).trans rfl; have hfz46_0 := blk_frozen BK101.out 0; have hfz46_1 := blk_frozen BK101.out 1; have hfz46_2 := blk_frozen BK101.out 2) | ((with_reducible refine gate_callee (f := 9) rfl ?_); refine goesL_ (some 12) rfl rfl Try.func9 (by kernel_rfl) rfl #[.agg #[.slice A0_0 l0_0.length c0_0, .slice A0_1 l0_1.length c0_1, .bool a0_2]] rfl (by (try simp only [List.map_toArray, List.map_cons, List.map_nil]); first | done | rfl | (simp only [List.length_drop, List.length_take]; rfl)) ?_; (with_reducible refine (petrinetlaw16_few.calls _ _ l0_0 _ _ l0_1 a0_2 false _ ?side1 ?side2 ?side3 ?side4 A4.out).mono ?_); (case side1 => exact tC (Kd.C_below HR0_0.out HB.out)); (case side2 => exact HC0_0.out); (case side3 => exact tC (Kd.C_below HR0_1.out HB.out)); (case side4 => exact HC0_1.out); rintro e w47 ⟨rfl, hb⟩; refine ⟨_, rfl, ?_⟩; have n0_ := Aside0.mk (blk_below (g := gb101) (o := .cells #[.slice A0_0 l0_0.length c0_0, .slice A0_1 l0_1.length c0_1, .bool a0_2] 25 (0, 0)) (tK BK101) hb); have n1_ := Aside0.mk (below_step (tB) hb); clear BK101; clear HB; have BK101 := n0_; have HB := n1_; clear n0_ n1_; (try clear hb); (try clear hb2); (try clear hk); (try clear hi)) | ((with_reducible refine gate_callee (f := 10) rfl ?_); refine goesL_ (some 14) rfl rfl Try.func10 (by kernel_rfl) rfl #[] rfl (by (try simp only [List.map_toArray, List.map_cons, List.map_nil]); first | done | rfl | (simp only [List.length_drop, List.length_take]; rfl)) ?_; (with_reducible refine (petrinetlaw16_alive.calls k  t103 _ A44.out).mono ?_); rintro e w48 ⟨rfl, hb⟩; refine ⟨_, rfl, ?_⟩; have n0_ := Aside0.mk (blk_below (g := gb101) (o := .cells #[.slice A0_0 l0_0.length c0_0, .slice A0_1 l0_1.length c0_1, .bool a0_2] 25 (0, 0)) (tK BK101) hb); have n1_ := Aside0.mk (below_step (tB) hb); clear BK101; clear HB; have BK101 := n0_; have HB := n1_; clear n0_ n1_; (try clear hb); (try clear hb2); (try clear hk); (try clear hi)))
  go_ret
  exact ⟨tE, tB⟩
end Go.Proofs.Ytfnjbgggmddgpaa.Q
end
