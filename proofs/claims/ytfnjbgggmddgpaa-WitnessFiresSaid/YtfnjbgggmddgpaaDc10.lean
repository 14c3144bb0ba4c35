/- Part 10 of a proof: Dc. Words and walks that a program printed for this claim stand here without what the claim does not use. -/
import Derived.Test.YtfnjbgggmddgpaaDc2
import Derived.Test.YtfnjbgggmddgpaaDc3
import Derived.Test.YtfnjbgggmddgpaaDc6
import Derived.Test.YtfnjbgggmddgpaaDc7
section
namespace Go.Proofs.Ytfnjbgggmddgpaa.Q
open Go.RowKit Go.Proofs.Fn Go.Proofs.YtfnjbgggmddgpaaW.PrintWords Go.Proofs.YtfnjbgggmddgpaaW.PrintLast Go.Proofs.YtfnjbgggmddgpaaW.PrintMore
attribute [local go_sem] max2_int min2_int max_two min_two max_three min_three max_four min_four
set_option linter.unusedVariables false
set_option linter.unusedSimpArgs false
mutual
def witness_Loop.j0 : Nat → List (List (S66)) → Bool → Int → Option (List Int × Bool)
 | 0, _, _, _ => none
 | k + 1, x6, x21, x103000 => if x21 = true then (some (([] : List Int), false)) else ((witness_distances.f k x6 (fun s => some (s == x103000))).bind fun t106 => (if 0 ≤ x103000 then (if x103000 < (x6.length : Int) then (witness_Loop.l0 k x6 t106 false (rd_L66 x6 x103000) ((rd_L66 x6 x103000).length : Int) 0 0 0) else (none)) else (none)))
def witness_Loop.l0 : Nat → List (List (S66)) → List Int → Bool → List (S66) → Int → Int → Int → Int → Option (List Int × Bool)
 | 0, _, _, _, _, _, _, _, _ => none
 | k + 1, x6, x7, x9, x28, x29, x30, x110000, x110001 => if x30 < x29 then (if 0 ≤ x30 then (if x30 < (x28.length : Int) then (if 0 ≤ ((rd_T66 x28 x30).f1) then (if ((rd_T66 x28 x30).f1) < (x7.length : Int) then (if (rd x7 ((rd_T66 x28 x30).f1)) ≥ 0 then (if x9 = true then (if 0 ≤ x110001 then (if x110001 < (x7.length : Int) then (if (rd x7 ((rd_T66 x28 x30).f1)) < (rd x7 x110001) then (witness_Loop.l0 k x6 x7 true x28 x29 (wrap64 (x30 + 1)) ((rd_T66 x28 x30).f0) ((rd_T66 x28 x30).f1)) else (witness_Loop.l0 k x6 x7 x9 x28 x29 (wrap64 (x30 + 1)) x110000 x110001)) else (none)) else (none)) else (witness_Loop.l0 k x6 x7 true x28 x29 (wrap64 (x30 + 1)) ((rd_T66 x28 x30).f0) ((rd_T66 x28 x30).f1))) else (witness_Loop.l0 k x6 x7 x9 x28 x29 (wrap64 (x30 + 1)) x110000 x110001)) else (none)) else (none)) else (none)) else (none)) else (if x9 = true then ((some (([x110000] : List Int) : List Int)).bind fun y116 => ((witness_follow.f k x6 x7 x110001).bind fun t119 => (if y116.length + t119.length < 17592186044416 then (some ((y116 ++ t119), true)) else (none)))) else (some (([] : List Int), false)))
end
def witness_Loop.f (k : Nat) (l0_0 : List (List Int)) (l0_1 : List (S80)) (a0_2 : Bool) (a1 : Int) : Option (List Int × Bool) := (witness_steps.f k l0_0 l0_1 a0_2).bind fun t103 => (if a1 < 0 then (witness_Loop.j0 k t103 true a1) else (witness_Loop.j0 k t103 (decide (a1 ≥ (t103.length : Int))) a1))
def witness_Loop.T10 : Bool × List (List Nat × List Nat) := (true, [([], []), ([], []), ([1], [1]), ([0, 2], [0, 2]), ([3], [3]), ([4], [4]), ([5], [5]), ([6], [6]), ([7, 6], [6, 7]), ([8, 6, 6], [6, 8]), ([9], [9]), ([9], [9]), ([11, 9], [9, 11]), ([10, 12, 9], [9, 10, 12]), ([13, 9], [9, 13]), ([9], [9]), ([9], [9]), ([16, 9], [9, 16]), ([15, 17, 9], [9, 15, 17]), ([18, 9], [9, 18]), ([14, 19, 9], [9, 14, 19]), ([9, 20, 6], [6, 9, 20]), ([6, 21], [6, 21])])
def witness_Loop.B10 : List Nat := [0, 0, 2, 7, 15, 31, 63, 127, 255, 511, 1023, 1023, 3071, 8191, 16383, 1023, 1023, 66559, 230399, 492543, 1048575, 2097151, 4194303]
theorem witness_Loop.tab10 : rtab .any (opsOf Try.f30 10) = witness_Loop.T10 := by kernel_rfl
theorem witness_Loop.bits10 : waitsOk witness_Loop.T10.2 witness_Loop.B10 = true := by kernel_rfl
def witness_Loop.T15 : Bool × List (List Nat × List Nat) := (true, [([], []), ([0], [0]), ([1], [1]), ([], []), ([], []), ([], []), ([5], [5]), ([3, 4, 6], [3, 4, 6]), ([2, 7, 7], [2, 7]), ([8, 8, 0, 1, 2, 3, 4, 5, 6, 7, 8], [8]), ([9, 0, 1, 2, 3, 4, 5, 6, 7, 8, 9], [])])
def witness_Loop.B15 : List Nat := [0, 1, 3, 0, 0, 0, 32, 120, 255, 511, 1023]
theorem witness_Loop.tab15 : rtab .any (opsOf Try.f30 15) = witness_Loop.T15 := by kernel_rfl
theorem witness_Loop.bits15 : waitsOk witness_Loop.T15.2 witness_Loop.B15 = true := by kernel_rfl
set_option maxHeartbeats 8000000 in
set_option maxRecDepth 100000 in
theorem witness_Loop.calls (k : Nat) (A0_0 : Option Addr) (c0_0 : Nat) (l0_0 : List (List Int)) (A0_1 : Option Addr) (c0_1 : Nat) (l0_1 : List (S80)) (a0_2 : Bool) (a1 : Int) (r1 : List Int) (r2 : Bool) (w : World) (hr0_0 : Kd.C (Kd.slice 3 (Kd.int .i64)) w A0_0 l0_0.length l0_0) (hc0_0 : l0_0.length ≤ c0_0) (hr0_1 : Kd.C k80 w A0_1 l0_1.length l0_1) (hc0_1 : l0_1.length ≤ c0_1) (h : witness_Loop.f k l0_0 l0_1 a0_2 a1 = some (r1, r2)) :
  Calls Try.prog 30 #[.agg #[.slice A0_0 l0_0.length c0_0, .slice A0_1 l0_1.length c0_1, .bool a0_2], .int .i64 a1] w fun e w' => ∃ v0_ : Value, e = .returned (.tuple #[v0_, .bool r2]) ∧ Kd.R (Kd.int .i64) 3 w' w.heap.size (fun _ => True) v0_ r1 ∧ Below w.heap.size w w' := by
 have hu25 := Try.underlying25
 have hu66 := Try.underlying66
 have HR0_0 := Aside0.mk hr0_0
 have HC0_0 := Aside0.mk hc0_0
 clear hr0_0 hc0_0
 have HR0_1 := Aside0.mk hr0_1
 have HC0_1 := Aside0.mk hc0_1
 clear hr0_1 hc0_1
 have HB := Aside0.mk (Below.refl w.heap.size w)
 have H : ((witness_steps.f k l0_0 l0_1 a0_2).bind fun t103 => (if a1 < 0 then (witness_Loop.j0 k t103 true a1) else (witness_Loop.j0 k t103 (decide (a1 ≥ (t103.length : Int))) a1))) = some (r1, r2) := h
 clear h
 replace H := Option.bind_eq_some_iff.mp H
 obtain ⟨t103, A30, H⟩ := H
 replace H : (if a1 < 0 then (witness_Loop.j0 k t103 true a1) else (witness_Loop.j0 k t103 (decide (a1 ≥ (t103.length : Int))) a1)) = some (r1, r2) := H
 have A3 := Aside0.mk A30
 clear A30
 have HC4 := Aside0.mk H
 clear H
 go_enter Try.func30, Try.ntmps30
 go_upto_region 2 with (first | ((with_reducible refine gate_dst (N := 2) rfl ?_); (try (refine gate_guard (by rfl) ?_; dsimp only)); refine box_event ?hg (N := 2) ?hd (cs := #[.slice A0_0 l0_0.length c0_0, .slice A0_1 l0_1.length c0_1, .bool a0_2]) (t := 25) ?hr ?_; (case hd => rfl); (case hg => rfl); (case hr => first | (go_simp; done) | (go_simp; rfl)); intro gb101 hg w5 hbox hb; have n0_ := Aside0.mk (below_step (tB) hb); have n1_ := Aside0.mk (hbox); have n2_ := Aside0.mk ((by rw [hg]; exact (below_size (tB)) : w.heap.size ≤ gb101)); have n3_ := Aside0.mk ((by rw [hg]; exact (below_size (tB)) : w.heap.size ≤ gb101)); clear HB; have HB := n0_; have BK101 := n1_; have GW101 := n2_; have GE101 := n3_; clear n0_ n1_ n2_ n3_; clear hb hbox hg) | ((with_reducible refine gate_dst (N := 3) rfl ?_); (try (refine gate_guard (by rfl) ?_; dsimp only)); refine box_event ?hg (N := 3) ?hd (cs := #[.int .i64 a1]) (t := 3) ?hr ?_; (case hd => rfl); (case hg => rfl); (case hr => first | (go_simp; done) | (go_simp; rfl)); intro gb102 hg w6 hbox hb; have n0_ := Aside0.mk (blk_below (g := gb101) (o := .cells #[.slice A0_0 l0_0.length c0_0, .slice A0_1 l0_1.length c0_1, .bool a0_2] 25 (0, 0)) (tK BK101) hb); have n1_ := Aside0.mk (below_step (tB) hb); have n2_ := Aside0.mk (hbox); have n3_ := Aside0.mk ((by rw [hg]; exact (below_size (tB)) : w.heap.size ≤ gb102)); have n4_ := Aside0.mk ((by rw [hg]; exact (below_size (tB)) : w.heap.size ≤ gb102)); have n5_ := Aside0.mk ((by rw [hg]; exact Nat.ne_of_lt (blk_lt (g := gb101) (o := .cells #[.slice A0_0 l0_0.length c0_0, .slice A0_1 l0_1.length c0_1, .bool a0_2] 25 (0, 0)) (tK BK101)) : gb101 ≠ gb102)); have n6_ := Aside0.mk ((by rw [hg]; exact Nat.ne_of_gt (blk_lt (g := gb101) (o := .cells #[.slice A0_0 l0_0.length c0_0, .slice A0_1 l0_1.length c0_1, .bool a0_2] 25 (0, 0)) (tK BK101)) : gb102 ≠ gb101)); clear BK101; clear HB; have BK101 := n0_; have HB := n1_; have BK102 := n2_; have GW102 := n3_; have GE102 := n4_; have NB101_102 := n5_; have NB102_101 := n6_; clear n0_ n1_ n2_ n3_ n4_ n5_ n6_; clear hb hbox hg; have hnb7 := NB101_102.out; have hnc7 := NB102_101.out; have hcz8_0 : w6.cell? ⟨gb101, 0, none⟩ = some (.slice A0_0 l0_0.length c0_0) := (blk_cell BK101.out 0).trans rfl; have hcz8_1 : w6.cell? ⟨gb101, 1, none⟩ = some (.slice A0_1 l0_1.length c0_1) := (blk_cell BK101.out 1).trans rfl; have hcz8_2 : w6.cell? ⟨gb101, 2, none⟩ = some (.bool a0_2) := (blk_cell BK101.out 2).trans rfl; have hfz8_0 := blk_frozen BK101.out 0; have hfz8_1 := blk_frozen BK101.out 1; have hfz8_2 := blk_frozen BK101.out 2) | ((with_reducible refine gate_callee (f := 34) rfl ?_); refine goesL_ (some 13) rfl rfl Try.func34 (by kernel_rfl) rfl #[.agg #[.slice A0_0 l0_0.length c0_0, .slice A0_1 l0_1.length c0_1, .bool a0_2]] rfl (by (try simp only [List.map_toArray, List.map_cons, List.map_nil]); first | done | rfl | (simp only [List.length_drop, List.length_take]; rfl)) ?_; (with_reducible refine (witness_steps.calls k _ _ l0_0 _ _ l0_1 a0_2 t103 _ ?side1 ?side2 ?side3 ?side4 A3.out).mono ?_); (case side1 => exact tC (Kd.C_below HR0_0.out HB.out)); (case side2 => exact HC0_0.out); (case side3 => exact tC (Kd.C_below HR0_1.out HB.out)); (case side4 => exact HC0_1.out); rintro e w ⟨v104, rfl, ho0, hb⟩; refine ⟨_, rfl, ?_⟩; have n0_ := Aside0.mk (Kd.S_lower ho0 (below_size (tB))); have n1_ := Aside0.mk (blk_below (g := gb101) (o := .cells #[.slice A0_0 l0_0.length c0_0, .slice A0_1 l0_1.length c0_1, .bool a0_2] 25 (0, 0)) (tK BK101) hb); have n2_ := Aside0.mk (blk_below (g := gb102) (o := .cells #[.int .i64 a1] 3 (0, 0)) (tK BK102) hb); have n3_ := Aside0.mk (below_step (tB) hb); clear BK101; clear BK102; clear HB; have HO105 := n0_; have BK101 := n1_; have BK102 := n2_; have HB := n3_; clear n0_ n1_ n2_ n3_; (try clear hb); (try clear hb2); (try clear hk); (try clear hi); (try clear ho0); obtain ⟨As_t103, cs_t103, es_t103, hcs_t103, hCs_t103⟩ := Kd.S_reads HO105.out; subst es_t103; have HRs_t103 := Aside0.mk hCs_t103; have HCs_t103 := Aside0.mk hcs_t103; clear hCs_t103 hcs_t103 HO105; have HBS1 := HB; clear HB; have HB := Aside0.mk (Below.refl w.heap.size w); replace HR0_0 := Aside0.mk (Kd.C_below HR0_0.out HBS1.out); replace HR0_1 := Aside0.mk (Kd.C_below HR0_1.out HBS1.out)))
 (try simp only [Act.put, List.setIfInBounds_toArray, List.set_cons_zero, List.set_cons_succ])
 go_cut [21] (fun v21 wc => ∃ (kq : Nat) (x21_3 : Bool), v21 = .bool x21_3 ∧ Aside0 (witness_Loop.j0 kq t103 x21_3 a1 = some (r1, r2)) ∧ Aside0 (kq ≤ k) ∧ Aside0 (wc.heap[gb101]? = some (.cells #[(.slice A0_0 l0_0.length c0_0), (.slice A0_1 l0_1.length c0_1), .bool a0_2] 25 (0, 0))) ∧ Aside0 (wc.heap[gb102]? = some (.cells #[.int .i64 a1] 3 (0, 0))) ∧ Aside0 (Below w.heap.size w wc))
 case first =>
  have H := HC4.out
  clear HC4
  by_cases c9 : a1 < 0
  ·rw [if_pos c9] at H
   have c9b0 : decide (a1 < 0) = true := decide_eq_true c9
   clear c9
   (first | rw [c9b0] | (simp only [i64_w, i32_w]; rw [c9b0]) | skip)
   have H' := Aside0.mk H
   clear H
   have hnb10 := NB102_101.out
   have hnc10 := NB101_102.out
   have hcz11_0 : w.cell? ⟨gb102, 0, none⟩ = some (.int .i64 a1) := (blk_cell BK102.out 0).trans rfl
   have hfz11_0 := blk_frozen BK102.out 0
   go_wp2
   go_meet
   case rel => exact ⟨_, (true), (by first | rfl | (simp; done) | (simp [*]; done)), H', ⟨by first | omega | exact Nat.le_refl _⟩, ⟨tK BK101⟩, ⟨tK BK102⟩, ⟨tB⟩⟩
  ·rw [if_neg c9] at H
   have c9b0 : decide (a1 < 0) = false := decide_eq_false c9
   clear c9
   (first | rw [c9b0] | (simp only [i64_w, i32_w]; rw [c9b0]) | skip)
   have H' := Aside0.mk H
   clear H
   have hnb12 := NB102_101.out
   have hnc12 := NB101_102.out
   have hcz13_0 : w.cell? ⟨gb102, 0, none⟩ = some (.int .i64 a1) := (blk_cell BK102.out 0).trans rfl
   have hfz13_0 := blk_frozen BK102.out 0
   go_wp2
   go_meet
   case rel => exact ⟨_, (decide (a1 ≥ (t103.length : Int))), (by first | rfl | (simp; done) | (simp [*]; done)), H', ⟨by first | omega | exact Nat.le_refl _⟩, ⟨tK BK101⟩, ⟨tK BK102⟩, ⟨tB⟩⟩
 case rest =>
  clear HC4
  try clear c1
  try clear p2
  try clear c3
  try clear c7
  try clear c9
  try clear c9b0
  try clear c10
  try clear c12
  try clear hcz11_0
  try clear hcz13_0
  try clear hcz8_0
  try clear hcz8_1
  try clear hcz8_2
  try clear hfz11_0
  try clear hfz13_0
  try clear hfz8_0
  try clear hfz8_1
  try clear hfz8_2
  obtain ⟨kq, x21_3, rfl, HA, HJ3, BK101, BK102, HB⟩ := hcut
  cases kq with
  | zero => exact absurd HA.out (by simp [witness_Loop.j0])
  | succ kj3 =>
   have H := HA.out
   clear HA
   simp only [witness_Loop.j0] at H
   by_cases c14 : x21_3 = true
   ·subst c14
    have H1 : (some (([] : List Int), false)) = some (r1, r2) := by rw [if_pos rfl] at H; exact H
    clear H
    have H := H1
    clear H1
    simp only [Option.some.injEq, Prod.mk.injEq] at H
    obtain ⟨rfl, rfl⟩ := H
    go_wp2
    go_ret2
    (try refine rebR_ HBS1.out ?_)
    exact ⟨_, tE, by first | exact Kd.R_nil _ _ _ _ _ | exact Kd.N_nil _ _ _ _ _ | exact Kd.V_nil _ _ _ _ _ | exact Kd.Q_nil _ _ _ _ _ | exact Kd.S_nil _ _ _ _ _, tB⟩
   ·replace c14 := Bool.eq_false_iff.mpr c14
    subst c14
    have H1 : ((witness_distances.f kj3 t103 (fun s => some (s == a1))).bind fun t106 => (if 0 ≤ a1 then (if a1 < (t103.length : Int) then (witness_Loop.l0 kj3 t103 t106 false (rd_L66 t103 a1) ((rd_L66 t103 a1).length : Int) 0 0 0) else (none)) else (none))) = some (r1, r2) := by rw [if_neg (show ¬ (false = true) by decide)] at H; exact H
    clear H
    have H := H1
    clear H1
    replace H := Option.bind_eq_some_iff.mp H
    obtain ⟨t106, A150, H⟩ := H
    replace H : (if 0 ≤ a1 then (if a1 < (t103.length : Int) then (witness_Loop.l0 kj3 t103 t106 false (rd_L66 t103 a1) ((rd_L66 t103 a1).length : Int) 0 0 0) else (none)) else (none)) = some (r1, r2) := H
    have A15 := Aside0.mk A150
    clear A150
    by_cases c16 : 0 ≤ a1
    ·rw [if_pos c16] at H
     have c16b0 : decide (0 ≤ a1) = true := decide_eq_true c16
     clear c16
     by_cases c17 : a1 < (t103.length : Int)
     ·rw [if_pos c17] at H
      have c17b0 : decide (a1 < (t103.length : Int)) = true := decide_eq_true c17
      clear c17
      have H' := Aside0.mk H
      clear H
      go_wp2_with (first | ((with_reducible refine gate_callee (f := 53) rfl ?_); refine goesL_ (some 24) rfl rfl Try.func53 (by kernel_rfl) rfl #[.slice As_t103 t103.length cs_t103, .func (.func 54) #[] #[.pointer (some ⟨gb102, 0, none⟩)]] rfl (by (try simp only [List.map_toArray, List.map_cons, List.map_nil]); first | done | rfl | (simp only [List.length_drop, List.length_take]; rfl)) ?_; (with_reducible refine (witness_distances.calls kj3 _ _ t103 (fun s => some (s == a1)) _ _ t106 _ ?side1 ?side2 ?side3 A15.out).mono ?_); (case side1 => exact tC (Kd.C_below HRs_t103.out HB.out)); (case side2 => exact HCs_t103.out); (case side3 => exact fn54 _ _ _ ((blk_cell (tK BK102) 0).trans rfl)); rintro e w18 ⟨v107, rfl, ho0, hb⟩; refine ⟨_, rfl, ?_⟩; have n0_ := Aside0.mk (Kd.R_lower (Kd.R_newB ho0 (g := gb102) (o := .cells #[.int .i64 a1] 3 (0, 0)) (tK BK102)) (below_size (tB))); have n1_ := Aside0.mk (blk_below (g := gb101) (o := .cells #[.slice A0_0 l0_0.length c0_0, .slice A0_1 l0_1.length c0_1, .bool a0_2] 25 (0, 0)) (tK BK101) hb); have n2_ := Aside0.mk (blk_below (g := gb102) (o := .cells #[.int .i64 a1] 3 (0, 0)) (tK BK102) hb); have n3_ := Aside0.mk (below_step (tB) hb); clear BK101; clear BK102; clear HB; have HO108 := n0_; have BK101 := n1_; have BK102 := n2_; have HB := n3_; clear n0_ n1_ n2_ n3_; (try clear hb); (try clear hb2); (try clear hk); (try clear hi); (try clear ho0)) | ((with_reducible refine gate_dst (N := 8) rfl ?_); (try (refine gate_guard (by rfl) ?_; dsimp only)); refine box_event ?hg (N := 8) ?hd (cs := #[.int .i64 0, .int .i64 0]) (t := 66) ?hr ?_; (case hd => rfl); (case hg => rfl); (case hr => first | (go_simp; done) | (go_simp; rfl)); intro gb109 hg w19 hbox hb; have n0_ := Aside0.mk (Kd.R_below (tR HO108) hb); have n1_ := Aside0.mk (blk_below (g := gb101) (o := .cells #[.slice A0_0 l0_0.length c0_0, .slice A0_1 l0_1.length c0_1, .bool a0_2] 25 (0, 0)) (tK BK101) hb); have n2_ := Aside0.mk (blk_below (g := gb102) (o := .cells #[.int .i64 a1] 3 (0, 0)) (tK BK102) hb); have n3_ := Aside0.mk (below_step (tB) hb); have n4_ := Aside0.mk (hbox); have n5_ := Aside0.mk ((by rw [hg]; exact (below_size (tB)) : w.heap.size ≤ gb109)); have n6_ := Aside0.mk ((by rw [hg]; exact (below_size (tB)) : w.heap.size ≤ gb109)); have n7_ := Aside0.mk ((by rw [hg]; exact Nat.ne_of_lt (blk_lt (g := gb101) (o := .cells #[.slice A0_0 l0_0.length c0_0, .slice A0_1 l0_1.length c0_1, .bool a0_2] 25 (0, 0)) (tK BK101)) : gb101 ≠ gb109)); have n8_ := Aside0.mk ((by rw [hg]; exact Nat.ne_of_gt (blk_lt (g := gb101) (o := .cells #[.slice A0_0 l0_0.length c0_0, .slice A0_1 l0_1.length c0_1, .bool a0_2] 25 (0, 0)) (tK BK101)) : gb109 ≠ gb101)); have n9_ := Aside0.mk ((by rw [hg]; exact Nat.ne_of_lt (blk_lt (g := gb102) (o := .cells #[.int .i64 a1] 3 (0, 0)) (tK BK102)) : gb102 ≠ gb109)); have n10_ := Aside0.mk ((by rw [hg]; exact Nat.ne_of_gt (blk_lt (g := gb102) (o := .cells #[.int .i64 a1] 3 (0, 0)) (tK BK102)) : gb109 ≠ gb102)); clear HO108; clear BK101; clear BK102; clear HB; have HO108 := n0_; have BK101 := n1_; have BK102 := n2_; have HB := n3_; have BK109 := n4_; have GW109 := n5_; have GE109 := n6_; have NB101_109 := n7_; have NB109_101 := n8_; have NB102_109 := n9_; have NB109_102 := n10_; clear n0_ n1_ n2_ n3_ n4_ n5_ n6_ n7_ n8_ n9_ n10_; clear hb hbox hg; have hnb20 := NB102_101.out; have hnc20 := NB101_102.out; have hnb21 := NB102_109.out; have hnc21 := NB109_102.out; have hcz22_0 : w19.cell? ⟨gb102, 0, none⟩ = some (.int .i64 a1) := (blk_cell BK102.out 0).trans rfl; have hfz22_0 := blk_frozen BK102.out 0; have p110 : 0 ≤ (a1 : Int) := tD; have q110 : a1 < (t103.length : Int) := tD; obtain ⟨ad110, A110_0, c110_0, e110, hx110_0, hl110_0, hi110_0⟩ := at_L66 HRs_t103.out a1 p110 q110; cases e110; replace hx110_0 := (HB.out.cell (World.block_lt_of_cell? w _ hx110_0)).trans hx110_0; have HR110_0 := Aside0.mk hi110_0; have HC110_0 := Aside0.mk hl110_0; clear hi110_0 hl110_0; replace p110 := eq_true p110; replace q110 := eq_true q110))
      go_loopg [9, 30] kj3 (fun kq v9 v30 w' => ∃ (x9_2 : Bool) (x30_2 : Int) (x110000_2 : Int) (x110001_2 : Int), v9 = .bool x9_2 ∧ v30 = .int .i64 x30_2 ∧ Aside0 (witness_Loop.l0 kq t103 t106 x9_2 (rd_L66 t103 a1) ((rd_L66 t103 a1).length : Int) x30_2 x110000_2 x110001_2 = some (r1, r2)) ∧ Aside0 (kq ≤ kj3) ∧ Aside0 (Kd.R (Kd.int .i64) 3 w' w.heap.size (fun k_ => k_ ≠ gb102) v107 t106) ∧ Aside0 (w'.heap[gb101]? = some (.cells #[(.slice A0_0 l0_0.length c0_0), (.slice A0_1 l0_1.length c0_1), .bool a0_2] 25 (0, 0))) ∧ Aside0 (w'.heap[gb102]? = some (.cells #[.int .i64 a1] 3 (0, 0))) ∧ Aside0 (w'.heap[gb109]? = some (.cells #[.int .i64 x110000_2, .int .i64 x110001_2] 66 (0, 0))) ∧ Aside0 (Below w.heap.size w w'))
      case atStart => exact ⟨(false), (0), (0), (0), (by first | rfl | (simp; done) | (simp [*]; done)), (by first | rfl | (simp; done) | (simp [*]; done)), H', ⟨Nat.le_refl _⟩, ⟨by (with_reducible repeat (first | apply Kd.R_alloc | apply Kd.R_drewN | apply Kd.R_drew)); exact Kd.R_mono HO108.out (fun _ hk => hk.2)⟩, ⟨tK BK101⟩, ⟨tK BK102⟩, ⟨tK BK109⟩, ⟨tB⟩⟩
      case round =>
       clear H'
       try clear c1
       try clear p1
       try clear q1
       try clear hx1
       try clear c2
       try clear p2
       try clear c3
       try clear c5
       try clear c7
       try clear c9
       try clear c9b0
       try clear c10
       try clear c11
       try clear p11
       try clear q11
       try clear hx11
       try clear c12
       try clear c14
       try clear c16
       try clear c16b0
       try clear c17
       try clear c17b0
       try clear c20
       try clear c21
       try clear hcz11_0
       try clear hcz13_0
       try clear hcz22_0
       try clear hcz8_0
       try clear hcz8_1
       try clear hcz8_2
       try clear hfz11_0
       try clear hfz13_0
       try clear hfz22_0
       try clear hfz8_0
       try clear hfz8_1
       try clear hfz8_2
       try clear hx110_0
       try clear p110
       try clear p2
       try clear q110
       obtain ⟨x9_2, x30_2, x110000_2, x110001_2, rfl, rfl, HA, HK2, HO_7, BK101, BK102, BK109, HB⟩ := hrel
       cases gk with
       | zero => exact absurd HA.out (by simp [witness_Loop.l0])
       | succ k2 =>
        have H := HA.out
        clear HA
        simp only [witness_Loop.l0] at H
        by_cases c23 : x30_2 < ((rd_L66 t103 a1).length : Int)
        ·rw [if_pos c23] at H
         have c23b0 : decide (x30_2 < ((rd_L66 t103 a1).length : Int)) = true := decide_eq_true c23
         clear c23
         by_cases c24 : 0 ≤ x30_2
         ·rw [if_pos c24] at H
          have c24b0 : decide (0 ≤ x30_2) = true := decide_eq_true c24
          clear c24
          by_cases c25 : x30_2 < ((rd_L66 t103 a1).length : Int)
          ·rw [if_pos c25] at H
           have c25b0 : decide (x30_2 < ((rd_L66 t103 a1).length : Int)) = true := decide_eq_true c25
           clear c25
           by_cases c26 : 0 ≤ ((rd_T66 (rd_L66 t103 a1) x30_2).f1)
           ·rw [if_pos c26] at H
            have c26b0 : decide (0 ≤ ((rd_T66 (rd_L66 t103 a1) x30_2).f1)) = true := decide_eq_true c26
            clear c26
            by_cases c27 : ((rd_T66 (rd_L66 t103 a1) x30_2).f1) < (t106.length : Int)
            ·rw [if_pos c27] at H
             have c27b0 : decide (((rd_T66 (rd_L66 t103 a1) x30_2).f1) < (t106.length : Int)) = true := decide_eq_true c27
             clear c27
             by_cases c28 : (rd t106 ((rd_T66 (rd_L66 t103 a1) x30_2).f1)) ≥ 0
             ·rw [if_pos c28] at H
              have c28b0 : decide (0 ≤ (rd t106 ((rd_T66 (rd_L66 t103 a1) x30_2).f1))) = true := decide_eq_true c28
              clear c28
              by_cases c29 : x9_2 = true
              ·subst c29
               have H1 : (if 0 ≤ x110001_2 then (if x110001_2 < (t106.length : Int) then (if (rd t106 ((rd_T66 (rd_L66 t103 a1) x30_2).f1)) < (rd t106 x110001_2) then (witness_Loop.l0 k2 t103 t106 true (rd_L66 t103 a1) ((rd_L66 t103 a1).length : Int) (wrap64 (x30_2 + 1)) ((rd_T66 (rd_L66 t103 a1) x30_2).f0) ((rd_T66 (rd_L66 t103 a1) x30_2).f1)) else (witness_Loop.l0 k2 t103 t106 true (rd_L66 t103 a1) ((rd_L66 t103 a1).length : Int) (wrap64 (x30_2 + 1)) x110000_2 x110001_2)) else (none)) else (none)) = some (r1, r2) := by rw [if_pos rfl] at H; exact H
               clear H
               have H := H1
               clear H1
               by_cases c30 : 0 ≤ x110001_2
               ·rw [if_pos c30] at H
                have c30b0 : decide (0 ≤ x110001_2) = true := decide_eq_true c30
                clear c30
                by_cases c31 : x110001_2 < (t106.length : Int)
                ·rw [if_pos c31] at H
                 have c31b0 : decide (x110001_2 < (t106.length : Int)) = true := decide_eq_true c31
                 clear c31
                 by_cases c32 : (rd t106 ((rd_T66 (rd_L66 t103 a1) x30_2).f1)) < (rd t106 x110001_2)
                 ·rw [if_pos c32] at H
                  have c32b0 : decide ((rd t106 ((rd_T66 (rd_L66 t103 a1) x30_2).f1)) < (rd t106 x110001_2)) = true := decide_eq_true c32
                  clear c32
                  have H' := Aside0.mk H
                  clear H
                  have p111 : 0 ≤ (x30_2 : Int) := tD
                  have q111 : x30_2 < ((rd_L66 t103 a1).length : Int) := tD
                  obtain ⟨ad111, e111, hx111_0, hx111_1⟩ := at_T66 HR110_0.out x30_2 p111 q111
                  cases e111
                  replace hx111_0 := (HB.out.cell (World.block_lt_of_cell? w _ hx111_0)).trans hx111_0
                  replace hx111_1 := (HB.out.cell (World.block_lt_of_cell? w _ hx111_1)).trans hx111_1
                  replace p111 := eq_true p111
                  replace q111 := eq_true q111
                  try go_wp2_with (first | ((with_reducible refine gate_dst (N := 11) rfl ?_); (try (refine gate_guard (by rfl) ?_; dsimp only)); refine box_event ?hg (N := 11) ?hd (cs := #[.int .i64 0, .int .i64 0]) (t := 66) ?hr ?_; (case hd => rfl); (case hg => rfl); (case hr => first | (go_simp; done) | (go_simp; rfl)); intro gb112 hg w33 hbox hb; have n0_ := Aside0.mk (Kd.R_below (tR HO_7) hb); have n1_ := Aside0.mk (blk_below (g := gb101) (o := .cells #[.slice A0_0 l0_0.length c0_0, .slice A0_1 l0_1.length c0_1, .bool a0_2] 25 (0, 0)) (tK BK101) hb); have n2_ := Aside0.mk (blk_below (g := gb102) (o := .cells #[.int .i64 a1] 3 (0, 0)) (tK BK102) hb); have n3_ := Aside0.mk (blk_below (g := gb109) (o := .cells #[.int .i64 x110000_2, .int .i64 x110001_2] 66 (0, 0)) (tK BK109) hb); have n4_ := Aside0.mk (below_step (tB) hb); have n5_ := Aside0.mk (hbox); have n6_ := Aside0.mk ((by rw [hg]; exact (below_size (tB)) : w.heap.size ≤ gb112)); have n7_ := Aside0.mk ((by rw [hg]; exact (below_size (tB)) : w.heap.size ≤ gb112)); have n8_ := Aside0.mk ((by rw [hg]; exact Nat.ne_of_lt (blk_lt (g := gb101) (o := .cells #[.slice A0_0 l0_0.length c0_0, .slice A0_1 l0_1.length c0_1, .bool a0_2] 25 (0, 0)) (tK BK101)) : gb101 ≠ gb112)); have n9_ := Aside0.mk ((by rw [hg]; exact Nat.ne_of_gt (blk_lt (g := gb101) (o := .cells #[.slice A0_0 l0_0.length c0_0, .slice A0_1 l0_1.length c0_1, .bool a0_2] 25 (0, 0)) (tK BK101)) : gb112 ≠ gb101)); have n10_ := Aside0.mk ((by rw [hg]; exact Nat.ne_of_lt (blk_lt (g := gb102) (o := .cells #[.int .i64 a1] 3 (0, 0)) (tK BK102)) : gb102 ≠ gb112)); have n11_ := Aside0.mk ((by rw [hg]; exact Nat.ne_of_gt (blk_lt (g := gb102) (o := .cells #[.int .i64 a1] 3 (0, 0)) (tK BK102)) : gb112 ≠ gb102)); have n12_ := Aside0.mk ((by rw [hg]; exact Nat.ne_of_lt (blk_lt (g := gb109) (o := .cells #[.int .i64 x110000_2, .int .i64 x110001_2] 66 (0, 0)) (tK BK109)) : gb109 ≠ gb112)); have n13_ := Aside0.mk ((by rw [hg]; exact Nat.ne_of_gt (blk_lt (g := gb109) (o := .cells #[.int .i64 x110000_2, .int .i64 x110001_2] 66 (0, 0)) (tK BK109)) : gb112 ≠ gb109)); clear HO_7; clear BK101; clear BK102; clear BK109; clear HB; have HO_7 := n0_; have BK101 := n1_; have BK102 := n2_; have BK109 := n3_; have HB := n4_; have BK112 := n5_; have GW112 := n6_; have GE112 := n7_; have NB101_112 := n8_; have NB112_101 := n9_; have NB102_112 := n10_; have NB112_102 := n11_; have NB109_112 := n12_; have NB112_109 := n13_; clear n0_ n1_ n2_ n3_ n4_ n5_ n6_ n7_ n8_ n9_ n10_ n11_ n12_ n13_; clear hb hbox hg; have hnb34 := NB112_101.out; have hnc34 := NB101_112.out; have hnb35 := NB112_102.out; have hnc35 := NB102_112.out; have hnb36 := NB112_109.out; have hnc36 := NB109_112.out; have hcz37_0 : w33.cell? ⟨gb112, 0, none⟩ = some (.int .i64 0) := (blk_cell BK112.out 0).trans rfl; have hcz37_1 : w33.cell? ⟨gb112, 1, none⟩ = some (.int .i64 0) := (blk_cell BK112.out 1).trans rfl; have hfz37_0 := blk_frozen BK112.out 0; have hfz37_1 := blk_frozen BK112.out 1))
                  have n0_ : Aside0 (Kd.R (Kd.int .i64) 3 ((w33.setCell ⟨gb112, 0, none⟩ (.int .i64 ((rd_T66 (rd_L66 t103 a1) x30_2).f0))).setCell ⟨gb112, 1, none⟩ (.int .i64 ((rd_T66 (rd_L66 t103 a1) x30_2).f1))) w.heap.size (fun k_ => k_ ≠ gb102) v107 t106) := ⟨by (with_reducible repeat (first | apply Kd.R_alloc | apply Kd.R_drewN | apply Kd.R_drew)); exact Kd.R_mono (Kd.R_far (p := ⟨gb112, 1, none⟩) (Kd.R_far (p := ⟨gb112, 0, none⟩) (Kd.R_types HO_7.out BK112.out (by decide)) (fun _ hk => hk.2) (.int .i64 ((rd_T66 (rd_L66 t103 a1) x30_2).f0))) (fun _ hk => hk.2) (.int .i64 ((rd_T66 (rd_L66 t103 a1) x30_2).f1))) (fun _ hk => hk.1)⟩
                  have n1_ : Aside0 (((w33.setCell ⟨gb112, 0, none⟩ (.int .i64 ((rd_T66 (rd_L66 t103 a1) x30_2).f0))).setCell ⟨gb112, 1, none⟩ (.int .i64 ((rd_T66 (rd_L66 t103 a1) x30_2).f1))).heap[gb101]? = some (.cells #[.slice A0_0 l0_0.length c0_0, .slice A0_1 l0_1.length c0_1, .bool a0_2] 25 (0, 0))) := ⟨by (with_reducible repeat (first | refine blk_drewN ?_ _ | refine blk_drew ?_ | refine blk_alloc ?_ _)); refine blk_far ?_ NB101_112.out _; (with_reducible repeat (first | refine blk_drewN ?_ _ | refine blk_drew ?_ | refine blk_alloc ?_ _)); refine blk_far ?_ NB101_112.out _; (with_reducible repeat (first | refine blk_drewN ?_ _ | refine blk_drew ?_ | refine blk_alloc ?_ _)); exact BK101.out⟩
                  have n2_ : Aside0 (((w33.setCell ⟨gb112, 0, none⟩ (.int .i64 ((rd_T66 (rd_L66 t103 a1) x30_2).f0))).setCell ⟨gb112, 1, none⟩ (.int .i64 ((rd_T66 (rd_L66 t103 a1) x30_2).f1))).heap[gb102]? = some (.cells #[.int .i64 a1] 3 (0, 0))) := ⟨by (with_reducible repeat (first | refine blk_drewN ?_ _ | refine blk_drew ?_ | refine blk_alloc ?_ _)); refine blk_far ?_ NB102_112.out _; (with_reducible repeat (first | refine blk_drewN ?_ _ | refine blk_drew ?_ | refine blk_alloc ?_ _)); refine blk_far ?_ NB102_112.out _; (with_reducible repeat (first | refine blk_drewN ?_ _ | refine blk_drew ?_ | refine blk_alloc ?_ _)); exact BK102.out⟩
                  have n3_ : Aside0 (((w33.setCell ⟨gb112, 0, none⟩ (.int .i64 ((rd_T66 (rd_L66 t103 a1) x30_2).f0))).setCell ⟨gb112, 1, none⟩ (.int .i64 ((rd_T66 (rd_L66 t103 a1) x30_2).f1))).heap[gb109]? = some (.cells #[.int .i64 x110000_2, .int .i64 x110001_2] 66 (0, 0))) := ⟨by (with_reducible repeat (first | refine blk_drewN ?_ _ | refine blk_drew ?_ | refine blk_alloc ?_ _)); refine blk_far ?_ NB109_112.out _; (with_reducible repeat (first | refine blk_drewN ?_ _ | refine blk_drew ?_ | refine blk_alloc ?_ _)); refine blk_far ?_ NB109_112.out _; (with_reducible repeat (first | refine blk_drewN ?_ _ | refine blk_drew ?_ | refine blk_alloc ?_ _)); exact BK109.out⟩
                  have n4_ : Aside0 (((w33.setCell ⟨gb112, 0, none⟩ (.int .i64 ((rd_T66 (rd_L66 t103 a1) x30_2).f0))).setCell ⟨gb112, 1, none⟩ (.int .i64 ((rd_T66 (rd_L66 t103 a1) x30_2).f1))).heap[gb112]? = some (.cells #[.int .i64 ((rd_T66 (rd_L66 t103 a1) x30_2).f0), .int .i64 ((rd_T66 (rd_L66 t103 a1) x30_2).f1)] 66 (0, 0))) := ⟨by (with_reducible repeat (first | refine blk_drewN ?_ _ | refine blk_drew ?_ | refine blk_alloc ?_ _)); refine blk_put (cs := #[.int .i64 ((rd_T66 (rd_L66 t103 a1) x30_2).f0), .int .i64 0]) ?_ 1 _ rfl; (with_reducible repeat (first | refine blk_drewN ?_ _ | refine blk_drew ?_ | refine blk_alloc ?_ _)); refine blk_put (cs := #[.int .i64 0, .int .i64 0]) ?_ 0 _ rfl; (with_reducible repeat (first | refine blk_drewN ?_ _ | refine blk_drew ?_ | refine blk_alloc ?_ _)); exact BK112.out⟩
                  have n5_ : Aside0 (Below w.heap.size w ((w33.setCell ⟨gb112, 0, none⟩ (.int .i64 ((rd_T66 (rd_L66 t103 a1) x30_2).f0))).setCell ⟨gb112, 1, none⟩ (.int .i64 ((rd_T66 (rd_L66 t103 a1) x30_2).f1)))) := ⟨tB⟩
                  (try clear HO_7)
                  (try clear BK101)
                  (try clear BK102)
                  (try clear BK109)
                  (try clear BK112)
                  (try clear HB)
                  generalize ((w33.setCell ⟨gb112, 0, none⟩ (.int .i64 ((rd_T66 (rd_L66 t103 a1) x30_2).f0))).setCell ⟨gb112, 1, none⟩ (.int .i64 ((rd_T66 (rd_L66 t103 a1) x30_2).f1))) = w38 at n0_ n1_ n2_ n3_ n4_ n5_ ⊢
                  have HO_7 := n0_
                  have BK101 := n1_
                  have BK102 := n2_
                  have BK109 := n3_
                  have BK112 := n4_
                  have HB := n5_
                  clear n0_ n1_ n2_ n3_ n4_ n5_
                  have n0_ := Aside0.mk (Kd.R_drew HO_7.out)
                  have n1_ := Aside0.mk (blk_drew BK101.out)
                  have n2_ := Aside0.mk (blk_drew BK102.out)
                  have n3_ := Aside0.mk (blk_drew BK109.out)
                  have n4_ := Aside0.mk (blk_drew BK112.out)
                  have n5_ := Aside0.mk (below_drew1 HB.out)
                  clear HO_7
                  clear BK101
                  clear BK102
                  clear BK109
                  clear BK112
                  clear HB
                  have HO_7 := n0_
                  have BK101 := n1_
                  have BK102 := n2_
                  have BK109 := n3_
                  have BK112 := n4_
                  have HB := n5_
                  clear n0_ n1_ n2_ n3_ n4_ n5_
                  obtain ⟨Ao40, co40, eo40⟩ := Kd.R_slice HO_7.out
                  (first | subst eo40 | (injection eo40 with f1_ f2_ f3_; have f4_ := f1_.symm; have f5_ := f3_.symm; clear f1_ f2_ f3_; subst f4_; subst f5_))
                  have p113 : 0 ≤ (((rd_T66 (rd_L66 t103 a1) x30_2).f1) : Int) := tD
                  have q113 : ((rd_T66 (rd_L66 t103 a1) x30_2).f1) < (t106.length : Int) := tD
                  obtain ⟨ad113, e113, hx113_0⟩ := Kd.at_int (Kd.R_reads' HO_7.out).2.2 ((rd_T66 (rd_L66 t103 a1) x30_2).f1) p113 q113
                  cases e113
                  replace p113 := eq_true p113
                  replace q113 := eq_true q113
                  have p114 : 0 ≤ (((rd_T66 (rd_L66 t103 a1) x30_2).f1) : Int) := tD
                  have q114 : ((rd_T66 (rd_L66 t103 a1) x30_2).f1) < (t106.length : Int) := tD
                  obtain ⟨ad114, e114, hx114_0⟩ := Kd.at_int (Kd.R_reads' HO_7.out).2.2 ((rd_T66 (rd_L66 t103 a1) x30_2).f1) p114 q114
                  obtain rfl : ad113 = ad114 := (by injection e114)
                  replace p114 := eq_true p114
                  replace q114 := eq_true q114
                  have p115 : 0 ≤ (x110001_2 : Int) := tD
                  have q115 : x110001_2 < (t106.length : Int) := tD
                  obtain ⟨ad115, e115, hx115_0⟩ := Kd.at_int (Kd.R_reads' HO_7.out).2.2 x110001_2 p115 q115
                  obtain rfl : ad113 = ad115 := (by injection e115)
                  replace p115 := eq_true p115
                  replace q115 := eq_true q115
                  refine start_ (n := 23) (S := fun w' => w'.cell? ⟨gb112, 0, none⟩ = some (.int .i64 ((rd_T66 (rd_L66 t103 a1) x30_2).f0)) ∧ w'.cell? ⟨gb112, 1, none⟩ = some (.int .i64 ((rd_T66 (rd_L66 t103 a1) x30_2).f1)) ∧ w'.cell? ⟨gb109, 0, none⟩ = some (.int .i64 x110000_2) ∧ w'.cell? ⟨gb109, 1, none⟩ = some (.int .i64 x110001_2) ∧ w'.cell? (ad113.add (((rd_T66 (rd_L66 t103 a1) x30_2).f1)).toNat) = some (.int .i64 (rd t106 ((rd_T66 (rd_L66 t103 a1) x30_2).f1))) ∧ w'.cell? (ad113.add (((rd_T66 (rd_L66 t103 a1) x30_2).f1)).toNat) = some (.int .i64 (rd t106 ((rd_T66 (rd_L66 t103 a1) x30_2).f1))) ∧ w'.cell? (ad113.add (x110001_2).toNat) = some (.int .i64 (rd t106 x110001_2))) (ds := []) #[false, false, false, false, false, false, false, false, false, false, false, false, false, false, false, false, false, false, false, false, false, false, false] (by kernel_rfl) rfl rfl ⟨(blk_cell BK112.out 0).trans rfl, (blk_cell BK112.out 1).trans rfl, (blk_cell BK109.out 0).trans rfl, (blk_cell BK109.out 1).trans rfl, hx113_0, hx114_0, hx115_0⟩ (fun hHeld => ?_); refine with_tabW witness_Loop.tab10 witness_Loop.bits10 (fun HT_ HW_ => ?_)
                  generalize w38.drew = w39 at HO_7 BK101 BK102 BK109 BK112 HB hx113_0 hx114_0 hx115_0 hHeld ⊢
                  refine pure_ (i := 0) (N := some 34) (v := ?_) (a' := ?_) #[true, false, false, false, false, false, false, false, false, false, false, false, false, false, false, false, false, false, false, false, false, false, false] rfl rfl (any_of HT_.out (by kernel_rfl)) (fun _ _ _ h => h) (Or.inl ⟨by rfl, ?_⟩) ?_ ?_
                  rotate_left
                  ·intro w'
                   go_simp
                   with_reducible rfl
                  rotate_left
                  ·simp only [tS, i64_w, i32_w]
                   rfl
                  refine pure_ (i := 1) (N := some 35) (v := ?_) (a' := ?_) #[true, true, false, false, false, false, false, false, false, false, false, false, false, false, false, false, false, false, false, false, false, false, false] rfl rfl (any_of HT_.out (by kernel_rfl)) (fun _ _ _ h => h) (Or.inl ⟨by rfl, ?_⟩) ?_ ?_
                  rotate_left
                  ·intro w'
                   go_simp
                   with_reducible rfl
                  rotate_left
                  ·simp only [tS, i64_w, i32_w]
                   rfl
                  refine take_ (i := 2) (N := some 36) (v := ?_) (a' := ?_) #[true, true, true, false, false, false, false, false, false, false, false, false, false, false, false, false, false, false, false, false, false, false, false] rfl rfl (take_ofW HT_.out HW_.out (by kernel_rfl)) (fun _ _ _ h => h) (Or.inl ⟨by rfl, ?_⟩) hHeld ?_ ?_
                  rotate_left
                  ·rintro w' ⟨s0, s1, s2, s3, s4, s5, s6⟩
                   go_simp
                   with_reducible rfl
                  rotate_left
                  ·simp only [tS, i64_w, i32_w]
                   rfl
                  refine pure_ (i := 3) (N := some 37) (v := ?_) (a' := ?_) #[true, true, true, true, false, false, false, false, false, false, false, false, false, false, false, false, false, false, false, false, false, false, false] rfl rfl (any_of HT_.out (by kernel_rfl)) (fun _ _ _ h => h) (Or.inl ⟨by rfl, ?_⟩) ?_ ?_
                  rotate_left
                  ·intro w'
                   go_simp
                   with_reducible rfl
                  rotate_left
                  ·simp only [tS, i64_w, i32_w]
                   rfl
                  refine take_ (i := 4) (N := some 38) (v := ?_) (a' := ?_) #[true, true, true, true, true, false, false, false, false, false, false, false, false, false, false, false, false, false, false, false, false, false, false] rfl rfl (take_ofW HT_.out HW_.out (by kernel_rfl)) (fun _ _ _ h => h) (Or.inl ⟨by rfl, ?_⟩) hHeld ?_ ?_
                  rotate_left
                  ·rintro w' ⟨s0, s1, s2, s3, s4, s5, s6⟩
                   go_simp
                   with_reducible rfl
                  rotate_left
                  ·simp only [tS, i64_w, i32_w]
                   rfl
                  refine pure_ (i := 5) (N := some 39) (v := ?_) (a' := ?_) #[true, true, true, true, true, true, false, false, false, false, false, false, false, false, false, false, false, false, false, false, false, false, false] rfl rfl (any_of HT_.out (by kernel_rfl)) (fun _ _ _ h => h) (Or.inl ⟨by rfl, ?_⟩) ?_ ?_
                  rotate_left
                  ·intro w'
                   go_simp
                   with_reducible rfl
                  rotate_left
                  ·simp only [tS, i64_w, i32_w]
                   rfl
                  refine pure_ (i := 6) (N := some 40) (v := ?_) (a' := ?_) #[true, true, true, true, true, true, true, false, false, false, false, false, false, false, false, false, false, false, false, false, false, false, false] rfl rfl (any_of HT_.out (by kernel_rfl)) (fun _ _ _ h => h) (Or.inl ⟨by rfl, ?_⟩) ?_ ?_
                  rotate_left
                  ·intro w'
                   go_simp
                   with_reducible rfl
                  rotate_left
                  ·simp only [tS, i64_w, i32_w]
                   rfl
                  refine pure_ (i := 7) (N := some 41) (v := ?_) (a' := ?_) #[true, true, true, true, true, true, true, true, false, false, false, false, false, false, false, false, false, false, false, false, false, false, false] rfl rfl (any_of HT_.out (by kernel_rfl)) (fun _ _ _ h => h) (Or.inl ⟨by rfl, ?_⟩) ?_ ?_
                  rotate_left
                  ·intro w'
                   go_simp
                   with_reducible rfl
                  rotate_left
                  ·simp only [tS, i64_w, i32_w]
                   rfl
                  refine pure_ (i := 8) (N := some 42) (v := ?_) (a' := ?_) #[true, true, true, true, true, true, true, true, true, false, false, false, false, false, false, false, false, false, false, false, false, false, false] rfl rfl (any_of HT_.out (by kernel_rfl)) (fun _ _ _ h => h) (Or.inl ⟨by rfl, ?_⟩) ?_ ?_
                  rotate_left
                  ·intro w'
                   go_simp
                   with_reducible rfl
                  rotate_left
                  ·simp only [tS, i64_w, i32_w]
                   rfl
                  refine pure_ (i := 9) (N := some 43) (v := ?_) (a' := ?_) #[true, true, true, true, true, true, true, true, true, true, false, false, false, false, false, false, false, false, false, false, false, false, false] rfl rfl (any_of HT_.out (by kernel_rfl)) (fun _ _ _ h => h) (Or.inl ⟨by rfl, ?_⟩) ?_ ?_
                  rotate_left
                  ·intro w'
                   go_simp
                   with_reducible rfl
                  rotate_left
                  ·simp only [tS, i64_w, i32_w]
                   rfl
                  refine pure_ (i := 10) (N := some 44) (v := ?_) (a' := ?_) #[true, true, true, true, true, true, true, true, true, true, true, false, false, false, false, false, false, false, false, false, false, false, false] rfl rfl (any_of HT_.out (by kernel_rfl)) (fun _ _ _ h => h) (Or.inl ⟨by rfl, ?_⟩) ?_ ?_
                  rotate_left
                  ·intro w'
                   go_simp
                   with_reducible rfl
                  rotate_left
                  ·simp only [tS, i64_w, i32_w]
                   rfl
                  refine pure_ (i := 11) (N := some 45) (v := ?_) (a' := ?_) #[true, true, true, true, true, true, true, true, true, true, true, true, false, false, false, false, false, false, false, false, false, false, false] rfl rfl (any_of HT_.out (by kernel_rfl)) (fun _ _ _ h => h) (Or.inl ⟨by rfl, ?_⟩) ?_ ?_
                  rotate_left
                  ·intro w'
                   go_simp
                   with_reducible rfl
                  rotate_left
                  ·simp only [tS, i64_w, i32_w]
                   rfl
                  refine pure_ (i := 15) (N := some 49) (v := ?_) (a' := ?_) #[true, true, true, true, true, true, true, true, true, true, true, true, false, false, false, true, false, false, false, false, false, false, false] rfl rfl (any_of HT_.out (by kernel_rfl)) (fun _ _ _ h => h) (Or.inl ⟨by rfl, ?_⟩) ?_ ?_
                  rotate_left
                  ·intro w'
                   go_simp
                   with_reducible rfl
                  rotate_left
                  ·simp only [tS, i64_w, i32_w]
                   rfl
                  refine pure_ (i := 16) (N := some 50) (v := ?_) (a' := ?_) #[true, true, true, true, true, true, true, true, true, true, true, true, false, false, false, true, true, false, false, false, false, false, false] rfl rfl (any_of HT_.out (by kernel_rfl)) (fun _ _ _ h => h) (Or.inl ⟨by rfl, ?_⟩) ?_ ?_
                  rotate_left
                  ·intro w'
                   go_simp
                   with_reducible rfl
                  rotate_left
                  ·simp only [tS, i64_w, i32_w]
                   rfl
                  refine take_ (i := 12) (N := some 46) (v := ?_) (a' := ?_) #[true, true, true, true, true, true, true, true, true, true, true, true, true, false, false, true, true, false, false, false, false, false, false] rfl rfl (take_ofW HT_.out HW_.out (by kernel_rfl)) (fun _ _ _ h => h) (Or.inl ⟨by rfl, ?_⟩) hHeld ?_ ?_
                  rotate_left
                  ·rintro w' ⟨s0, s1, s2, s3, s4, s5, s6⟩
                   go_simp
                   with_reducible rfl
                  rotate_left
                  ·simp only [tS, i64_w, i32_w]
                   rfl
                  refine pure_ (i := 13) (N := some 47) (v := ?_) (a' := ?_) #[true, true, true, true, true, true, true, true, true, true, true, true, true, true, false, true, true, false, false, false, false, false, false] rfl rfl (any_of HT_.out (by kernel_rfl)) (fun _ _ _ h => h) (Or.inl ⟨by rfl, ?_⟩) ?_ ?_
                  rotate_left
                  ·intro w'
                   go_simp
                   with_reducible rfl
                  rotate_left
                  ·simp only [tS, i64_w, i32_w]
                   rfl
                  refine take_ (i := 14) (N := some 48) (v := ?_) (a' := ?_) #[true, true, true, true, true, true, true, true, true, true, true, true, true, true, true, true, true, false, false, false, false, false, false] rfl rfl (take_ofW HT_.out HW_.out (by kernel_rfl)) (fun _ _ _ h => h) (Or.inl ⟨by rfl, ?_⟩) hHeld ?_ ?_
                  rotate_left
                  ·rintro w' ⟨s0, s1, s2, s3, s4, s5, s6⟩
                   go_simp
                   with_reducible rfl
                  rotate_left
                  ·simp only [tS, i64_w, i32_w]
                   rfl
                  refine take_ (i := 17) (N := some 51) (v := ?_) (a' := ?_) #[true, true, true, true, true, true, true, true, true, true, true, true, true, true, true, true, true, true, false, false, false, false, false] rfl rfl (take_ofW HT_.out HW_.out (by kernel_rfl)) (fun _ _ _ h => h) (Or.inl ⟨by rfl, ?_⟩) hHeld ?_ ?_
                  rotate_left
                  ·rintro w' ⟨s0, s1, s2, s3, s4, s5, s6⟩
                   go_simp
                   with_reducible rfl
                  rotate_left
                  ·simp only [tS, i64_w, i32_w]
                   rfl
                  refine pure_ (i := 18) (N := some 52) (v := ?_) (a' := ?_) #[true, true, true, true, true, true, true, true, true, true, true, true, true, true, true, true, true, true, true, false, false, false, false] rfl rfl (any_of HT_.out (by kernel_rfl)) (fun _ _ _ h => h) (Or.inl ⟨by rfl, ?_⟩) ?_ ?_
                  rotate_left
                  ·intro w'
                   go_simp
                   with_reducible rfl
                  rotate_left
                  ·simp only [tS, i64_w, i32_w]
                   rfl
                  refine take_ (i := 19) (N := some 53) (v := ?_) (a' := ?_) #[true, true, true, true, true, true, true, true, true, true, true, true, true, true, true, true, true, true, true, true, false, false, false] rfl rfl (take_ofW HT_.out HW_.out (by kernel_rfl)) (fun _ _ _ h => h) (Or.inl ⟨by rfl, ?_⟩) hHeld ?_ ?_
                  rotate_left
                  ·rintro w' ⟨s0, s1, s2, s3, s4, s5, s6⟩
                   go_simp
                   with_reducible rfl
                  rotate_left
                  ·simp only [tS, i64_w, i32_w]
                   rfl
                  refine pure_ (i := 20) (N := some 54) (v := ?_) (a' := ?_) #[true, true, true, true, true, true, true, true, true, true, true, true, true, true, true, true, true, true, true, true, true, false, false] rfl rfl (any_of HT_.out (by kernel_rfl)) (fun _ _ _ h => h) (Or.inl ⟨by rfl, ?_⟩) ?_ ?_
                  rotate_left
                  ·intro w'
                   go_simp
                   with_reducible rfl
                  rotate_left
                  ·simp only [tS, i64_w, i32_w]
                   rfl
                  refine pure_ (i := 21) (N := some 55) (v := ?_) (a' := ?_) #[true, true, true, true, true, true, true, true, true, true, true, true, true, true, true, true, true, true, true, true, true, true, false] rfl rfl (any_of HT_.out (by kernel_rfl)) (fun _ _ _ h => h) (Or.inl ⟨by rfl, ?_⟩) ?_ ?_
                  rotate_left
                  ·intro w'
                   go_simp
                   with_reducible rfl
                  rotate_left
                  ·simp only [tS, i64_w, i32_w]
                   rfl
                  refine pure_ (i := 22) (N := some 56) (v := ?_) (a' := ?_) #[true, true, true, true, true, true, true, true, true, true, true, true, true, true, true, true, true, true, true, true, true, true, true] rfl rfl (any_of HT_.out (by kernel_rfl)) (fun _ _ _ h => h) (Or.inl ⟨by rfl, ?_⟩) ?_ ?_
                  rotate_left
                  ·intro w'
                   go_simp
                   with_reducible rfl
                  rotate_left
                  ·simp only [tS, i64_w, i32_w]
                   rfl
                  refine done_ (done_of HT_.out (by kernel_rfl)) ?_
                  have hcz41_0 : w39.cell? ⟨gb112, 0, none⟩ = some (.int .i64 ((rd_T66 (rd_L66 t103 a1) x30_2).f0)) := (blk_cell BK112.out 0).trans rfl
                  have hcz41_1 : w39.cell? ⟨gb112, 1, none⟩ = some (.int .i64 ((rd_T66 (rd_L66 t103 a1) x30_2).f1)) := (blk_cell BK112.out 1).trans rfl
                  have hfz41_0 := blk_frozen BK112.out 0
                  have hfz41_1 := blk_frozen BK112.out 1
                  have hnb42 := NB109_101.out
                  have hnc42 := NB101_109.out
                  have hnb43 := NB109_102.out
                  have hnc43 := NB102_109.out
                  have hcz44_0 : w39.cell? ⟨gb109, 0, none⟩ = some (.int .i64 x110000_2) := (blk_cell BK109.out 0).trans rfl
                  have hcz44_1 : w39.cell? ⟨gb109, 1, none⟩ = some (.int .i64 x110001_2) := (blk_cell BK109.out 1).trans rfl
                  have hfz44_0 := blk_frozen BK109.out 0
                  have hfz44_1 := blk_frozen BK109.out 1
                  try go_wp2
                  go_roundg k2
                  case measure => have := HJ3.out; have := HK2.out; omega
                  case rel => exact ⟨(true), (wrap64 (x30_2 + 1)), ((rd_T66 (rd_L66 t103 a1) x30_2).f0), ((rd_T66 (rd_L66 t103 a1) x30_2).f1), (by first | rfl | (simp; done) | (simp [*]; done)), (by first | rfl | (simp; done) | (simp [*]; done)), H', ⟨by have := HJ3.out; have := HK2.out; omega⟩, ⟨by (with_reducible repeat (first | apply Kd.R_alloc | apply Kd.R_drewN | apply Kd.R_drew)); exact Kd.R_mono (Kd.R_far (p := ⟨gb109, 1, none⟩) (Kd.R_far (p := ⟨gb109, 0, none⟩) (Kd.R_types HO_7.out BK109.out (by decide)) (fun _ hk => hk.2) (.int .i64 ((rd_T66 (rd_L66 t103 a1) x30_2).f0))) (fun _ hk => hk.2) (.int .i64 ((rd_T66 (rd_L66 t103 a1) x30_2).f1))) (fun _ hk => hk.1)⟩, ⟨by (with_reducible repeat (first | refine blk_drewN ?_ _ | refine blk_drew ?_ | refine blk_alloc ?_ _)); refine blk_far ?_ NB101_109.out _; (with_reducible repeat (first | refine blk_drewN ?_ _ | refine blk_drew ?_ | refine blk_alloc ?_ _)); refine blk_far ?_ NB101_109.out _; (with_reducible repeat (first | refine blk_drewN ?_ _ | refine blk_drew ?_ | refine blk_alloc ?_ _)); exact BK101.out⟩, ⟨by (with_reducible repeat (first | refine blk_drewN ?_ _ | refine blk_drew ?_ | refine blk_alloc ?_ _)); refine blk_far ?_ NB102_109.out _; (with_reducible repeat (first | refine blk_drewN ?_ _ | refine blk_drew ?_ | refine blk_alloc ?_ _)); refine blk_far ?_ NB102_109.out _; (with_reducible repeat (first | refine blk_drewN ?_ _ | refine blk_drew ?_ | refine blk_alloc ?_ _)); exact BK102.out⟩, ⟨by (with_reducible repeat (first | refine blk_drewN ?_ _ | refine blk_drew ?_ | refine blk_alloc ?_ _)); refine blk_put (cs := #[.int .i64 ((rd_T66 (rd_L66 t103 a1) x30_2).f0), .int .i64 x110001_2]) ?_ 1 _ rfl; (with_reducible repeat (first | refine blk_drewN ?_ _ | refine blk_drew ?_ | refine blk_alloc ?_ _)); refine blk_put (cs := #[.int .i64 x110000_2, .int .i64 x110001_2]) ?_ 0 _ rfl; (with_reducible repeat (first | refine blk_drewN ?_ _ | refine blk_drew ?_ | refine blk_alloc ?_ _)); exact BK109.out⟩, ⟨tB⟩⟩
                 ·rw [if_neg c32] at H
                  have c32b0 : decide ((rd t106 ((rd_T66 (rd_L66 t103 a1) x30_2).f1)) < (rd t106 x110001_2)) = false := decide_eq_false c32
                  clear c32
                  have H' := Aside0.mk H
                  clear H
                  have p111 : 0 ≤ (x30_2 : Int) := tD
                  have q111 : x30_2 < ((rd_L66 t103 a1).length : Int) := tD
                  obtain ⟨ad111, e111, hx111_0, hx111_1⟩ := at_T66 HR110_0.out x30_2 p111 q111
                  cases e111
                  replace hx111_0 := (HB.out.cell (World.block_lt_of_cell? w _ hx111_0)).trans hx111_0
                  replace hx111_1 := (HB.out.cell (World.block_lt_of_cell? w _ hx111_1)).trans hx111_1
                  replace p111 := eq_true p111
                  replace q111 := eq_true q111
                  try go_wp2_with (first | ((with_reducible refine gate_dst (N := 11) rfl ?_); (try (refine gate_guard (by rfl) ?_; dsimp only)); refine box_event ?hg (N := 11) ?hd (cs := #[.int .i64 0, .int .i64 0]) (t := 66) ?hr ?_; (case hd => rfl); (case hg => rfl); (case hr => first | (go_simp; done) | (go_simp; rfl)); intro gb112 hg w45 hbox hb; have n0_ := Aside0.mk (Kd.R_below (tR HO_7) hb); have n1_ := Aside0.mk (blk_below (g := gb101) (o := .cells #[.slice A0_0 l0_0.length c0_0, .slice A0_1 l0_1.length c0_1, .bool a0_2] 25 (0, 0)) (tK BK101) hb); have n2_ := Aside0.mk (blk_below (g := gb102) (o := .cells #[.int .i64 a1] 3 (0, 0)) (tK BK102) hb); have n3_ := Aside0.mk (blk_below (g := gb109) (o := .cells #[.int .i64 x110000_2, .int .i64 x110001_2] 66 (0, 0)) (tK BK109) hb); have n4_ := Aside0.mk (below_step (tB) hb); have n5_ := Aside0.mk (hbox); have n6_ := Aside0.mk ((by rw [hg]; exact (below_size (tB)) : w.heap.size ≤ gb112)); have n7_ := Aside0.mk ((by rw [hg]; exact (below_size (tB)) : w.heap.size ≤ gb112)); have n8_ := Aside0.mk ((by rw [hg]; exact Nat.ne_of_lt (blk_lt (g := gb101) (o := .cells #[.slice A0_0 l0_0.length c0_0, .slice A0_1 l0_1.length c0_1, .bool a0_2] 25 (0, 0)) (tK BK101)) : gb101 ≠ gb112)); have n9_ := Aside0.mk ((by rw [hg]; exact Nat.ne_of_gt (blk_lt (g := gb101) (o := .cells #[.slice A0_0 l0_0.length c0_0, .slice A0_1 l0_1.length c0_1, .bool a0_2] 25 (0, 0)) (tK BK101)) : gb112 ≠ gb101)); have n10_ := Aside0.mk ((by rw [hg]; exact Nat.ne_of_lt (blk_lt (g := gb102) (o := .cells #[.int .i64 a1] 3 (0, 0)) (tK BK102)) : gb102 ≠ gb112)); have n11_ := Aside0.mk ((by rw [hg]; exact Nat.ne_of_gt (blk_lt (g := gb102) (o := .cells #[.int .i64 a1] 3 (0, 0)) (tK BK102)) : gb112 ≠ gb102)); have n12_ := Aside0.mk ((by rw [hg]; exact Nat.ne_of_lt (blk_lt (g := gb109) (o := .cells #[.int .i64 x110000_2, .int .i64 x110001_2] 66 (0, 0)) (tK BK109)) : gb109 ≠ gb112)); have n13_ := Aside0.mk ((by rw [hg]; exact Nat.ne_of_gt (blk_lt (g := gb109) (o := .cells #[.int .i64 x110000_2, .int .i64 x110001_2] 66 (0, 0)) (tK BK109)) : gb112 ≠ gb109)); clear HO_7; clear BK101; clear BK102; clear BK109; clear HB; have HO_7 := n0_; have BK101 := n1_; have BK102 := n2_; have BK109 := n3_; have HB := n4_; have BK112 := n5_; have GW112 := n6_; have GE112 := n7_; have NB101_112 := n8_; have NB112_101 := n9_; have NB102_112 := n10_; have NB112_102 := n11_; have NB109_112 := n12_; have NB112_109 := n13_; clear n0_ n1_ n2_ n3_ n4_ n5_ n6_ n7_ n8_ n9_ n10_ n11_ n12_ n13_; clear hb hbox hg; have hnb46 := NB112_101.out; have hnc46 := NB101_112.out; have hnb47 := NB112_102.out; have hnc47 := NB102_112.out; have hnb48 := NB112_109.out; have hnc48 := NB109_112.out; have hcz49_0 : w45.cell? ⟨gb112, 0, none⟩ = some (.int .i64 0) := (blk_cell BK112.out 0).trans rfl; have hcz49_1 : w45.cell? ⟨gb112, 1, none⟩ = some (.int .i64 0) := (blk_cell BK112.out 1).trans rfl; have hfz49_0 := blk_frozen BK112.out 0; have hfz49_1 := blk_frozen BK112.out 1))
                  have n0_ : Aside0 (Kd.R (Kd.int .i64) 3 ((w45.setCell ⟨gb112, 0, none⟩ (.int .i64 ((rd_T66 (rd_L66 t103 a1) x30_2).f0))).setCell ⟨gb112, 1, none⟩ (.int .i64 ((rd_T66 (rd_L66 t103 a1) x30_2).f1))) w.heap.size (fun k_ => k_ ≠ gb102) v107 t106) := ⟨by (with_reducible repeat (first | apply Kd.R_alloc | apply Kd.R_drewN | apply Kd.R_drew)); exact Kd.R_mono (Kd.R_far (p := ⟨gb112, 1, none⟩) (Kd.R_far (p := ⟨gb112, 0, none⟩) (Kd.R_types HO_7.out BK112.out (by decide)) (fun _ hk => hk.2) (.int .i64 ((rd_T66 (rd_L66 t103 a1) x30_2).f0))) (fun _ hk => hk.2) (.int .i64 ((rd_T66 (rd_L66 t103 a1) x30_2).f1))) (fun _ hk => hk.1)⟩
                  have n1_ : Aside0 (((w45.setCell ⟨gb112, 0, none⟩ (.int .i64 ((rd_T66 (rd_L66 t103 a1) x30_2).f0))).setCell ⟨gb112, 1, none⟩ (.int .i64 ((rd_T66 (rd_L66 t103 a1) x30_2).f1))).heap[gb101]? = some (.cells #[.slice A0_0 l0_0.length c0_0, .slice A0_1 l0_1.length c0_1, .bool a0_2] 25 (0, 0))) := ⟨by (with_reducible repeat (first | refine blk_drewN ?_ _ | refine blk_drew ?_ | refine blk_alloc ?_ _)); refine blk_far ?_ NB101_112.out _; (with_reducible repeat (first | refine blk_drewN ?_ _ | refine blk_drew ?_ | refine blk_alloc ?_ _)); refine blk_far ?_ NB101_112.out _; (with_reducible repeat (first | refine blk_drewN ?_ _ | refine blk_drew ?_ | refine blk_alloc ?_ _)); exact BK101.out⟩
                  have n2_ : Aside0 (((w45.setCell ⟨gb112, 0, none⟩ (.int .i64 ((rd_T66 (rd_L66 t103 a1) x30_2).f0))).setCell ⟨gb112, 1, none⟩ (.int .i64 ((rd_T66 (rd_L66 t103 a1) x30_2).f1))).heap[gb102]? = some (.cells #[.int .i64 a1] 3 (0, 0))) := ⟨by (with_reducible repeat (first | refine blk_drewN ?_ _ | refine blk_drew ?_ | refine blk_alloc ?_ _)); refine blk_far ?_ NB102_112.out _; (with_reducible repeat (first | refine blk_drewN ?_ _ | refine blk_drew ?_ | refine blk_alloc ?_ _)); refine blk_far ?_ NB102_112.out _; (with_reducible repeat (first | refine blk_drewN ?_ _ | refine blk_drew ?_ | refine blk_alloc ?_ _)); exact BK102.out⟩
                  have n3_ : Aside0 (((w45.setCell ⟨gb112, 0, none⟩ (.int .i64 ((rd_T66 (rd_L66 t103 a1) x30_2).f0))).setCell ⟨gb112, 1, none⟩ (.int .i64 ((rd_T66 (rd_L66 t103 a1) x30_2).f1))).heap[gb109]? = some (.cells #[.int .i64 x110000_2, .int .i64 x110001_2] 66 (0, 0))) := ⟨by (with_reducible repeat (first | refine blk_drewN ?_ _ | refine blk_drew ?_ | refine blk_alloc ?_ _)); refine blk_far ?_ NB109_112.out _; (with_reducible repeat (first | refine blk_drewN ?_ _ | refine blk_drew ?_ | refine blk_alloc ?_ _)); refine blk_far ?_ NB109_112.out _; (with_reducible repeat (first | refine blk_drewN ?_ _ | refine blk_drew ?_ | refine blk_alloc ?_ _)); exact BK109.out⟩
                  have n4_ : Aside0 (((w45.setCell ⟨gb112, 0, none⟩ (.int .i64 ((rd_T66 (rd_L66 t103 a1) x30_2).f0))).setCell ⟨gb112, 1, none⟩ (.int .i64 ((rd_T66 (rd_L66 t103 a1) x30_2).f1))).heap[gb112]? = some (.cells #[.int .i64 ((rd_T66 (rd_L66 t103 a1) x30_2).f0), .int .i64 ((rd_T66 (rd_L66 t103 a1) x30_2).f1)] 66 (0, 0))) := ⟨by (with_reducible repeat (first | refine blk_drewN ?_ _ | refine blk_drew ?_ | refine blk_alloc ?_ _)); refine blk_put (cs := #[.int .i64 ((rd_T66 (rd_L66 t103 a1) x30_2).f0), .int .i64 0]) ?_ 1 _ rfl; (with_reducible repeat (first | refine blk_drewN ?_ _ | refine blk_drew ?_ | refine blk_alloc ?_ _)); refine blk_put (cs := #[.int .i64 0, .int .i64 0]) ?_ 0 _ rfl; (with_reducible repeat (first | refine blk_drewN ?_ _ | refine blk_drew ?_ | refine blk_alloc ?_ _)); exact BK112.out⟩
                  have n5_ : Aside0 (Below w.heap.size w ((w45.setCell ⟨gb112, 0, none⟩ (.int .i64 ((rd_T66 (rd_L66 t103 a1) x30_2).f0))).setCell ⟨gb112, 1, none⟩ (.int .i64 ((rd_T66 (rd_L66 t103 a1) x30_2).f1)))) := ⟨tB⟩
                  (try clear HO_7)
                  (try clear BK101)
                  (try clear BK102)
                  (try clear BK109)
                  (try clear BK112)
                  (try clear HB)
                  generalize ((w45.setCell ⟨gb112, 0, none⟩ (.int .i64 ((rd_T66 (rd_L66 t103 a1) x30_2).f0))).setCell ⟨gb112, 1, none⟩ (.int .i64 ((rd_T66 (rd_L66 t103 a1) x30_2).f1))) = w50 at n0_ n1_ n2_ n3_ n4_ n5_ ⊢
                  have HO_7 := n0_
                  have BK101 := n1_
                  have BK102 := n2_
                  have BK109 := n3_
                  have BK112 := n4_
                  have HB := n5_
                  clear n0_ n1_ n2_ n3_ n4_ n5_
                  have n0_ := Aside0.mk (Kd.R_drew HO_7.out)
                  have n1_ := Aside0.mk (blk_drew BK101.out)
                  have n2_ := Aside0.mk (blk_drew BK102.out)
                  have n3_ := Aside0.mk (blk_drew BK109.out)
                  have n4_ := Aside0.mk (blk_drew BK112.out)
                  have n5_ := Aside0.mk (below_drew1 HB.out)
                  clear HO_7
                  clear BK101
                  clear BK102
                  clear BK109
                  clear BK112
                  clear HB
                  have HO_7 := n0_
                  have BK101 := n1_
                  have BK102 := n2_
                  have BK109 := n3_
                  have BK112 := n4_
                  have HB := n5_
                  clear n0_ n1_ n2_ n3_ n4_ n5_
                  obtain ⟨Ao52, co52, eo52⟩ := Kd.R_slice HO_7.out
                  (first | subst eo52 | (injection eo52 with f1_ f2_ f3_; have f4_ := f1_.symm; have f5_ := f3_.symm; clear f1_ f2_ f3_; subst f4_; subst f5_))
                  have p113 : 0 ≤ (((rd_T66 (rd_L66 t103 a1) x30_2).f1) : Int) := tD
                  have q113 : ((rd_T66 (rd_L66 t103 a1) x30_2).f1) < (t106.length : Int) := tD
                  obtain ⟨ad113, e113, hx113_0⟩ := Kd.at_int (Kd.R_reads' HO_7.out).2.2 ((rd_T66 (rd_L66 t103 a1) x30_2).f1) p113 q113
                  cases e113
                  replace p113 := eq_true p113
                  replace q113 := eq_true q113
                  have p114 : 0 ≤ (((rd_T66 (rd_L66 t103 a1) x30_2).f1) : Int) := tD
                  have q114 : ((rd_T66 (rd_L66 t103 a1) x30_2).f1) < (t106.length : Int) := tD
                  obtain ⟨ad114, e114, hx114_0⟩ := Kd.at_int (Kd.R_reads' HO_7.out).2.2 ((rd_T66 (rd_L66 t103 a1) x30_2).f1) p114 q114
                  obtain rfl : ad113 = ad114 := (by injection e114)
                  replace p114 := eq_true p114
                  replace q114 := eq_true q114
                  have p115 : 0 ≤ (x110001_2 : Int) := tD
                  have q115 : x110001_2 < (t106.length : Int) := tD
                  obtain ⟨ad115, e115, hx115_0⟩ := Kd.at_int (Kd.R_reads' HO_7.out).2.2 x110001_2 p115 q115
                  obtain rfl : ad113 = ad115 := (by injection e115)
                  replace p115 := eq_true p115
                  replace q115 := eq_true q115
                  refine start_ (n := 23) (S := fun w' => w'.cell? ⟨gb112, 0, none⟩ = some (.int .i64 ((rd_T66 (rd_L66 t103 a1) x30_2).f0)) ∧ w'.cell? ⟨gb112, 1, none⟩ = some (.int .i64 ((rd_T66 (rd_L66 t103 a1) x30_2).f1)) ∧ w'.cell? ⟨gb109, 0, none⟩ = some (.int .i64 x110000_2) ∧ w'.cell? ⟨gb109, 1, none⟩ = some (.int .i64 x110001_2) ∧ w'.cell? (ad113.add (((rd_T66 (rd_L66 t103 a1) x30_2).f1)).toNat) = some (.int .i64 (rd t106 ((rd_T66 (rd_L66 t103 a1) x30_2).f1))) ∧ w'.cell? (ad113.add (((rd_T66 (rd_L66 t103 a1) x30_2).f1)).toNat) = some (.int .i64 (rd t106 ((rd_T66 (rd_L66 t103 a1) x30_2).f1))) ∧ w'.cell? (ad113.add (x110001_2).toNat) = some (.int .i64 (rd t106 x110001_2))) (ds := []) #[false, false, false, false, false, false, false, false, false, false, false, false, false, false, false, false, false, false, false, false, false, false, false] (by kernel_rfl) rfl rfl ⟨(blk_cell BK112.out 0).trans rfl, (blk_cell BK112.out 1).trans rfl, (blk_cell BK109.out 0).trans rfl, (blk_cell BK109.out 1).trans rfl, hx113_0, hx114_0, hx115_0⟩ (fun hHeld => ?_); refine with_tabW witness_Loop.tab10 witness_Loop.bits10 (fun HT_ HW_ => ?_)
                  generalize w50.drew = w51 at HO_7 BK101 BK102 BK109 BK112 HB hx113_0 hx114_0 hx115_0 hHeld ⊢
                  refine pure_ (i := 0) (N := some 34) (v := ?_) (a' := ?_) #[true, false, false, false, false, false, false, false, false, false, false, false, false, false, false, false, false, false, false, false, false, false, false] rfl rfl (any_of HT_.out (by kernel_rfl)) (fun _ _ _ h => h) (Or.inl ⟨by rfl, ?_⟩) ?_ ?_
                  rotate_left
                  ·intro w'
                   go_simp
                   with_reducible rfl
                  rotate_left
                  ·simp only [tS, i64_w, i32_w]
                   rfl
                  refine pure_ (i := 1) (N := some 35) (v := ?_) (a' := ?_) #[true, true, false, false, false, false, false, false, false, false, false, false, false, false, false, false, false, false, false, false, false, false, false] rfl rfl (any_of HT_.out (by kernel_rfl)) (fun _ _ _ h => h) (Or.inl ⟨by rfl, ?_⟩) ?_ ?_
                  rotate_left
                  ·intro w'
                   go_simp
                   with_reducible rfl
                  rotate_left
                  ·simp only [tS, i64_w, i32_w]
                   rfl
                  refine take_ (i := 2) (N := some 36) (v := ?_) (a' := ?_) #[true, true, true, false, false, false, false, false, false, false, false, false, false, false, false, false, false, false, false, false, false, false, false] rfl rfl (take_ofW HT_.out HW_.out (by kernel_rfl)) (fun _ _ _ h => h) (Or.inl ⟨by rfl, ?_⟩) hHeld ?_ ?_
                  rotate_left
                  ·rintro w' ⟨s0, s1, s2, s3, s4, s5, s6⟩
                   go_simp
                   with_reducible rfl
                  rotate_left
                  ·simp only [tS, i64_w, i32_w]
                   rfl
                  refine pure_ (i := 3) (N := some 37) (v := ?_) (a' := ?_) #[true, true, true, true, false, false, false, false, false, false, false, false, false, false, false, false, false, false, false, false, false, false, false] rfl rfl (any_of HT_.out (by kernel_rfl)) (fun _ _ _ h => h) (Or.inl ⟨by rfl, ?_⟩) ?_ ?_
                  rotate_left
                  ·intro w'
                   go_simp
                   with_reducible rfl
                  rotate_left
                  ·simp only [tS, i64_w, i32_w]
                   rfl
                  refine take_ (i := 4) (N := some 38) (v := ?_) (a' := ?_) #[true, true, true, true, true, false, false, false, false, false, false, false, false, false, false, false, false, false, false, false, false, false, false] rfl rfl (take_ofW HT_.out HW_.out (by kernel_rfl)) (fun _ _ _ h => h) (Or.inl ⟨by rfl, ?_⟩) hHeld ?_ ?_
                  rotate_left
                  ·rintro w' ⟨s0, s1, s2, s3, s4, s5, s6⟩
                   go_simp
                   with_reducible rfl
                  rotate_left
                  ·simp only [tS, i64_w, i32_w]
                   rfl
                  refine pure_ (i := 5) (N := some 39) (v := ?_) (a' := ?_) #[true, true, true, true, true, true, false, false, false, false, false, false, false, false, false, false, false, false, false, false, false, false, false] rfl rfl (any_of HT_.out (by kernel_rfl)) (fun _ _ _ h => h) (Or.inl ⟨by rfl, ?_⟩) ?_ ?_
                  rotate_left
                  ·intro w'
                   go_simp
                   with_reducible rfl
                  rotate_left
                  ·simp only [tS, i64_w, i32_w]
                   rfl
                  refine pure_ (i := 6) (N := some 40) (v := ?_) (a' := ?_) #[true, true, true, true, true, true, true, false, false, false, false, false, false, false, false, false, false, false, false, false, false, false, false] rfl rfl (any_of HT_.out (by kernel_rfl)) (fun _ _ _ h => h) (Or.inl ⟨by rfl, ?_⟩) ?_ ?_
                  rotate_left
                  ·intro w'
                   go_simp
                   with_reducible rfl
                  rotate_left
                  ·simp only [tS, i64_w, i32_w]
                   rfl
                  refine pure_ (i := 7) (N := some 41) (v := ?_) (a' := ?_) #[true, true, true, true, true, true, true, true, false, false, false, false, false, false, false, false, false, false, false, false, false, false, false] rfl rfl (any_of HT_.out (by kernel_rfl)) (fun _ _ _ h => h) (Or.inl ⟨by rfl, ?_⟩) ?_ ?_
                  rotate_left
                  ·intro w'
                   go_simp
                   with_reducible rfl
                  rotate_left
                  ·simp only [tS, i64_w, i32_w]
                   rfl
                  refine pure_ (i := 8) (N := some 42) (v := ?_) (a' := ?_) #[true, true, true, true, true, true, true, true, true, false, false, false, false, false, false, false, false, false, false, false, false, false, false] rfl rfl (any_of HT_.out (by kernel_rfl)) (fun _ _ _ h => h) (Or.inl ⟨by rfl, ?_⟩) ?_ ?_
                  rotate_left
                  ·intro w'
                   go_simp
                   with_reducible rfl
                  rotate_left
                  ·simp only [tS, i64_w, i32_w]
                   rfl
                  refine pure_ (i := 9) (N := some 43) (v := ?_) (a' := ?_) #[true, true, true, true, true, true, true, true, true, true, false, false, false, false, false, false, false, false, false, false, false, false, false] rfl rfl (any_of HT_.out (by kernel_rfl)) (fun _ _ _ h => h) (Or.inl ⟨by rfl, ?_⟩) ?_ ?_
                  rotate_left
                  ·intro w'
                   go_simp
                   with_reducible rfl
                  rotate_left
                  ·simp only [tS, i64_w, i32_w]
                   rfl
                  refine pure_ (i := 10) (N := some 44) (v := ?_) (a' := ?_) #[true, true, true, true, true, true, true, true, true, true, true, false, false, false, false, false, false, false, false, false, false, false, false] rfl rfl (any_of HT_.out (by kernel_rfl)) (fun _ _ _ h => h) (Or.inl ⟨by rfl, ?_⟩) ?_ ?_
                  rotate_left
                  ·intro w'
                   go_simp
                   with_reducible rfl
                  rotate_left
                  ·simp only [tS, i64_w, i32_w]
                   rfl
                  refine pure_ (i := 11) (N := some 45) (v := ?_) (a' := ?_) #[true, true, true, true, true, true, true, true, true, true, true, true, false, false, false, false, false, false, false, false, false, false, false] rfl rfl (any_of HT_.out (by kernel_rfl)) (fun _ _ _ h => h) (Or.inl ⟨by rfl, ?_⟩) ?_ ?_
                  rotate_left
                  ·intro w'
                   go_simp
                   with_reducible rfl
                  rotate_left
                  ·simp only [tS, i64_w, i32_w]
                   rfl
                  refine pure_ (i := 15) (N := some 49) (v := ?_) (a' := ?_) #[true, true, true, true, true, true, true, true, true, true, true, true, false, false, false, true, false, false, false, false, false, false, false] rfl rfl (any_of HT_.out (by kernel_rfl)) (fun _ _ _ h => h) (Or.inl ⟨by rfl, ?_⟩) ?_ ?_
                  rotate_left
                  ·intro w'
                   go_simp
                   with_reducible rfl
                  rotate_left
                  ·simp only [tS, i64_w, i32_w]
                   rfl
                  refine pure_ (i := 16) (N := some 50) (v := ?_) (a' := ?_) #[true, true, true, true, true, true, true, true, true, true, true, true, false, false, false, true, true, false, false, false, false, false, false] rfl rfl (any_of HT_.out (by kernel_rfl)) (fun _ _ _ h => h) (Or.inl ⟨by rfl, ?_⟩) ?_ ?_
                  rotate_left
                  ·intro w'
                   go_simp
                   with_reducible rfl
                  rotate_left
                  ·simp only [tS, i64_w, i32_w]
                   rfl
                  refine take_ (i := 12) (N := some 46) (v := ?_) (a' := ?_) #[true, true, true, true, true, true, true, true, true, true, true, true, true, false, false, true, true, false, false, false, false, false, false] rfl rfl (take_ofW HT_.out HW_.out (by kernel_rfl)) (fun _ _ _ h => h) (Or.inl ⟨by rfl, ?_⟩) hHeld ?_ ?_
                  rotate_left
                  ·rintro w' ⟨s0, s1, s2, s3, s4, s5, s6⟩
                   go_simp
                   with_reducible rfl
                  rotate_left
                  ·simp only [tS, i64_w, i32_w]
                   rfl
                  refine pure_ (i := 13) (N := some 47) (v := ?_) (a' := ?_) #[true, true, true, true, true, true, true, true, true, true, true, true, true, true, false, true, true, false, false, false, false, false, false] rfl rfl (any_of HT_.out (by kernel_rfl)) (fun _ _ _ h => h) (Or.inl ⟨by rfl, ?_⟩) ?_ ?_
                  rotate_left
                  ·intro w'
                   go_simp
                   with_reducible rfl
                  rotate_left
                  ·simp only [tS, i64_w, i32_w]
                   rfl
                  refine take_ (i := 14) (N := some 48) (v := ?_) (a' := ?_) #[true, true, true, true, true, true, true, true, true, true, true, true, true, true, true, true, true, false, false, false, false, false, false] rfl rfl (take_ofW HT_.out HW_.out (by kernel_rfl)) (fun _ _ _ h => h) (Or.inl ⟨by rfl, ?_⟩) hHeld ?_ ?_
                  rotate_left
                  ·rintro w' ⟨s0, s1, s2, s3, s4, s5, s6⟩
                   go_simp
                   with_reducible rfl
                  rotate_left
                  ·simp only [tS, i64_w, i32_w]
                   rfl
                  refine take_ (i := 17) (N := some 51) (v := ?_) (a' := ?_) #[true, true, true, true, true, true, true, true, true, true, true, true, true, true, true, true, true, true, false, false, false, false, false] rfl rfl (take_ofW HT_.out HW_.out (by kernel_rfl)) (fun _ _ _ h => h) (Or.inl ⟨by rfl, ?_⟩) hHeld ?_ ?_
                  rotate_left
                  ·rintro w' ⟨s0, s1, s2, s3, s4, s5, s6⟩
                   go_simp
                   with_reducible rfl
                  rotate_left
                  ·simp only [tS, i64_w, i32_w]
                   rfl
                  refine pure_ (i := 18) (N := some 52) (v := ?_) (a' := ?_) #[true, true, true, true, true, true, true, true, true, true, true, true, true, true, true, true, true, true, true, false, false, false, false] rfl rfl (any_of HT_.out (by kernel_rfl)) (fun _ _ _ h => h) (Or.inl ⟨by rfl, ?_⟩) ?_ ?_
                  rotate_left
                  ·intro w'
                   go_simp
                   with_reducible rfl
                  rotate_left
                  ·simp only [tS, i64_w, i32_w]
                   rfl
                  refine take_ (i := 19) (N := some 53) (v := ?_) (a' := ?_) #[true, true, true, true, true, true, true, true, true, true, true, true, true, true, true, true, true, true, true, true, false, false, false] rfl rfl (take_ofW HT_.out HW_.out (by kernel_rfl)) (fun _ _ _ h => h) (Or.inl ⟨by rfl, ?_⟩) hHeld ?_ ?_
                  rotate_left
                  ·rintro w' ⟨s0, s1, s2, s3, s4, s5, s6⟩
                   go_simp
                   with_reducible rfl
                  rotate_left
                  ·simp only [tS, i64_w, i32_w]
                   rfl
                  refine pure_ (i := 20) (N := some 54) (v := ?_) (a' := ?_) #[true, true, true, true, true, true, true, true, true, true, true, true, true, true, true, true, true, true, true, true, true, false, false] rfl rfl (any_of HT_.out (by kernel_rfl)) (fun _ _ _ h => h) (Or.inl ⟨by rfl, ?_⟩) ?_ ?_
                  rotate_left
                  ·intro w'
                   go_simp
                   with_reducible rfl
                  rotate_left
                  ·simp only [tS, i64_w, i32_w]
                   rfl
                  refine pure_ (i := 21) (N := some 55) (v := ?_) (a' := ?_) #[true, true, true, true, true, true, true, true, true, true, true, true, true, true, true, true, true, true, true, true, true, true, false] rfl rfl (any_of HT_.out (by kernel_rfl)) (fun _ _ _ h => h) (Or.inl ⟨by rfl, ?_⟩) ?_ ?_
                  rotate_left
                  ·intro w'
                   go_simp
                   with_reducible rfl
                  rotate_left
                  ·simp only [tS, i64_w, i32_w]
                   rfl
                  refine pure_ (i := 22) (N := some 56) (v := ?_) (a' := ?_) #[true, true, true, true, true, true, true, true, true, true, true, true, true, true, true, true, true, true, true, true, true, true, true] rfl rfl (any_of HT_.out (by kernel_rfl)) (fun _ _ _ h => h) (Or.inl ⟨by rfl, ?_⟩) ?_ ?_
                  rotate_left
                  ·intro w'
                   go_simp
                   with_reducible rfl
                  rotate_left
                  ·simp only [tS, i64_w, i32_w]
                   rfl
                  refine done_ (done_of HT_.out (by kernel_rfl)) ?_
                  try go_wp2
                  go_roundg k2
                  case measure => have := HJ3.out; have := HK2.out; omega
                  case rel => exact ⟨(true), (wrap64 (x30_2 + 1)), (x110000_2), (x110001_2), (by first | rfl | (simp; done) | (simp [*]; done)), (by first | rfl | (simp; done) | (simp [*]; done)), H', ⟨by have := HJ3.out; have := HK2.out; omega⟩, ⟨tR HO_7⟩, ⟨tK BK101⟩, ⟨tK BK102⟩, ⟨tK BK109⟩, ⟨tB⟩⟩
                ·rw [if_neg c31] at H
                 exact absurd H (by simp)
               ·rw [if_neg c30] at H
                exact absurd H (by simp)
              ·replace c29 := Bool.eq_false_iff.mpr c29
               subst c29
               have H1 : (witness_Loop.l0 k2 t103 t106 true (rd_L66 t103 a1) ((rd_L66 t103 a1).length : Int) (wrap64 (x30_2 + 1)) ((rd_T66 (rd_L66 t103 a1) x30_2).f0) ((rd_T66 (rd_L66 t103 a1) x30_2).f1)) = some (r1, r2) := by rw [if_neg (show ¬ (false = true) by decide)] at H; exact H
               clear H
               have H := H1
               clear H1
               have H' := Aside0.mk H
               clear H
               have p111 : 0 ≤ (x30_2 : Int) := tD
               have q111 : x30_2 < ((rd_L66 t103 a1).length : Int) := tD
               obtain ⟨ad111, e111, hx111_0, hx111_1⟩ := at_T66 HR110_0.out x30_2 p111 q111
               cases e111
               replace hx111_0 := (HB.out.cell (World.block_lt_of_cell? w _ hx111_0)).trans hx111_0
               replace hx111_1 := (HB.out.cell (World.block_lt_of_cell? w _ hx111_1)).trans hx111_1
               replace p111 := eq_true p111
               replace q111 := eq_true q111
               try go_wp2_with (first | ((with_reducible refine gate_dst (N := 11) rfl ?_); (try (refine gate_guard (by rfl) ?_; dsimp only)); refine box_event ?hg (N := 11) ?hd (cs := #[.int .i64 0, .int .i64 0]) (t := 66) ?hr ?_; (case hd => rfl); (case hg => rfl); (case hr => first | (go_simp; done) | (go_simp; rfl)); intro gb112 hg w53 hbox hb; have n0_ := Aside0.mk (Kd.R_below (tR HO_7) hb); have n1_ := Aside0.mk (blk_below (g := gb101) (o := .cells #[.slice A0_0 l0_0.length c0_0, .slice A0_1 l0_1.length c0_1, .bool a0_2] 25 (0, 0)) (tK BK101) hb); have n2_ := Aside0.mk (blk_below (g := gb102) (o := .cells #[.int .i64 a1] 3 (0, 0)) (tK BK102) hb); have n3_ := Aside0.mk (blk_below (g := gb109) (o := .cells #[.int .i64 x110000_2, .int .i64 x110001_2] 66 (0, 0)) (tK BK109) hb); have n4_ := Aside0.mk (below_step (tB) hb); have n5_ := Aside0.mk (hbox); have n6_ := Aside0.mk ((by rw [hg]; exact (below_size (tB)) : w.heap.size ≤ gb112)); have n7_ := Aside0.mk ((by rw [hg]; exact (below_size (tB)) : w.heap.size ≤ gb112)); have n8_ := Aside0.mk ((by rw [hg]; exact Nat.ne_of_lt (blk_lt (g := gb101) (o := .cells #[.slice A0_0 l0_0.length c0_0, .slice A0_1 l0_1.length c0_1, .bool a0_2] 25 (0, 0)) (tK BK101)) : gb101 ≠ gb112)); have n9_ := Aside0.mk ((by rw [hg]; exact Nat.ne_of_gt (blk_lt (g := gb101) (o := .cells #[.slice A0_0 l0_0.length c0_0, .slice A0_1 l0_1.length c0_1, .bool a0_2] 25 (0, 0)) (tK BK101)) : gb112 ≠ gb101)); have n10_ := Aside0.mk ((by rw [hg]; exact Nat.ne_of_lt (blk_lt (g := gb102) (o := .cells #[.int .i64 a1] 3 (0, 0)) (tK BK102)) : gb102 ≠ gb112)); have n11_ := Aside0.mk ((by rw [hg]; exact Nat.ne_of_gt (blk_lt (g := gb102) (o := .cells #[.int .i64 a1] 3 (0, 0)) (tK BK102)) : gb112 ≠ gb102)); have n12_ := Aside0.mk ((by rw [hg]; exact Nat.ne_of_lt (blk_lt (g := gb109) (o := .cells #[.int .i64 x110000_2, .int .i64 x110001_2] 66 (0, 0)) (tK BK109)) : gb109 ≠ gb112)); have n13_ := Aside0.mk ((by rw [hg]; exact Nat.ne_of_gt (blk_lt (g := gb109) (o := .cells #[.int .i64 x110000_2, .int .i64 x110001_2] 66 (0, 0)) (tK BK109)) : gb112 ≠ gb109)); clear HO_7; clear BK101; clear BK102; clear BK109; clear HB; have HO_7 := n0_; have BK101 := n1_; have BK102 := n2_; have BK109 := n3_; have HB := n4_; have BK112 := n5_; have GW112 := n6_; have GE112 := n7_; have NB101_112 := n8_; have NB112_101 := n9_; have NB102_112 := n10_; have NB112_102 := n11_; have NB109_112 := n12_; have NB112_109 := n13_; clear n0_ n1_ n2_ n3_ n4_ n5_ n6_ n7_ n8_ n9_ n10_ n11_ n12_ n13_; clear hb hbox hg; have hnb54 := NB112_101.out; have hnc54 := NB101_112.out; have hnb55 := NB112_102.out; have hnc55 := NB102_112.out; have hnb56 := NB112_109.out; have hnc56 := NB109_112.out; have hcz57_0 : w53.cell? ⟨gb112, 0, none⟩ = some (.int .i64 0) := (blk_cell BK112.out 0).trans rfl; have hcz57_1 : w53.cell? ⟨gb112, 1, none⟩ = some (.int .i64 0) := (blk_cell BK112.out 1).trans rfl; have hfz57_0 := blk_frozen BK112.out 0; have hfz57_1 := blk_frozen BK112.out 1))
               have n0_ : Aside0 (Kd.R (Kd.int .i64) 3 ((w53.setCell ⟨gb112, 0, none⟩ (.int .i64 ((rd_T66 (rd_L66 t103 a1) x30_2).f0))).setCell ⟨gb112, 1, none⟩ (.int .i64 ((rd_T66 (rd_L66 t103 a1) x30_2).f1))) w.heap.size (fun k_ => k_ ≠ gb102) v107 t106) := ⟨by (with_reducible repeat (first | apply Kd.R_alloc | apply Kd.R_drewN | apply Kd.R_drew)); exact Kd.R_mono (Kd.R_far (p := ⟨gb112, 1, none⟩) (Kd.R_far (p := ⟨gb112, 0, none⟩) (Kd.R_types HO_7.out BK112.out (by decide)) (fun _ hk => hk.2) (.int .i64 ((rd_T66 (rd_L66 t103 a1) x30_2).f0))) (fun _ hk => hk.2) (.int .i64 ((rd_T66 (rd_L66 t103 a1) x30_2).f1))) (fun _ hk => hk.1)⟩
               have n1_ : Aside0 (((w53.setCell ⟨gb112, 0, none⟩ (.int .i64 ((rd_T66 (rd_L66 t103 a1) x30_2).f0))).setCell ⟨gb112, 1, none⟩ (.int .i64 ((rd_T66 (rd_L66 t103 a1) x30_2).f1))).heap[gb101]? = some (.cells #[.slice A0_0 l0_0.length c0_0, .slice A0_1 l0_1.length c0_1, .bool a0_2] 25 (0, 0))) := ⟨by (with_reducible repeat (first | refine blk_drewN ?_ _ | refine blk_drew ?_ | refine blk_alloc ?_ _)); refine blk_far ?_ NB101_112.out _; (with_reducible repeat (first | refine blk_drewN ?_ _ | refine blk_drew ?_ | refine blk_alloc ?_ _)); refine blk_far ?_ NB101_112.out _; (with_reducible repeat (first | refine blk_drewN ?_ _ | refine blk_drew ?_ | refine blk_alloc ?_ _)); exact BK101.out⟩
               have n2_ : Aside0 (((w53.setCell ⟨gb112, 0, none⟩ (.int .i64 ((rd_T66 (rd_L66 t103 a1) x30_2).f0))).setCell ⟨gb112, 1, none⟩ (.int .i64 ((rd_T66 (rd_L66 t103 a1) x30_2).f1))).heap[gb102]? = some (.cells #[.int .i64 a1] 3 (0, 0))) := ⟨by (with_reducible repeat (first | refine blk_drewN ?_ _ | refine blk_drew ?_ | refine blk_alloc ?_ _)); refine blk_far ?_ NB102_112.out _; (with_reducible repeat (first | refine blk_drewN ?_ _ | refine blk_drew ?_ | refine blk_alloc ?_ _)); refine blk_far ?_ NB102_112.out _; (with_reducible repeat (first | refine blk_drewN ?_ _ | refine blk_drew ?_ | refine blk_alloc ?_ _)); exact BK102.out⟩
               have n3_ : Aside0 (((w53.setCell ⟨gb112, 0, none⟩ (.int .i64 ((rd_T66 (rd_L66 t103 a1) x30_2).f0))).setCell ⟨gb112, 1, none⟩ (.int .i64 ((rd_T66 (rd_L66 t103 a1) x30_2).f1))).heap[gb109]? = some (.cells #[.int .i64 x110000_2, .int .i64 x110001_2] 66 (0, 0))) := ⟨by (with_reducible repeat (first | refine blk_drewN ?_ _ | refine blk_drew ?_ | refine blk_alloc ?_ _)); refine blk_far ?_ NB109_112.out _; (with_reducible repeat (first | refine blk_drewN ?_ _ | refine blk_drew ?_ | refine blk_alloc ?_ _)); refine blk_far ?_ NB109_112.out _; (with_reducible repeat (first | refine blk_drewN ?_ _ | refine blk_drew ?_ | refine blk_alloc ?_ _)); exact BK109.out⟩
               have n4_ : Aside0 (((w53.setCell ⟨gb112, 0, none⟩ (.int .i64 ((rd_T66 (rd_L66 t103 a1) x30_2).f0))).setCell ⟨gb112, 1, none⟩ (.int .i64 ((rd_T66 (rd_L66 t103 a1) x30_2).f1))).heap[gb112]? = some (.cells #[.int .i64 ((rd_T66 (rd_L66 t103 a1) x30_2).f0), .int .i64 ((rd_T66 (rd_L66 t103 a1) x30_2).f1)] 66 (0, 0))) := ⟨by (with_reducible repeat (first | refine blk_drewN ?_ _ | refine blk_drew ?_ | refine blk_alloc ?_ _)); refine blk_put (cs := #[.int .i64 ((rd_T66 (rd_L66 t103 a1) x30_2).f0), .int .i64 0]) ?_ 1 _ rfl; (with_reducible repeat (first | refine blk_drewN ?_ _ | refine blk_drew ?_ | refine blk_alloc ?_ _)); refine blk_put (cs := #[.int .i64 0, .int .i64 0]) ?_ 0 _ rfl; (with_reducible repeat (first | refine blk_drewN ?_ _ | refine blk_drew ?_ | refine blk_alloc ?_ _)); exact BK112.out⟩
               have n5_ : Aside0 (Below w.heap.size w ((w53.setCell ⟨gb112, 0, none⟩ (.int .i64 ((rd_T66 (rd_L66 t103 a1) x30_2).f0))).setCell ⟨gb112, 1, none⟩ (.int .i64 ((rd_T66 (rd_L66 t103 a1) x30_2).f1)))) := ⟨tB⟩
               (try clear HO_7)
               (try clear BK101)
               (try clear BK102)
               (try clear BK109)
               (try clear BK112)
               (try clear HB)
               generalize ((w53.setCell ⟨gb112, 0, none⟩ (.int .i64 ((rd_T66 (rd_L66 t103 a1) x30_2).f0))).setCell ⟨gb112, 1, none⟩ (.int .i64 ((rd_T66 (rd_L66 t103 a1) x30_2).f1))) = w58 at n0_ n1_ n2_ n3_ n4_ n5_ ⊢
               have HO_7 := n0_
               have BK101 := n1_
               have BK102 := n2_
               have BK109 := n3_
               have BK112 := n4_
               have HB := n5_
               clear n0_ n1_ n2_ n3_ n4_ n5_
               have n0_ := Aside0.mk (Kd.R_drew HO_7.out)
               have n1_ := Aside0.mk (blk_drew BK101.out)
               have n2_ := Aside0.mk (blk_drew BK102.out)
               have n3_ := Aside0.mk (blk_drew BK109.out)
               have n4_ := Aside0.mk (blk_drew BK112.out)
               have n5_ := Aside0.mk (below_drew1 HB.out)
               clear HO_7
               clear BK101
               clear BK102
               clear BK109
               clear BK112
               clear HB
               have HO_7 := n0_
               have BK101 := n1_
               have BK102 := n2_
               have BK109 := n3_
               have BK112 := n4_
               have HB := n5_
               clear n0_ n1_ n2_ n3_ n4_ n5_
               obtain ⟨Ao60, co60, eo60⟩ := Kd.R_slice HO_7.out
               (first | subst eo60 | (injection eo60 with f1_ f2_ f3_; have f4_ := f1_.symm; have f5_ := f3_.symm; clear f1_ f2_ f3_; subst f4_; subst f5_))
               have p113 : 0 ≤ (((rd_T66 (rd_L66 t103 a1) x30_2).f1) : Int) := tD
               have q113 : ((rd_T66 (rd_L66 t103 a1) x30_2).f1) < (t106.length : Int) := tD
               obtain ⟨ad113, e113, hx113_0⟩ := Kd.at_int (Kd.R_reads' HO_7.out).2.2 ((rd_T66 (rd_L66 t103 a1) x30_2).f1) p113 q113
               cases e113
               replace p113 := eq_true p113
               replace q113 := eq_true q113
               refine start_ (n := 23) (S := fun w' => w'.cell? ⟨gb112, 0, none⟩ = some (.int .i64 ((rd_T66 (rd_L66 t103 a1) x30_2).f0)) ∧ w'.cell? ⟨gb112, 1, none⟩ = some (.int .i64 ((rd_T66 (rd_L66 t103 a1) x30_2).f1)) ∧ w'.cell? (ad113.add (((rd_T66 (rd_L66 t103 a1) x30_2).f1)).toNat) = some (.int .i64 (rd t106 ((rd_T66 (rd_L66 t103 a1) x30_2).f1)))) (ds := []) #[false, false, false, false, false, false, false, false, false, false, false, false, false, false, false, false, false, false, false, false, false, false, false] (by kernel_rfl) rfl rfl ⟨(blk_cell BK112.out 0).trans rfl, (blk_cell BK112.out 1).trans rfl, hx113_0⟩ (fun hHeld => ?_); refine with_tabW witness_Loop.tab10 witness_Loop.bits10 (fun HT_ HW_ => ?_)
               generalize w58.drew = w59 at HO_7 BK101 BK102 BK109 BK112 HB hx113_0 hHeld ⊢
               refine pure_ (i := 0) (N := some 34) (v := ?_) (a' := ?_) #[true, false, false, false, false, false, false, false, false, false, false, false, false, false, false, false, false, false, false, false, false, false, false] rfl rfl (any_of HT_.out (by kernel_rfl)) (fun _ _ _ h => h) (Or.inl ⟨by rfl, ?_⟩) ?_ ?_
               rotate_left
               ·intro w'
                go_simp
                with_reducible rfl
               rotate_left
               ·simp only [tS, i64_w, i32_w]
                rfl
               refine pure_ (i := 1) (N := some 35) (v := ?_) (a' := ?_) #[true, true, false, false, false, false, false, false, false, false, false, false, false, false, false, false, false, false, false, false, false, false, false] rfl rfl (any_of HT_.out (by kernel_rfl)) (fun _ _ _ h => h) (Or.inl ⟨by rfl, ?_⟩) ?_ ?_
               rotate_left
               ·intro w'
                go_simp
                with_reducible rfl
               rotate_left
               ·simp only [tS, i64_w, i32_w]
                rfl
               refine take_ (i := 2) (N := some 36) (v := ?_) (a' := ?_) #[true, true, true, false, false, false, false, false, false, false, false, false, false, false, false, false, false, false, false, false, false, false, false] rfl rfl (take_ofW HT_.out HW_.out (by kernel_rfl)) (fun _ _ _ h => h) (Or.inl ⟨by rfl, ?_⟩) hHeld ?_ ?_
               rotate_left
               ·rintro w' ⟨s0, s1, s2⟩
                go_simp
                with_reducible rfl
               rotate_left
               ·simp only [tS, i64_w, i32_w]
                rfl
               refine pure_ (i := 3) (N := some 37) (v := ?_) (a' := ?_) #[true, true, true, true, false, false, false, false, false, false, false, false, false, false, false, false, false, false, false, false, false, false, false] rfl rfl (any_of HT_.out (by kernel_rfl)) (fun _ _ _ h => h) (Or.inl ⟨by rfl, ?_⟩) ?_ ?_
               rotate_left
               ·intro w'
                go_simp
                with_reducible rfl
               rotate_left
               ·simp only [tS, i64_w, i32_w]
                rfl
               refine take_ (i := 4) (N := some 38) (v := ?_) (a' := ?_) #[true, true, true, true, true, false, false, false, false, false, false, false, false, false, false, false, false, false, false, false, false, false, false] rfl rfl (take_ofW HT_.out HW_.out (by kernel_rfl)) (fun _ _ _ h => h) (Or.inl ⟨by rfl, ?_⟩) hHeld ?_ ?_
               rotate_left
               ·rintro w' ⟨s0, s1, s2⟩
                go_simp
                with_reducible rfl
               rotate_left
               ·simp only [tS, i64_w, i32_w]
                rfl
               refine pure_ (i := 5) (N := some 39) (v := ?_) (a' := ?_) #[true, true, true, true, true, true, false, false, false, false, false, false, false, false, false, false, false, false, false, false, false, false, false] rfl rfl (any_of HT_.out (by kernel_rfl)) (fun _ _ _ h => h) (Or.inl ⟨by rfl, ?_⟩) ?_ ?_
               rotate_left
               ·intro w'
                go_simp
                with_reducible rfl
               rotate_left
               ·simp only [tS, i64_w, i32_w]
                rfl
               refine pure_ (i := 6) (N := some 40) (v := ?_) (a' := ?_) #[true, true, true, true, true, true, true, false, false, false, false, false, false, false, false, false, false, false, false, false, false, false, false] rfl rfl (any_of HT_.out (by kernel_rfl)) (fun _ _ _ h => h) (Or.inl ⟨by rfl, ?_⟩) ?_ ?_
               rotate_left
               ·intro w'
                go_simp
                with_reducible rfl
               rotate_left
               ·simp only [tS, i64_w, i32_w]
                rfl
               refine pure_ (i := 7) (N := some 41) (v := ?_) (a' := ?_) #[true, true, true, true, true, true, true, true, false, false, false, false, false, false, false, false, false, false, false, false, false, false, false] rfl rfl (any_of HT_.out (by kernel_rfl)) (fun _ _ _ h => h) (Or.inl ⟨by rfl, ?_⟩) ?_ ?_
               rotate_left
               ·intro w'
                go_simp
                with_reducible rfl
               rotate_left
               ·simp only [tS, i64_w, i32_w]
                rfl
               refine pure_ (i := 8) (N := some 42) (v := ?_) (a' := ?_) #[true, true, true, true, true, true, true, true, true, false, false, false, false, false, false, false, false, false, false, false, false, false, false] rfl rfl (any_of HT_.out (by kernel_rfl)) (fun _ _ _ h => h) (Or.inl ⟨by rfl, ?_⟩) ?_ ?_
               rotate_left
               ·intro w'
                go_simp
                with_reducible rfl
               rotate_left
               ·simp only [tS, i64_w, i32_w]
                rfl
               refine pure_ (i := 9) (N := some 43) (v := ?_) (a' := ?_) #[true, true, true, true, true, true, true, true, true, true, false, false, false, false, false, false, false, false, false, false, false, false, false] rfl rfl (any_of HT_.out (by kernel_rfl)) (fun _ _ _ h => h) (Or.inl ⟨by rfl, ?_⟩) ?_ ?_
               rotate_left
               ·intro w'
                go_simp
                with_reducible rfl
               rotate_left
               ·simp only [tS, i64_w, i32_w]
                rfl
               refine pure_ (i := 10) (N := some 44) (v := undef) (a' := ?_) #[true, true, true, true, true, true, true, true, true, true, true, false, false, false, false, false, false, false, false, false, false, false, false] rfl rfl (any_of HT_.out (by kernel_rfl)) (fun _ _ _ h => h) (Or.inr ⟨by rfl, rfl⟩) ?_ ?_
               rotate_left
               ·simp only [tS, i64_w, i32_w]
                rfl
               refine pure_ (i := 11) (N := some 45) (v := undef) (a' := ?_) #[true, true, true, true, true, true, true, true, true, true, true, true, false, false, false, false, false, false, false, false, false, false, false] rfl rfl (any_of HT_.out (by kernel_rfl)) (fun _ _ _ h => h) (Or.inr ⟨by rfl, rfl⟩) ?_ ?_
               rotate_left
               ·simp only [tS, i64_w, i32_w]
                rfl
               refine pure_ (i := 12) (N := some 46) (v := undef) (a' := ?_) #[true, true, true, true, true, true, true, true, true, true, true, true, true, false, false, false, false, false, false, false, false, false, false] rfl rfl (any_of HT_.out (by kernel_rfl)) (fun _ _ _ h => h) (Or.inr ⟨by rfl, rfl⟩) ?_ ?_
               rotate_left
               ·simp only [tS, i64_w, i32_w]
                rfl
               refine pure_ (i := 13) (N := some 47) (v := undef) (a' := ?_) #[true, true, true, true, true, true, true, true, true, true, true, true, true, true, false, false, false, false, false, false, false, false, false] rfl rfl (any_of HT_.out (by kernel_rfl)) (fun _ _ _ h => h) (Or.inr ⟨by rfl, rfl⟩) ?_ ?_
               rotate_left
               ·simp only [tS, i64_w, i32_w]
                rfl
               refine pure_ (i := 14) (N := some 48) (v := undef) (a' := ?_) #[true, true, true, true, true, true, true, true, true, true, true, true, true, true, true, false, false, false, false, false, false, false, false] rfl rfl (any_of HT_.out (by kernel_rfl)) (fun _ _ _ h => h) (Or.inr ⟨by rfl, rfl⟩) ?_ ?_
               rotate_left
               ·simp only [tS, i64_w, i32_w]
                rfl
               refine pure_ (i := 15) (N := some 49) (v := undef) (a' := ?_) #[true, true, true, true, true, true, true, true, true, true, true, true, true, true, true, true, false, false, false, false, false, false, false] rfl rfl (any_of HT_.out (by kernel_rfl)) (fun _ _ _ h => h) (Or.inr ⟨by rfl, rfl⟩) ?_ ?_
               rotate_left
               ·simp only [tS, i64_w, i32_w]
                rfl
               refine pure_ (i := 16) (N := some 50) (v := undef) (a' := ?_) #[true, true, true, true, true, true, true, true, true, true, true, true, true, true, true, true, true, false, false, false, false, false, false] rfl rfl (any_of HT_.out (by kernel_rfl)) (fun _ _ _ h => h) (Or.inr ⟨by rfl, rfl⟩) ?_ ?_
               rotate_left
               ·simp only [tS, i64_w, i32_w]
                rfl
               refine pure_ (i := 17) (N := some 51) (v := undef) (a' := ?_) #[true, true, true, true, true, true, true, true, true, true, true, true, true, true, true, true, true, true, false, false, false, false, false] rfl rfl (any_of HT_.out (by kernel_rfl)) (fun _ _ _ h => h) (Or.inr ⟨by rfl, rfl⟩) ?_ ?_
               rotate_left
               ·simp only [tS, i64_w, i32_w]
                rfl
               refine pure_ (i := 18) (N := some 52) (v := undef) (a' := ?_) #[true, true, true, true, true, true, true, true, true, true, true, true, true, true, true, true, true, true, true, false, false, false, false] rfl rfl (any_of HT_.out (by kernel_rfl)) (fun _ _ _ h => h) (Or.inr ⟨by rfl, rfl⟩) ?_ ?_
               rotate_left
               ·simp only [tS, i64_w, i32_w]
                rfl
               refine pure_ (i := 19) (N := some 53) (v := undef) (a' := ?_) #[true, true, true, true, true, true, true, true, true, true, true, true, true, true, true, true, true, true, true, true, false, false, false] rfl rfl (any_of HT_.out (by kernel_rfl)) (fun _ _ _ h => h) (Or.inr ⟨by rfl, rfl⟩) ?_ ?_
               rotate_left
               ·simp only [tS, i64_w, i32_w]
                rfl
               refine pure_ (i := 20) (N := some 54) (v := undef) (a' := ?_) #[true, true, true, true, true, true, true, true, true, true, true, true, true, true, true, true, true, true, true, true, true, false, false] rfl rfl (any_of HT_.out (by kernel_rfl)) (fun _ _ _ h => h) (Or.inr ⟨by rfl, rfl⟩) ?_ ?_
               rotate_left
               ·simp only [tS, i64_w, i32_w]
                rfl
               refine pure_ (i := 21) (N := some 55) (v := ?_) (a' := ?_) #[true, true, true, true, true, true, true, true, true, true, true, true, true, true, true, true, true, true, true, true, true, true, false] rfl rfl (any_of HT_.out (by kernel_rfl)) (fun _ _ _ h => h) (Or.inl ⟨by rfl, ?_⟩) ?_ ?_
               rotate_left
               ·intro w'
                go_simp
                with_reducible rfl
               rotate_left
               ·simp only [tS, i64_w, i32_w]
                rfl
               refine pure_ (i := 22) (N := some 56) (v := ?_) (a' := ?_) #[true, true, true, true, true, true, true, true, true, true, true, true, true, true, true, true, true, true, true, true, true, true, true] rfl rfl (any_of HT_.out (by kernel_rfl)) (fun _ _ _ h => h) (Or.inl ⟨by rfl, ?_⟩) ?_ ?_
               rotate_left
               ·intro w'
                go_simp
                with_reducible rfl
               rotate_left
               ·simp only [tS, i64_w, i32_w]
                rfl
               refine done_ (done_of HT_.out (by kernel_rfl)) ?_
               have hcz61_0 : w59.cell? ⟨gb112, 0, none⟩ = some (.int .i64 ((rd_T66 (rd_L66 t103 a1) x30_2).f0)) := (blk_cell BK112.out 0).trans rfl
               have hcz61_1 : w59.cell? ⟨gb112, 1, none⟩ = some (.int .i64 ((rd_T66 (rd_L66 t103 a1) x30_2).f1)) := (blk_cell BK112.out 1).trans rfl
               have hfz61_0 := blk_frozen BK112.out 0
               have hfz61_1 := blk_frozen BK112.out 1
               have hnb62 := NB109_101.out
               have hnc62 := NB101_109.out
               have hnb63 := NB109_102.out
               have hnc63 := NB102_109.out
               have hcz64_0 : w59.cell? ⟨gb109, 0, none⟩ = some (.int .i64 x110000_2) := (blk_cell BK109.out 0).trans rfl
               have hcz64_1 : w59.cell? ⟨gb109, 1, none⟩ = some (.int .i64 x110001_2) := (blk_cell BK109.out 1).trans rfl
               have hfz64_0 := blk_frozen BK109.out 0
               have hfz64_1 := blk_frozen BK109.out 1
               try go_wp2
               go_roundg k2
               case measure => have := HJ3.out; have := HK2.out; omega
               case rel => exact ⟨(true), (wrap64 (x30_2 + 1)), ((rd_T66 (rd_L66 t103 a1) x30_2).f0), ((rd_T66 (rd_L66 t103 a1) x30_2).f1), (by first | rfl | (simp; done) | (simp [*]; done)), (by first | rfl | (simp; done) | (simp [*]; done)), H', ⟨by have := HJ3.out; have := HK2.out; omega⟩, ⟨by (with_reducible repeat (first | apply Kd.R_alloc | apply Kd.R_drewN | apply Kd.R_drew)); exact Kd.R_mono (Kd.R_far (p := ⟨gb109, 1, none⟩) (Kd.R_far (p := ⟨gb109, 0, none⟩) (Kd.R_types HO_7.out BK109.out (by decide)) (fun _ hk => hk.2) (.int .i64 ((rd_T66 (rd_L66 t103 a1) x30_2).f0))) (fun _ hk => hk.2) (.int .i64 ((rd_T66 (rd_L66 t103 a1) x30_2).f1))) (fun _ hk => hk.1)⟩, ⟨by (with_reducible repeat (first | refine blk_drewN ?_ _ | refine blk_drew ?_ | refine blk_alloc ?_ _)); refine blk_far ?_ NB101_109.out _; (with_reducible repeat (first | refine blk_drewN ?_ _ | refine blk_drew ?_ | refine blk_alloc ?_ _)); refine blk_far ?_ NB101_109.out _; (with_reducible repeat (first | refine blk_drewN ?_ _ | refine blk_drew ?_ | refine blk_alloc ?_ _)); exact BK101.out⟩, ⟨by (with_reducible repeat (first | refine blk_drewN ?_ _ | refine blk_drew ?_ | refine blk_alloc ?_ _)); refine blk_far ?_ NB102_109.out _; (with_reducible repeat (first | refine blk_drewN ?_ _ | refine blk_drew ?_ | refine blk_alloc ?_ _)); refine blk_far ?_ NB102_109.out _; (with_reducible repeat (first | refine blk_drewN ?_ _ | refine blk_drew ?_ | refine blk_alloc ?_ _)); exact BK102.out⟩, ⟨by (with_reducible repeat (first | refine blk_drewN ?_ _ | refine blk_drew ?_ | refine blk_alloc ?_ _)); refine blk_put (cs := #[.int .i64 ((rd_T66 (rd_L66 t103 a1) x30_2).f0), .int .i64 x110001_2]) ?_ 1 _ rfl; (with_reducible repeat (first | refine blk_drewN ?_ _ | refine blk_drew ?_ | refine blk_alloc ?_ _)); refine blk_put (cs := #[.int .i64 x110000_2, .int .i64 x110001_2]) ?_ 0 _ rfl; (with_reducible repeat (first | refine blk_drewN ?_ _ | refine blk_drew ?_ | refine blk_alloc ?_ _)); exact BK109.out⟩, ⟨tB⟩⟩
             ·rw [if_neg c28] at H
              have c28b0 : decide (0 ≤ (rd t106 ((rd_T66 (rd_L66 t103 a1) x30_2).f1))) = false := decide_eq_false c28
              clear c28
              have H' := Aside0.mk H
              clear H
              have p111 : 0 ≤ (x30_2 : Int) := tD
              have q111 : x30_2 < ((rd_L66 t103 a1).length : Int) := tD
              obtain ⟨ad111, e111, hx111_0, hx111_1⟩ := at_T66 HR110_0.out x30_2 p111 q111
              cases e111
              replace hx111_0 := (HB.out.cell (World.block_lt_of_cell? w _ hx111_0)).trans hx111_0
              replace hx111_1 := (HB.out.cell (World.block_lt_of_cell? w _ hx111_1)).trans hx111_1
              replace p111 := eq_true p111
              replace q111 := eq_true q111
              try go_wp2_with (first | ((with_reducible refine gate_dst (N := 11) rfl ?_); (try (refine gate_guard (by rfl) ?_; dsimp only)); refine box_event ?hg (N := 11) ?hd (cs := #[.int .i64 0, .int .i64 0]) (t := 66) ?hr ?_; (case hd => rfl); (case hg => rfl); (case hr => first | (go_simp; done) | (go_simp; rfl)); intro gb112 hg w65 hbox hb; have n0_ := Aside0.mk (Kd.R_below (tR HO_7) hb); have n1_ := Aside0.mk (blk_below (g := gb101) (o := .cells #[.slice A0_0 l0_0.length c0_0, .slice A0_1 l0_1.length c0_1, .bool a0_2] 25 (0, 0)) (tK BK101) hb); have n2_ := Aside0.mk (blk_below (g := gb102) (o := .cells #[.int .i64 a1] 3 (0, 0)) (tK BK102) hb); have n3_ := Aside0.mk (blk_below (g := gb109) (o := .cells #[.int .i64 x110000_2, .int .i64 x110001_2] 66 (0, 0)) (tK BK109) hb); have n4_ := Aside0.mk (below_step (tB) hb); have n5_ := Aside0.mk (hbox); have n6_ := Aside0.mk ((by rw [hg]; exact (below_size (tB)) : w.heap.size ≤ gb112)); have n7_ := Aside0.mk ((by rw [hg]; exact (below_size (tB)) : w.heap.size ≤ gb112)); have n8_ := Aside0.mk ((by rw [hg]; exact Nat.ne_of_lt (blk_lt (g := gb101) (o := .cells #[.slice A0_0 l0_0.length c0_0, .slice A0_1 l0_1.length c0_1, .bool a0_2] 25 (0, 0)) (tK BK101)) : gb101 ≠ gb112)); have n9_ := Aside0.mk ((by rw [hg]; exact Nat.ne_of_gt (blk_lt (g := gb101) (o := .cells #[.slice A0_0 l0_0.length c0_0, .slice A0_1 l0_1.length c0_1, .bool a0_2] 25 (0, 0)) (tK BK101)) : gb112 ≠ gb101)); have n10_ := Aside0.mk ((by rw [hg]; exact Nat.ne_of_lt (blk_lt (g := gb102) (o := .cells #[.int .i64 a1] 3 (0, 0)) (tK BK102)) : gb102 ≠ gb112)); have n11_ := Aside0.mk ((by rw [hg]; exact Nat.ne_of_gt (blk_lt (g := gb102) (o := .cells #[.int .i64 a1] 3 (0, 0)) (tK BK102)) : gb112 ≠ gb102)); have n12_ := Aside0.mk ((by rw [hg]; exact Nat.ne_of_lt (blk_lt (g := gb109) (o := .cells #[.int .i64 x110000_2, .int .i64 x110001_2] 66 (0, 0)) (tK BK109)) : gb109 ≠ gb112)); have n13_ := Aside0.mk ((by rw [hg]; exact Nat.ne_of_gt (blk_lt (g := gb109) (o := .cells #[.int .i64 x110000_2, .int .i64 x110001_2] 66 (0, 0)) (tK BK109)) : gb112 ≠ gb109)); clear HO_7; clear BK101; clear BK102; clear BK109; clear HB; have HO_7 := n0_; have BK101 := n1_; have BK102 := n2_; have BK109 := n3_; have HB := n4_; have BK112 := n5_; have GW112 := n6_; have GE112 := n7_; have NB101_112 := n8_; have NB112_101 := n9_; have NB102_112 := n10_; have NB112_102 := n11_; have NB109_112 := n12_; have NB112_109 := n13_; clear n0_ n1_ n2_ n3_ n4_ n5_ n6_ n7_ n8_ n9_ n10_ n11_ n12_ n13_; clear hb hbox hg; have hnb66 := NB112_101.out; have hnc66 := NB101_112.out; have hnb67 := NB112_102.out; have hnc67 := NB102_112.out; have hnb68 := NB112_109.out; have hnc68 := NB109_112.out; have hcz69_0 : w65.cell? ⟨gb112, 0, none⟩ = some (.int .i64 0) := (blk_cell BK112.out 0).trans rfl; have hcz69_1 : w65.cell? ⟨gb112, 1, none⟩ = some (.int .i64 0) := (blk_cell BK112.out 1).trans rfl; have hfz69_0 := blk_frozen BK112.out 0; have hfz69_1 := blk_frozen BK112.out 1))
              have n0_ : Aside0 (Kd.R (Kd.int .i64) 3 ((w65.setCell ⟨gb112, 0, none⟩ (.int .i64 ((rd_T66 (rd_L66 t103 a1) x30_2).f0))).setCell ⟨gb112, 1, none⟩ (.int .i64 ((rd_T66 (rd_L66 t103 a1) x30_2).f1))) w.heap.size (fun k_ => k_ ≠ gb102) v107 t106) := ⟨by (with_reducible repeat (first | apply Kd.R_alloc | apply Kd.R_drewN | apply Kd.R_drew)); exact Kd.R_mono (Kd.R_far (p := ⟨gb112, 1, none⟩) (Kd.R_far (p := ⟨gb112, 0, none⟩) (Kd.R_types HO_7.out BK112.out (by decide)) (fun _ hk => hk.2) (.int .i64 ((rd_T66 (rd_L66 t103 a1) x30_2).f0))) (fun _ hk => hk.2) (.int .i64 ((rd_T66 (rd_L66 t103 a1) x30_2).f1))) (fun _ hk => hk.1)⟩
              have n1_ : Aside0 (((w65.setCell ⟨gb112, 0, none⟩ (.int .i64 ((rd_T66 (rd_L66 t103 a1) x30_2).f0))).setCell ⟨gb112, 1, none⟩ (.int .i64 ((rd_T66 (rd_L66 t103 a1) x30_2).f1))).heap[gb101]? = some (.cells #[.slice A0_0 l0_0.length c0_0, .slice A0_1 l0_1.length c0_1, .bool a0_2] 25 (0, 0))) := ⟨by (with_reducible repeat (first | refine blk_drewN ?_ _ | refine blk_drew ?_ | refine blk_alloc ?_ _)); refine blk_far ?_ NB101_112.out _; (with_reducible repeat (first | refine blk_drewN ?_ _ | refine blk_drew ?_ | refine blk_alloc ?_ _)); refine blk_far ?_ NB101_112.out _; (with_reducible repeat (first | refine blk_drewN ?_ _ | refine blk_drew ?_ | refine blk_alloc ?_ _)); exact BK101.out⟩
              have n2_ : Aside0 (((w65.setCell ⟨gb112, 0, none⟩ (.int .i64 ((rd_T66 (rd_L66 t103 a1) x30_2).f0))).setCell ⟨gb112, 1, none⟩ (.int .i64 ((rd_T66 (rd_L66 t103 a1) x30_2).f1))).heap[gb102]? = some (.cells #[.int .i64 a1] 3 (0, 0))) := ⟨by (with_reducible repeat (first | refine blk_drewN ?_ _ | refine blk_drew ?_ | refine blk_alloc ?_ _)); refine blk_far ?_ NB102_112.out _; (with_reducible repeat (first | refine blk_drewN ?_ _ | refine blk_drew ?_ | refine blk_alloc ?_ _)); refine blk_far ?_ NB102_112.out _; (with_reducible repeat (first | refine blk_drewN ?_ _ | refine blk_drew ?_ | refine blk_alloc ?_ _)); exact BK102.out⟩
              have n3_ : Aside0 (((w65.setCell ⟨gb112, 0, none⟩ (.int .i64 ((rd_T66 (rd_L66 t103 a1) x30_2).f0))).setCell ⟨gb112, 1, none⟩ (.int .i64 ((rd_T66 (rd_L66 t103 a1) x30_2).f1))).heap[gb109]? = some (.cells #[.int .i64 x110000_2, .int .i64 x110001_2] 66 (0, 0))) := ⟨by (with_reducible repeat (first | refine blk_drewN ?_ _ | refine blk_drew ?_ | refine blk_alloc ?_ _)); refine blk_far ?_ NB109_112.out _; (with_reducible repeat (first | refine blk_drewN ?_ _ | refine blk_drew ?_ | refine blk_alloc ?_ _)); refine blk_far ?_ NB109_112.out _; (with_reducible repeat (first | refine blk_drewN ?_ _ | refine blk_drew ?_ | refine blk_alloc ?_ _)); exact BK109.out⟩
              have n4_ : Aside0 (((w65.setCell ⟨gb112, 0, none⟩ (.int .i64 ((rd_T66 (rd_L66 t103 a1) x30_2).f0))).setCell ⟨gb112, 1, none⟩ (.int .i64 ((rd_T66 (rd_L66 t103 a1) x30_2).f1))).heap[gb112]? = some (.cells #[.int .i64 ((rd_T66 (rd_L66 t103 a1) x30_2).f0), .int .i64 ((rd_T66 (rd_L66 t103 a1) x30_2).f1)] 66 (0, 0))) := ⟨by (with_reducible repeat (first | refine blk_drewN ?_ _ | refine blk_drew ?_ | refine blk_alloc ?_ _)); refine blk_put (cs := #[.int .i64 ((rd_T66 (rd_L66 t103 a1) x30_2).f0), .int .i64 0]) ?_ 1 _ rfl; (with_reducible repeat (first | refine blk_drewN ?_ _ | refine blk_drew ?_ | refine blk_alloc ?_ _)); refine blk_put (cs := #[.int .i64 0, .int .i64 0]) ?_ 0 _ rfl; (with_reducible repeat (first | refine blk_drewN ?_ _ | refine blk_drew ?_ | refine blk_alloc ?_ _)); exact BK112.out⟩
              have n5_ : Aside0 (Below w.heap.size w ((w65.setCell ⟨gb112, 0, none⟩ (.int .i64 ((rd_T66 (rd_L66 t103 a1) x30_2).f0))).setCell ⟨gb112, 1, none⟩ (.int .i64 ((rd_T66 (rd_L66 t103 a1) x30_2).f1)))) := ⟨tB⟩
              (try clear HO_7)
              (try clear BK101)
              (try clear BK102)
              (try clear BK109)
              (try clear BK112)
              (try clear HB)
              generalize ((w65.setCell ⟨gb112, 0, none⟩ (.int .i64 ((rd_T66 (rd_L66 t103 a1) x30_2).f0))).setCell ⟨gb112, 1, none⟩ (.int .i64 ((rd_T66 (rd_L66 t103 a1) x30_2).f1))) = w70 at n0_ n1_ n2_ n3_ n4_ n5_ ⊢
              have HO_7 := n0_
              have BK101 := n1_
              have BK102 := n2_
              have BK109 := n3_
              have BK112 := n4_
              have HB := n5_
              clear n0_ n1_ n2_ n3_ n4_ n5_
              have n0_ := Aside0.mk (Kd.R_drew HO_7.out)
              have n1_ := Aside0.mk (blk_drew BK101.out)
              have n2_ := Aside0.mk (blk_drew BK102.out)
              have n3_ := Aside0.mk (blk_drew BK109.out)
              have n4_ := Aside0.mk (blk_drew BK112.out)
              have n5_ := Aside0.mk (below_drew1 HB.out)
              clear HO_7
              clear BK101
              clear BK102
              clear BK109
              clear BK112
              clear HB
              have HO_7 := n0_
              have BK101 := n1_
              have BK102 := n2_
              have BK109 := n3_
              have BK112 := n4_
              have HB := n5_
              clear n0_ n1_ n2_ n3_ n4_ n5_
              obtain ⟨Ao72, co72, eo72⟩ := Kd.R_slice HO_7.out
              (first | subst eo72 | (injection eo72 with f1_ f2_ f3_; have f4_ := f1_.symm; have f5_ := f3_.symm; clear f1_ f2_ f3_; subst f4_; subst f5_))
              have p113 : 0 ≤ (((rd_T66 (rd_L66 t103 a1) x30_2).f1) : Int) := tD
              have q113 : ((rd_T66 (rd_L66 t103 a1) x30_2).f1) < (t106.length : Int) := tD
              obtain ⟨ad113, e113, hx113_0⟩ := Kd.at_int (Kd.R_reads' HO_7.out).2.2 ((rd_T66 (rd_L66 t103 a1) x30_2).f1) p113 q113
              cases e113
              replace p113 := eq_true p113
              replace q113 := eq_true q113
              refine start_ (n := 23) (S := fun w' => w'.cell? ⟨gb112, 0, none⟩ = some (.int .i64 ((rd_T66 (rd_L66 t103 a1) x30_2).f0)) ∧ w'.cell? ⟨gb112, 1, none⟩ = some (.int .i64 ((rd_T66 (rd_L66 t103 a1) x30_2).f1)) ∧ w'.cell? (ad113.add (((rd_T66 (rd_L66 t103 a1) x30_2).f1)).toNat) = some (.int .i64 (rd t106 ((rd_T66 (rd_L66 t103 a1) x30_2).f1)))) (ds := []) #[false, false, false, false, false, false, false, false, false, false, false, false, false, false, false, false, false, false, false, false, false, false, false] (by kernel_rfl) rfl rfl ⟨(blk_cell BK112.out 0).trans rfl, (blk_cell BK112.out 1).trans rfl, hx113_0⟩ (fun hHeld => ?_); refine with_tabW witness_Loop.tab10 witness_Loop.bits10 (fun HT_ HW_ => ?_)
              generalize w70.drew = w71 at HO_7 BK101 BK102 BK109 BK112 HB hx113_0 hHeld ⊢
              refine pure_ (i := 0) (N := some 34) (v := ?_) (a' := ?_) #[true, false, false, false, false, false, false, false, false, false, false, false, false, false, false, false, false, false, false, false, false, false, false] rfl rfl (any_of HT_.out (by kernel_rfl)) (fun _ _ _ h => h) (Or.inl ⟨by rfl, ?_⟩) ?_ ?_
              rotate_left
              ·intro w'
               go_simp
               with_reducible rfl
              rotate_left
              ·simp only [tS, i64_w, i32_w]
               rfl
              refine pure_ (i := 1) (N := some 35) (v := ?_) (a' := ?_) #[true, true, false, false, false, false, false, false, false, false, false, false, false, false, false, false, false, false, false, false, false, false, false] rfl rfl (any_of HT_.out (by kernel_rfl)) (fun _ _ _ h => h) (Or.inl ⟨by rfl, ?_⟩) ?_ ?_
              rotate_left
              ·intro w'
               go_simp
               with_reducible rfl
              rotate_left
              ·simp only [tS, i64_w, i32_w]
               rfl
              refine take_ (i := 2) (N := some 36) (v := ?_) (a' := ?_) #[true, true, true, false, false, false, false, false, false, false, false, false, false, false, false, false, false, false, false, false, false, false, false] rfl rfl (take_ofW HT_.out HW_.out (by kernel_rfl)) (fun _ _ _ h => h) (Or.inl ⟨by rfl, ?_⟩) hHeld ?_ ?_
              rotate_left
              ·rintro w' ⟨s0, s1, s2⟩
               go_simp
               with_reducible rfl
              rotate_left
              ·simp only [tS, i64_w, i32_w]
               rfl
              refine pure_ (i := 3) (N := some 37) (v := ?_) (a' := ?_) #[true, true, true, true, false, false, false, false, false, false, false, false, false, false, false, false, false, false, false, false, false, false, false] rfl rfl (any_of HT_.out (by kernel_rfl)) (fun _ _ _ h => h) (Or.inl ⟨by rfl, ?_⟩) ?_ ?_
              rotate_left
              ·intro w'
               go_simp
               with_reducible rfl
              rotate_left
              ·simp only [tS, i64_w, i32_w]
               rfl
              refine take_ (i := 4) (N := some 38) (v := ?_) (a' := ?_) #[true, true, true, true, true, false, false, false, false, false, false, false, false, false, false, false, false, false, false, false, false, false, false] rfl rfl (take_ofW HT_.out HW_.out (by kernel_rfl)) (fun _ _ _ h => h) (Or.inl ⟨by rfl, ?_⟩) hHeld ?_ ?_
              rotate_left
              ·rintro w' ⟨s0, s1, s2⟩
               go_simp
               with_reducible rfl
              rotate_left
              ·simp only [tS, i64_w, i32_w]
               rfl
              refine pure_ (i := 5) (N := some 39) (v := ?_) (a' := ?_) #[true, true, true, true, true, true, false, false, false, false, false, false, false, false, false, false, false, false, false, false, false, false, false] rfl rfl (any_of HT_.out (by kernel_rfl)) (fun _ _ _ h => h) (Or.inl ⟨by rfl, ?_⟩) ?_ ?_
              rotate_left
              ·intro w'
               go_simp
               with_reducible rfl
              rotate_left
              ·simp only [tS, i64_w, i32_w]
               rfl
              refine pure_ (i := 6) (N := some 40) (v := ?_) (a' := ?_) #[true, true, true, true, true, true, true, false, false, false, false, false, false, false, false, false, false, false, false, false, false, false, false] rfl rfl (any_of HT_.out (by kernel_rfl)) (fun _ _ _ h => h) (Or.inl ⟨by rfl, ?_⟩) ?_ ?_
              rotate_left
              ·intro w'
               go_simp
               with_reducible rfl
              rotate_left
              ·simp only [tS, i64_w, i32_w]
               rfl
              refine pure_ (i := 7) (N := some 41) (v := undef) (a' := ?_) #[true, true, true, true, true, true, true, true, false, false, false, false, false, false, false, false, false, false, false, false, false, false, false] rfl rfl (any_of HT_.out (by kernel_rfl)) (fun _ _ _ h => h) (Or.inr ⟨by rfl, rfl⟩) ?_ ?_
              rotate_left
              ·simp only [tS, i64_w, i32_w]
               rfl
              refine pure_ (i := 8) (N := some 42) (v := undef) (a' := ?_) #[true, true, true, true, true, true, true, true, true, false, false, false, false, false, false, false, false, false, false, false, false, false, false] rfl rfl (any_of HT_.out (by kernel_rfl)) (fun _ _ _ h => h) (Or.inr ⟨by rfl, rfl⟩) ?_ ?_
              rotate_left
              ·simp only [tS, i64_w, i32_w]
               rfl
              refine pure_ (i := 9) (N := some 43) (v := undef) (a' := ?_) #[true, true, true, true, true, true, true, true, true, true, false, false, false, false, false, false, false, false, false, false, false, false, false] rfl rfl (any_of HT_.out (by kernel_rfl)) (fun _ _ _ h => h) (Or.inr ⟨by rfl, rfl⟩) ?_ ?_
              rotate_left
              ·simp only [tS, i64_w, i32_w]
               rfl
              refine pure_ (i := 10) (N := some 44) (v := undef) (a' := ?_) #[true, true, true, true, true, true, true, true, true, true, true, false, false, false, false, false, false, false, false, false, false, false, false] rfl rfl (any_of HT_.out (by kernel_rfl)) (fun _ _ _ h => h) (Or.inr ⟨by rfl, rfl⟩) ?_ ?_
              rotate_left
              ·simp only [tS, i64_w, i32_w]
               rfl
              refine pure_ (i := 11) (N := some 45) (v := undef) (a' := ?_) #[true, true, true, true, true, true, true, true, true, true, true, true, false, false, false, false, false, false, false, false, false, false, false] rfl rfl (any_of HT_.out (by kernel_rfl)) (fun _ _ _ h => h) (Or.inr ⟨by rfl, rfl⟩) ?_ ?_
              rotate_left
              ·simp only [tS, i64_w, i32_w]
               rfl
              refine pure_ (i := 12) (N := some 46) (v := undef) (a' := ?_) #[true, true, true, true, true, true, true, true, true, true, true, true, true, false, false, false, false, false, false, false, false, false, false] rfl rfl (any_of HT_.out (by kernel_rfl)) (fun _ _ _ h => h) (Or.inr ⟨by rfl, rfl⟩) ?_ ?_
              rotate_left
              ·simp only [tS, i64_w, i32_w]
               rfl
              refine pure_ (i := 13) (N := some 47) (v := undef) (a' := ?_) #[true, true, true, true, true, true, true, true, true, true, true, true, true, true, false, false, false, false, false, false, false, false, false] rfl rfl (any_of HT_.out (by kernel_rfl)) (fun _ _ _ h => h) (Or.inr ⟨by rfl, rfl⟩) ?_ ?_
              rotate_left
              ·simp only [tS, i64_w, i32_w]
               rfl
              refine pure_ (i := 14) (N := some 48) (v := undef) (a' := ?_) #[true, true, true, true, true, true, true, true, true, true, true, true, true, true, true, false, false, false, false, false, false, false, false] rfl rfl (any_of HT_.out (by kernel_rfl)) (fun _ _ _ h => h) (Or.inr ⟨by rfl, rfl⟩) ?_ ?_
              rotate_left
              ·simp only [tS, i64_w, i32_w]
               rfl
              refine pure_ (i := 15) (N := some 49) (v := undef) (a' := ?_) #[true, true, true, true, true, true, true, true, true, true, true, true, true, true, true, true, false, false, false, false, false, false, false] rfl rfl (any_of HT_.out (by kernel_rfl)) (fun _ _ _ h => h) (Or.inr ⟨by rfl, rfl⟩) ?_ ?_
              rotate_left
              ·simp only [tS, i64_w, i32_w]
               rfl
              refine pure_ (i := 16) (N := some 50) (v := undef) (a' := ?_) #[true, true, true, true, true, true, true, true, true, true, true, true, true, true, true, true, true, false, false, false, false, false, false] rfl rfl (any_of HT_.out (by kernel_rfl)) (fun _ _ _ h => h) (Or.inr ⟨by rfl, rfl⟩) ?_ ?_
              rotate_left
              ·simp only [tS, i64_w, i32_w]
               rfl
              refine pure_ (i := 17) (N := some 51) (v := undef) (a' := ?_) #[true, true, true, true, true, true, true, true, true, true, true, true, true, true, true, true, true, true, false, false, false, false, false] rfl rfl (any_of HT_.out (by kernel_rfl)) (fun _ _ _ h => h) (Or.inr ⟨by rfl, rfl⟩) ?_ ?_
              rotate_left
              ·simp only [tS, i64_w, i32_w]
               rfl
              refine pure_ (i := 18) (N := some 52) (v := undef) (a' := ?_) #[true, true, true, true, true, true, true, true, true, true, true, true, true, true, true, true, true, true, true, false, false, false, false] rfl rfl (any_of HT_.out (by kernel_rfl)) (fun _ _ _ h => h) (Or.inr ⟨by rfl, rfl⟩) ?_ ?_
              rotate_left
              ·simp only [tS, i64_w, i32_w]
               rfl
              refine pure_ (i := 19) (N := some 53) (v := undef) (a' := ?_) #[true, true, true, true, true, true, true, true, true, true, true, true, true, true, true, true, true, true, true, true, false, false, false] rfl rfl (any_of HT_.out (by kernel_rfl)) (fun _ _ _ h => h) (Or.inr ⟨by rfl, rfl⟩) ?_ ?_
              rotate_left
              ·simp only [tS, i64_w, i32_w]
               rfl
              refine pure_ (i := 20) (N := some 54) (v := undef) (a' := ?_) #[true, true, true, true, true, true, true, true, true, true, true, true, true, true, true, true, true, true, true, true, true, false, false] rfl rfl (any_of HT_.out (by kernel_rfl)) (fun _ _ _ h => h) (Or.inr ⟨by rfl, rfl⟩) ?_ ?_
              rotate_left
              ·simp only [tS, i64_w, i32_w]
               rfl
              refine pure_ (i := 21) (N := some 55) (v := undef) (a' := ?_) #[true, true, true, true, true, true, true, true, true, true, true, true, true, true, true, true, true, true, true, true, true, true, false] rfl rfl (any_of HT_.out (by kernel_rfl)) (fun _ _ _ h => h) (Or.inr ⟨by rfl, rfl⟩) ?_ ?_
              rotate_left
              ·simp only [tS, i64_w, i32_w]
               rfl
              refine pure_ (i := 22) (N := some 56) (v := ?_) (a' := ?_) #[true, true, true, true, true, true, true, true, true, true, true, true, true, true, true, true, true, true, true, true, true, true, true] rfl rfl (any_of HT_.out (by kernel_rfl)) (fun _ _ _ h => h) (Or.inl ⟨by rfl, ?_⟩) ?_ ?_
              rotate_left
              ·intro w'
               go_simp
               with_reducible rfl
              rotate_left
              ·simp only [tS, i64_w, i32_w]
               rfl
              refine done_ (done_of HT_.out (by kernel_rfl)) ?_
              try go_wp2
              go_roundg k2
              case measure => have := HJ3.out; have := HK2.out; omega
              case rel => exact ⟨(x9_2), (wrap64 (x30_2 + 1)), (x110000_2), (x110001_2), (by first | rfl | (simp; done) | (simp [*]; done)), (by first | rfl | (simp; done) | (simp [*]; done)), H', ⟨by have := HJ3.out; have := HK2.out; omega⟩, ⟨tR HO_7⟩, ⟨tK BK101⟩, ⟨tK BK102⟩, ⟨tK BK109⟩, ⟨tB⟩⟩
            ·rw [if_neg c27] at H
             exact absurd H (by simp)
           ·rw [if_neg c26] at H
            exact absurd H (by simp)
          ·rw [if_neg c25] at H
           exact absurd H (by simp)
         ·rw [if_neg c24] at H
          exact absurd H (by simp)
        ·rw [if_neg c23] at H
         have c23b0 : decide (x30_2 < ((rd_L66 t103 a1).length : Int)) = false := decide_eq_false c23
         clear c23
         by_cases c73 : x9_2 = true
         ·subst c73
          have H1 : ((some (([x110000_2] : List Int) : List Int)).bind fun y116 => ((witness_follow.f k2 t103 t106 x110001_2).bind fun t119 => (if y116.length + t119.length < 17592186044416 then (some ((y116 ++ t119), true)) else (none)))) = some (r1, r2) := by rw [if_pos rfl] at H; exact H
          clear H
          have H := H1
          clear H1
          obtain ⟨y116, hy116⟩ : ∃ y_ : List Int, y_ = (([x110000_2] : List Int)) := ⟨_, rfl⟩
          replace H : ((witness_follow.f k2 t103 t106 x110001_2).bind fun t119 => (if y116.length + t119.length < 17592186044416 then (some ((y116 ++ t119), true)) else (none))) = some (r1, r2) := by first | (rw [hy116]; with_reducible exact H) | (have H2_ := (Option.bind_some _ _).symm.trans H; rw [hy116]; with_reducible exact H2_) | (have H2_ := (Option.bind_some _ _).symm.trans H; with_reducible exact H2_) | with_reducible exact H | (rw [hy116]; exact H) | exact H
          have Ny116 := Aside0.mk hy116
          clear hy116
          replace H := Option.bind_eq_some_iff.mp H
          obtain ⟨t119, A740, H⟩ := H
          replace H : (if y116.length + t119.length < 17592186044416 then (some ((y116 ++ t119), true)) else (none)) = some (r1, r2) := H
          have A74 := Aside0.mk A740
          clear A740
          by_cases c75 : y116.length + t119.length < 17592186044416
          ·rw [if_pos c75] at H
           have LMc75 := Aside0.mk c75
           clear c75
           obtain ⟨y122, hy122⟩ : ∃ y_ : List Int, y_ = (y116 ++ t119) := ⟨_, rfl⟩
           replace H : (some (y122, true)) = some (r1, r2) := by first | (rw [hy122]; with_reducible exact H) | (have H2_ := (Option.bind_some _ _).symm.trans H; rw [hy122]; with_reducible exact H2_) | (have H2_ := (Option.bind_some _ _).symm.trans H; with_reducible exact H2_) | with_reducible exact H | (rw [hy122]; exact H) | exact H
           have Ny122 := Aside0.mk hy122
           clear hy122
           simp only [Option.some.injEq, Prod.mk.injEq] at H
           obtain ⟨rfl, rfl⟩ := H
           obtain ⟨Ao76, co76, eo76⟩ := Kd.R_slice HO_7.out
           subst eo76
           try go_wp2
           have n0_ := Aside0.mk (Kd.R_drew HO_7.out)
           have n1_ := Aside0.mk (blk_drew BK101.out)
           have n2_ := Aside0.mk (blk_drew BK102.out)
           have n3_ := Aside0.mk (blk_drew BK109.out)
           have n4_ := Aside0.mk (below_drew1 HB.out)
           clear HO_7
           clear BK101
           clear BK102
           clear BK109
           clear HB
           have HO_7 := n0_
           have BK101 := n1_
           have BK102 := n2_
           have BK109 := n3_
           have HB := n4_
           clear n0_ n1_ n2_ n3_ n4_
           refine start_ (n := 11) (S := fun w' => w'.cell? ⟨gb109, 0, none⟩ = some (.int .i64 x110000_2) ∧ w'.cell? ⟨gb109, 1, none⟩ = some (.int .i64 x110001_2)) (ds := []) #[false, false, false, false, false, false, false, false, false, false, false] (by kernel_rfl) rfl rfl ⟨(blk_cell BK109.out 0).trans rfl, (blk_cell BK109.out 1).trans rfl⟩ (fun hHeld => ?_); refine with_tabW witness_Loop.tab15 witness_Loop.bits15 (fun HT_ HW_ => ?_)
           generalize wr.drew = w77 at HO_7 BK101 BK102 BK109 HB hHeld ⊢
           refine pure_ (i := 0) (N := some 61) (v := ?_) (a' := ?_) #[true, false, false, false, false, false, false, false, false, false, false] rfl rfl (any_of HT_.out (by kernel_rfl)) (fun _ _ _ h => h) (Or.inl ⟨by rfl, ?_⟩) ?_ ?_
           rotate_left
           ·intro w'
            go_simp
            with_reducible rfl
           rotate_left
           ·simp only [tS, i64_w, i32_w]
            rfl
           refine pure_ (i := 3) (N := some 64) (v := ?_) (a' := ?_) #[true, false, false, true, false, false, false, false, false, false, false] rfl rfl (any_of HT_.out (by kernel_rfl)) (fun _ _ _ h => h) (Or.inl ⟨by rfl, ?_⟩) ?_ ?_
           rotate_left
           ·intro w'
            go_simp
            with_reducible rfl
           rotate_left
           ·simp only [tS, i64_w, i32_w]
            rfl
           refine pure_ (i := 4) (N := some 65) (v := ?_) (a' := ?_) #[true, false, false, true, true, false, false, false, false, false, false] rfl rfl (any_of HT_.out (by kernel_rfl)) (fun _ _ _ h => h) (Or.inl ⟨by rfl, ?_⟩) ?_ ?_
           rotate_left
           ·intro w'
            go_simp
            with_reducible rfl
           rotate_left
           ·simp only [tS, i64_w, i32_w]
            rfl
           refine pure_ (i := 5) (N := some 66) (v := ?_) (a' := ?_) #[true, false, false, true, true, true, false, false, false, false, false] rfl rfl (any_of HT_.out (by kernel_rfl)) (fun _ _ _ h => h) (Or.inl ⟨by rfl, ?_⟩) ?_ ?_
           rotate_left
           ·intro w'
            go_simp
            with_reducible rfl
           rotate_left
           ·simp only [tS, i64_w, i32_w]
            rfl
           refine take_ (i := 1) (N := some 62) (v := ?_) (a' := ?_) #[true, true, false, true, true, true, false, false, false, false, false] rfl rfl (take_ofW HT_.out HW_.out (by kernel_rfl)) (fun _ _ _ h => h) (Or.inl ⟨by rfl, ?_⟩) hHeld ?_ ?_
           rotate_left
           ·rintro w' ⟨s0, s1⟩
            go_simp
            with_reducible rfl
           rotate_left
           ·simp only [tS, i64_w, i32_w]
            rfl
           refine take_ (i := 6) (N := some 67) (v := ?_) (a' := ?_) #[true, true, false, true, true, true, true, false, false, false, false] rfl rfl (take_ofW HT_.out HW_.out (by kernel_rfl)) (fun _ _ _ h => h) (Or.inl ⟨by rfl, ?_⟩) hHeld ?_ ?_
           rotate_left
           ·rintro w' ⟨s0, s1⟩
            go_simp
            with_reducible rfl
           rotate_left
           ·simp only [tS, i64_w, i32_w]
            rfl
           refine join_ (σ := Value × Value) 3 #[true, true, true, true, true, true, true, true, false, false, false] (fun s_ => [(63, s_.1), (68, s_.2)]) (fun s_ w' => (w'.cell? ⟨gb109, 0, none⟩ = some (.int .i64 x110000_2) ∧ w'.cell? ⟨gb109, 1, none⟩ = some (.int .i64 x110001_2)) ∧ (Kd.R (Kd.int .i64) 3 w' w.heap.size (fun k_ => some k_ ≠ (s_.2 : Value).ownBlock ∧ some k_ ≠ (.slice Ao76 t106.length co76 : Value).ownBlock ∧ k_ ≠ gb102) s_.1 y116) ∧ (Kd.R (Kd.int .i64) 3 w' w.heap.size (fun k_ => some k_ ≠ (s_.1 : Value).ownBlock ∧ some k_ ≠ (.slice Ao76 t106.length co76 : Value).ownBlock ∧ k_ ≠ gb102) s_.2 t119) ∧ (Kd.R (Kd.int .i64) 3 w' w.heap.size (fun k_ => some k_ ≠ (s_.1 : Value).ownBlock ∧ some k_ ≠ (s_.2 : Value).ownBlock ∧ k_ ≠ gb102) (.slice Ao76 t106.length co76) t106) ∧ (w'.heap[gb101]? = some (.cells #[.slice A0_0 l0_0.length c0_0, .slice A0_1 l0_1.length c0_1, .bool a0_2] 25 (0, 0))) ∧ (w'.heap[gb102]? = some (.cells #[.int .i64 a1] 3 (0, 0))) ∧ (w'.heap[gb109]? = some (.cells #[.int .i64 x110000_2, .int .i64 x110001_2] 66 (0, 0))) ∧ (Below w.heap.size w w')) ?_ ?_
           rotate_left
           ·intro hCont
            refine two_ (i := 2) (j := 7) (Ni := some 63) (Nj := some 68) #[true, true, true, true, true, true, true, false, false, false, false] #[true, true, false, true, true, true, true, true, false, false, false] rfl rfl rfl rfl (two_of HT_.out (by kernel_rfl)) (by decide) (by decide) (fun K hK => ?_) (fun K hK => ?_)
            ·skip
             refine Kd.R_lit_step (Kd.int .i64) _ 3 ?hg (N := 63) ?hd (xs := ([x110000_2] : List Int)) (inner := [.int .i64 x110000_2]) (ok := fun _ => True) (okp := fun _ => True) ?hr ?hp (fun _ hk => hk) trivial (Below.refl _ _) (Nat.le_refl _) (by simp) ?_; (case hd => rfl); (case hg => rfl); (case hr => first | (go_simp; done) | (go_simp; rfl)); (case hp => exact (Reps.one (show Kd.M (Kd.int .i64) _ _ _ x110000_2 [.int .i64 x110000_2] from rfl) (Reps.none _ _)))
             intro v117 w78 ho79 hb hg_ hnew_
             clear hg_ hnew_
             (first | rw [← Ny116.out] at ho79 | (simp only [Int.reduceToNat] at ho79; rw [← Ny116.out] at ho79))
             have n0_ := Aside0.mk (Kd.R_elder' (tR HO_7) (Kd.R_base ho79) hb)
             have n1_ := Aside0.mk (Kd.R_lower (Kd.R_newB (Kd.R_new' ho79 (Kd.R_lt (tR HO_7))) (g := gb102) (o := .cells #[.int .i64 a1] 3 (0, 0)) (tK BK102)) (below_size (tB)))
             have n2_ := Aside0.mk (blk_below (g := gb101) (o := .cells #[.slice A0_0 l0_0.length c0_0, .slice A0_1 l0_1.length c0_1, .bool a0_2] 25 (0, 0)) (tK BK101) hb)
             have n3_ := Aside0.mk (blk_below (g := gb102) (o := .cells #[.int .i64 a1] 3 (0, 0)) (tK BK102) hb)
             have n4_ := Aside0.mk (blk_below (g := gb109) (o := .cells #[.int .i64 x110000_2, .int .i64 x110001_2] 66 (0, 0)) (tK BK109) hb)
             have n5_ := Aside0.mk (below_step (tB) hb)
             clear HO_7
             clear BK101
             clear BK102
             clear BK109
             clear HB
             have HO_7 := n0_
             have HO118 := n1_
             have BK101 := n2_
             have BK102 := n3_
             have BK109 := n4_
             have HB := n5_
             clear n0_ n1_ n2_ n3_ n4_ n5_
             clear hb ho79
             refine hK.out _ _ ⟨(blk_cell BK109.out 0).trans rfl, (blk_cell BK109.out 1).trans rfl⟩ (fun hHeld => ?_)
             clear hK K
             refine norm_ (a' := ?_) ?_ ?_
             rotate_left
             ·show Act.put _ (some 63) _ = _
              simp only [tS, i64_w, i32_w]
              rfl
             refine one_ (i := 7) (N := some 68) #[true, true, true, true, true, true, true, true, false, false, false] rfl rfl (one_of HT_.out (by kernel_rfl)) (by decide) (fun K hK => ?_)
             refine goes_ Try.func55 (by kernel_rfl) rfl #[.slice (some ad110) t103.length cs_t103, .slice Ao76 t106.length co76, .int .i64 x110001_2] (by rfl) rfl rfl (by (try simp only [List.map_toArray, List.map_cons, List.map_nil]); first | done | rfl | (simp only [List.length_drop, List.length_take]; rfl)) ?_
             with_reducible refine (witness_follow.calls k2 _ _ t103 _ _ t106 x110001_2 t119 _ ?side1 ?side2 ?side3 ?side4 A74.out).mono ?_
             (case side1 => exact tC (Kd.C_below HRs_t103.out HB.out))
             (case side2 => exact HCs_t103.out)
             (case side3 => exact tC (Kd.R_reads' HO_7.out).2.2)
             (case side4 => exact (Kd.R_reads' HO_7.out).2.1)
             rintro e w80 ⟨v120, rfl, ho0, hb⟩
             refine ⟨_, rfl, ?_⟩
             have n0_ := Aside0.mk (Kd.R_elder' (tR HO_7) (Kd.R_base ho0) hb)
             have n1_ := Aside0.mk (Kd.R_elder' (tR HO118) (Kd.R_base ho0) hb)
             have n2_ := Aside0.mk (Kd.R_lower (Kd.R_newB (Kd.R_new' (Kd.R_new' ho0 (Kd.R_lt (tR HO_7))) (Kd.R_lt (tR HO118))) (g := gb102) (o := .cells #[.int .i64 a1] 3 (0, 0)) (tK BK102)) (below_size (tB)))
             have n3_ := Aside0.mk (blk_below (g := gb101) (o := .cells #[.slice A0_0 l0_0.length c0_0, .slice A0_1 l0_1.length c0_1, .bool a0_2] 25 (0, 0)) (tK BK101) hb)
             have n4_ := Aside0.mk (blk_below (g := gb102) (o := .cells #[.int .i64 a1] 3 (0, 0)) (tK BK102) hb)
             have n5_ := Aside0.mk (blk_below (g := gb109) (o := .cells #[.int .i64 x110000_2, .int .i64 x110001_2] 66 (0, 0)) (tK BK109) hb)
             have n6_ := Aside0.mk (below_step (tB) hb)
             clear HO_7
             clear HO118
             clear BK101
             clear BK102
             clear BK109
             clear HB
             have HO_7 := n0_
             have HO118 := n1_
             have HO121 := n2_
             have BK101 := n3_
             have BK102 := n4_
             have BK109 := n5_
             have HB := n6_
             clear n0_ n1_ n2_ n3_ n4_ n5_ n6_
             (try clear hb)
             (try clear hb2)
             (try clear hk)
             (try clear hi)
             (try clear ho0)
             refine hK.out _ _ ⟨(blk_cell BK109.out 0).trans rfl, (blk_cell BK109.out 1).trans rfl⟩ (fun hHeld => ?_)
             clear hK K
             refine norm_ (a' := ?_) ?_ ?_
             rotate_left
             ·show Act.put _ (some 68) _ = _
              simp only [tS, i64_w, i32_w]
              rfl
             exact norm_ (by simp only [putAll, Act.put, List.setIfInBounds_toArray, List.set_cons_zero, List.set_cons_succ]) (hCont (v117, v120) _ ⟨hHeld, (by (with_reducible repeat (first | apply Kd.R_alloc | apply Kd.R_drewN | apply Kd.R_drew)); exact Kd.R_mono HO118.out (fun _ hk => ⟨hk.2, ⟨hk.1.1.2, hk.1.2⟩⟩)), (by (with_reducible repeat (first | apply Kd.R_alloc | apply Kd.R_drewN | apply Kd.R_drew)); exact Kd.R_mono HO121.out (fun _ hk => ⟨hk.1.2, ⟨hk.1.1.2, hk.2⟩⟩)), (by (with_reducible repeat (first | apply Kd.R_alloc | apply Kd.R_drewN | apply Kd.R_drew)); exact Kd.R_mono HO_7.out (fun _ hk => ⟨hk.1.2, ⟨hk.2, hk.1.1⟩⟩)), (tK BK101), (tK BK102), (tK BK109), (tB)⟩)
            ·skip
             refine goes_ Try.func55 (by kernel_rfl) rfl #[.slice (some ad110) t103.length cs_t103, .slice Ao76 t106.length co76, .int .i64 x110001_2] (by rfl) rfl rfl (by (try simp only [List.map_toArray, List.map_cons, List.map_nil]); first | done | rfl | (simp only [List.length_drop, List.length_take]; rfl)) ?_
             with_reducible refine (witness_follow.calls k2 _ _ t103 _ _ t106 x110001_2 t119 _ ?side1 ?side2 ?side3 ?side4 A74.out).mono ?_
             (case side1 => exact tC (Kd.C_below HRs_t103.out HB.out))
             (case side2 => exact HCs_t103.out)
             (case side3 => exact tC (Kd.R_reads' HO_7.out).2.2)
             (case side4 => exact (Kd.R_reads' HO_7.out).2.1)
             rintro e w78 ⟨v120, rfl, ho0, hb⟩
             refine ⟨_, rfl, ?_⟩
             have n0_ := Aside0.mk (Kd.R_elder' (tR HO_7) (Kd.R_base ho0) hb)
             have n1_ := Aside0.mk (Kd.R_lower (Kd.R_newB (Kd.R_new' ho0 (Kd.R_lt (tR HO_7))) (g := gb102) (o := .cells #[.int .i64 a1] 3 (0, 0)) (tK BK102)) (below_size (tB)))
             have n2_ := Aside0.mk (blk_below (g := gb101) (o := .cells #[.slice A0_0 l0_0.length c0_0, .slice A0_1 l0_1.length c0_1, .bool a0_2] 25 (0, 0)) (tK BK101) hb)
             have n3_ := Aside0.mk (blk_below (g := gb102) (o := .cells #[.int .i64 a1] 3 (0, 0)) (tK BK102) hb)
             have n4_ := Aside0.mk (blk_below (g := gb109) (o := .cells #[.int .i64 x110000_2, .int .i64 x110001_2] 66 (0, 0)) (tK BK109) hb)
             have n5_ := Aside0.mk (below_step (tB) hb)
             clear HO_7
             clear BK101
             clear BK102
             clear BK109
             clear HB
             have HO_7 := n0_
             have HO121 := n1_
             have BK101 := n2_
             have BK102 := n3_
             have BK109 := n4_
             have HB := n5_
             clear n0_ n1_ n2_ n3_ n4_ n5_
             (try clear hb)
             (try clear hb2)
             (try clear hk)
             (try clear hi)
             (try clear ho0)
             refine hK.out _ _ ⟨(blk_cell BK109.out 0).trans rfl, (blk_cell BK109.out 1).trans rfl⟩ (fun hHeld => ?_)
             clear hK K
             refine norm_ (a' := ?_) ?_ ?_
             rotate_left
             ·show Act.put _ (some 68) _ = _
              simp only [tS, i64_w, i32_w]
              rfl
             refine one_ (i := 2) (N := some 63) #[true, true, true, true, true, true, true, true, false, false, false] rfl rfl (one_of HT_.out (by kernel_rfl)) (by decide) (fun K hK => ?_)
             refine Kd.R_lit_step (Kd.int .i64) _ 3 ?hg (N := 63) ?hd (xs := ([x110000_2] : List Int)) (inner := [.int .i64 x110000_2]) (ok := fun _ => True) (okp := fun _ => True) ?hr ?hp (fun _ hk => hk) trivial (Below.refl _ _) (Nat.le_refl _) (by simp) ?_; (case hd => rfl); (case hg => rfl); (case hr => first | (go_simp; done) | (go_simp; rfl)); (case hp => exact (Reps.one (show Kd.M (Kd.int .i64) _ _ _ x110000_2 [.int .i64 x110000_2] from rfl) (Reps.none _ _)))
             intro v117 w79 ho80 hb hg_ hnew_
             clear hg_ hnew_
             (first | rw [← Ny116.out] at ho80 | (simp only [Int.reduceToNat] at ho80; rw [← Ny116.out] at ho80))
             have n0_ := Aside0.mk (Kd.R_elder' (tR HO_7) (Kd.R_base ho80) hb)
             have n1_ := Aside0.mk (Kd.R_elder' (tR HO121) (Kd.R_base ho80) hb)
             have n2_ := Aside0.mk (Kd.R_lower (Kd.R_newB (Kd.R_new' (Kd.R_new' ho80 (Kd.R_lt (tR HO_7))) (Kd.R_lt (tR HO121))) (g := gb102) (o := .cells #[.int .i64 a1] 3 (0, 0)) (tK BK102)) (below_size (tB)))
             have n3_ := Aside0.mk (blk_below (g := gb101) (o := .cells #[.slice A0_0 l0_0.length c0_0, .slice A0_1 l0_1.length c0_1, .bool a0_2] 25 (0, 0)) (tK BK101) hb)
             have n4_ := Aside0.mk (blk_below (g := gb102) (o := .cells #[.int .i64 a1] 3 (0, 0)) (tK BK102) hb)
             have n5_ := Aside0.mk (blk_below (g := gb109) (o := .cells #[.int .i64 x110000_2, .int .i64 x110001_2] 66 (0, 0)) (tK BK109) hb)
             have n6_ := Aside0.mk (below_step (tB) hb)
             clear HO_7
             clear HO121
             clear BK101
             clear BK102
             clear BK109
             clear HB
             have HO_7 := n0_
             have HO121 := n1_
             have HO118 := n2_
             have BK101 := n3_
             have BK102 := n4_
             have BK109 := n5_
             have HB := n6_
             clear n0_ n1_ n2_ n3_ n4_ n5_ n6_
             clear hb ho80
             refine hK.out _ _ ⟨(blk_cell BK109.out 0).trans rfl, (blk_cell BK109.out 1).trans rfl⟩ (fun hHeld => ?_)
             clear hK K
             refine norm_ (a' := ?_) ?_ ?_
             rotate_left
             ·show Act.put _ (some 63) _ = _
              simp only [tS, i64_w, i32_w]
              rfl
             exact norm_ (by simp only [putAll, Act.put, List.setIfInBounds_toArray, List.set_cons_zero, List.set_cons_succ]) (hCont (v117, v120) _ ⟨hHeld, (by (with_reducible repeat (first | apply Kd.R_alloc | apply Kd.R_drewN | apply Kd.R_drew)); exact Kd.R_mono HO118.out (fun _ hk => ⟨hk.1.2, ⟨hk.1.1.2, hk.2⟩⟩)), (by (with_reducible repeat (first | apply Kd.R_alloc | apply Kd.R_drewN | apply Kd.R_drew)); exact Kd.R_mono HO121.out (fun _ hk => ⟨hk.2, ⟨hk.1.1.2, hk.1.2⟩⟩)), (by (with_reducible repeat (first | apply Kd.R_alloc | apply Kd.R_drewN | apply Kd.R_drew)); exact Kd.R_mono HO_7.out (fun _ hk => ⟨hk.2, ⟨hk.1.2, hk.1.1⟩⟩)), (tK BK101), (tK BK102), (tK BK109), (tB)⟩)
           rintro ⟨v117, v120⟩ w81 ⟨hS_, h0_, h1_, h2_, h3_, h4_, h5_, h6_⟩
           have n0_ : Aside0 (Kd.R (Kd.int .i64) 3 w81 w.heap.size (fun k_ => some k_ ≠ (v120 : Value).ownBlock ∧ some k_ ≠ (.slice Ao76 t106.length co76 : Value).ownBlock ∧ k_ ≠ gb102) v117 y116) := ⟨h0_⟩
           have n1_ : Aside0 (Kd.R (Kd.int .i64) 3 w81 w.heap.size (fun k_ => some k_ ≠ (v117 : Value).ownBlock ∧ some k_ ≠ (.slice Ao76 t106.length co76 : Value).ownBlock ∧ k_ ≠ gb102) v120 t119) := ⟨h1_⟩
           have n2_ : Aside0 (Kd.R (Kd.int .i64) 3 w81 w.heap.size (fun k_ => some k_ ≠ (v117 : Value).ownBlock ∧ some k_ ≠ (v120 : Value).ownBlock ∧ k_ ≠ gb102) (.slice Ao76 t106.length co76) t106) := ⟨h2_⟩
           have n3_ : Aside0 (w81.heap[gb101]? = some (.cells #[.slice A0_0 l0_0.length c0_0, .slice A0_1 l0_1.length c0_1, .bool a0_2] 25 (0, 0))) := ⟨h3_⟩
           have n4_ : Aside0 (w81.heap[gb102]? = some (.cells #[.int .i64 a1] 3 (0, 0))) := ⟨h4_⟩
           have n5_ : Aside0 (w81.heap[gb109]? = some (.cells #[.int .i64 x110000_2, .int .i64 x110001_2] 66 (0, 0))) := ⟨h5_⟩
           have n6_ : Aside0 (Below w.heap.size w w81) := ⟨h6_⟩
           clear HO_7
           clear BK101
           clear BK102
           clear BK109
           clear HB
           clear h0_ h1_ h2_ h3_ h4_ h5_ h6_
           have HO118 := n0_
           have HO121 := n1_
           have HO_7 := n2_
           have BK101 := n3_
           have BK102 := n4_
           have BK109 := n5_
           have HB := n6_
           clear n0_ n1_ n2_ n3_ n4_ n5_ n6_
           have hHeld : w81.cell? ⟨gb109, 0, none⟩ = some (.int .i64 x110000_2) ∧ w81.cell? ⟨gb109, 1, none⟩ = some (.int .i64 x110001_2) := hS_
           obtain ⟨Ao83, co83, eo83⟩ := Kd.R_slice HO121.out
           (first | subst eo83 | (injection eo83 with f1_ f2_ f3_; have f4_ := f1_.symm; have f5_ := f3_.symm; clear f1_ f2_ f3_; subst f4_; subst f5_))
           refine norm_ (a' := ?_) ?_ ?_
           rotate_left
           ·simp only [putAll, Act.put, List.setIfInBounds_toArray, List.set_cons_zero, List.set_cons_succ]
            rfl
           refine one_ (i := 8) (N := some 69) #[true, true, true, true, true, true, true, true, true, false, false] rfl rfl (one_of HT_.out (by kernel_rfl)) (by decide) (fun K hK => ?_)
           refine Kd.R_append_rows_step (Kd.int .i64) (w0 := w) w.heap.size (by rfl) (.tmp 63) (.tmp 68) 28 3 (.int .i64 0) 8 rfl Try.underlying28 info3 rfl (by decide) (by omega) v117 y116 t119 _ _ _ (fun k_ => some k_ ≠ (.slice Ao76 t106.length co76 : Value).ownBlock ∧ some k_ ≠ (.slice Ao83 t119.length co83 : Value).ownBlock ∧ k_ ≠ gb102) (fun _ => False) rfl rfl ?aO ?aR (fun _ _ h => h) (fun _ h => h.elim) ?aF ?aB ?aS ?aL ?_
           (case aR => exact tC (Kd.R_reads' HO121.out).2.2)
           (case aB => exact (tB))
           (case aF => exact (fun k_ hk => ⟨Kd.fresh' (Kd.R_lt (tR HO_7)) k_ hk, Kd.fresh' (Kd.R_lt (tR HO121)) k_ hk, Kd.freshB (g := gb102) (o := .cells #[.int .i64 a1] 3 (0, 0)) (tK BK102) k_ hk⟩))
           (case aO => exact (by (with_reducible repeat (first | apply Kd.R_alloc | apply Kd.R_drewN | apply Kd.R_drew)); exact Kd.R_mono HO118.out (fun _ hk => ⟨hk.2.1, ⟨hk.1, hk.2.2⟩⟩)))
           (case aS => exact (below_size (tB)))
           (case aL => have := LMc75.out; omega)
           intro v123 w82 ho hb hg hat
           rw [← Ny122.out] at ho
           have n0_ := Aside0.mk (Kd.R_after (ok := (fun k_ => some k_ ≠ (.slice Ao83 t119.length co83 : Value).ownBlock ∧ k_ ≠ gb102)) (by (with_reducible repeat (first | apply Kd.R_alloc | apply Kd.R_drewN | apply Kd.R_drew)); exact Kd.R_mono HO_7.out (fun _ hk => ⟨⟨hk.2.1, hk.2.2⟩, hk.1⟩)) hg hat)
           have n1_ := Aside0.mk (blk_grown (g := gb101) (o := .cells #[.slice A0_0 l0_0.length c0_0, .slice A0_1 l0_1.length c0_1, .bool a0_2] 25 (0, 0)) (tK BK101) hg (Kd.R_ne HO118.out BK101.out (by decide)))
           have n2_ := Aside0.mk (blk_grown (g := gb102) (o := .cells #[.int .i64 a1] 3 (0, 0)) (tK BK102) hg (Kd.R_away HO118.out (fun _ hk => hk.2.2)))
           have n3_ := Aside0.mk (blk_grown (g := gb109) (o := .cells #[.int .i64 x110000_2, .int .i64 x110001_2] 66 (0, 0)) (tK BK109) hg (Kd.R_ne HO118.out BK109.out (by decide)))
           have n4_ := Aside0.mk (Kd.R_after (ok := (fun k_ => some k_ ≠ (.slice Ao76 t106.length co76 : Value).ownBlock ∧ k_ ≠ gb102)) (by (with_reducible repeat (first | apply Kd.R_alloc | apply Kd.R_drewN | apply Kd.R_drew)); exact Kd.R_mono HO121.out (fun _ hk => ⟨⟨hk.2.1, hk.2.2⟩, hk.1⟩)) hg hat)
           have n5_ := Aside0.mk (hb)
           have n6_ := Aside0.mk (ho)
           clear HO_7
           clear BK101
           clear BK102
           clear BK109
           clear HO121
           clear HB
           clear HO118
           have HO_7 := n0_
           have BK101 := n1_
           have BK102 := n2_
           have BK109 := n3_
           have HO121 := n4_
           have HB := n5_
           have HO124 := n6_
           clear n0_ n1_ n2_ n3_ n4_ n5_ n6_
           clear ho hb hg hat
           refine hK.out _ _ ⟨(blk_cell BK109.out 0).trans rfl, (blk_cell BK109.out 1).trans rfl⟩ (fun hHeld => ?_)
           clear hK K
           refine norm_ (a' := ?_) ?_ ?_
           rotate_left
           ·show Act.put _ (some 69) _ = _
            simp only [tS, i64_w, i32_w]
            rfl
           refine pure_ (i := 9) (N := some 4) (v := ?_) (a' := ?_) #[true, true, true, true, true, true, true, true, true, true, false] rfl rfl (any_of HT_.out (by kernel_rfl)) (fun _ _ _ h => h) (Or.inl ⟨by rfl, ?_⟩) ?_ ?_
           rotate_left
           ·intro w'
            go_simp
            with_reducible rfl
           rotate_left
           ·simp only [tS, i64_w, i32_w]
            rfl
           refine pure_ (i := 10) (N := some 5) (v := ?_) (a' := ?_) #[true, true, true, true, true, true, true, true, true, true, true] rfl rfl (any_of HT_.out (by kernel_rfl)) (fun _ _ _ h => h) (Or.inl ⟨by rfl, ?_⟩) ?_ ?_
           rotate_left
           ·intro w'
            go_simp
            with_reducible rfl
           rotate_left
           ·simp only [tS, i64_w, i32_w]
            rfl
           refine done_ (done_of HT_.out (by kernel_rfl)) ?_
           try go_wp2
           go_ret2
           (try refine rebR_ HBS1.out ?_)
           exact ⟨_, tE, by (with_reducible repeat (first | apply Kd.R_alloc | apply Kd.R_drewN | apply Kd.R_drew)); exact Kd.R_mono HO124.out (fun _ hk => trivial), tB⟩
          ·rw [if_neg c75] at H
           exact absurd H (by simp)
         ·replace c73 := Bool.eq_false_iff.mpr c73
          subst c73
          have H1 : (some (([] : List Int), false)) = some (r1, r2) := by rw [if_neg (show ¬ (false = true) by decide)] at H; exact H
          clear H
          have H := H1
          clear H1
          simp only [Option.some.injEq, Prod.mk.injEq] at H
          obtain ⟨rfl, rfl⟩ := H
          go_wp2
          go_ret2
          (try refine rebR_ HBS1.out ?_)
          exact ⟨_, tE, by first | exact Kd.R_nil _ _ _ _ _ | exact Kd.N_nil _ _ _ _ _ | exact Kd.V_nil _ _ _ _ _ | exact Kd.Q_nil _ _ _ _ _ | exact Kd.S_nil _ _ _ _ _, tB⟩
     ·rw [if_neg c17] at H
      exact absurd H (by simp)
    ·rw [if_neg c16] at H
     exact absurd H (by simp)
end Go.Proofs.Ytfnjbgggmddgpaa.Q
end
