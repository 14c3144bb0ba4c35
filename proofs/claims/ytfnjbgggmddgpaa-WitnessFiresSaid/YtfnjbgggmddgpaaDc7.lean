/- Part 7 of a proof: Dc. Words and walks that a program printed for this claim stand here without what the claim does not use. -/
import Derived.Outline
import Derived.Test.YtfnjbgggmddgpaaDc2
import Derived.Test.YtfnjbgggmddgpaaDc3
import Derived.Test.YtfnjbgggmddgpaaDc6
section
namespace Go.Proofs.Ytfnjbgggmddgpaa.Q
open Go.RowKit Go.Proofs.Fn Go.Proofs.YtfnjbgggmddgpaaW.PrintWords Go.Proofs.YtfnjbgggmddgpaaW.PrintLast Go.Proofs.YtfnjbgggmddgpaaW.PrintMore
attribute [local go_sem] max2_int min2_int max_two min_two max_three min_three max_four min_four
set_option linter.unusedVariables false
set_option linter.unusedSimpArgs false
mutual
def witness_follow.l0 : Nat → List (List (S66)) → List Int → Int → List Int → Option (List Int)
 | 0, _, _, _, _ => none
 | k + 1, x0, x1, x2, x7 => if 0 ≤ x2 then (if x2 < (x1.length : Int) then (if (rd x1 x2) > 0 then (if x2 < (x0.length : Int) then (witness_follow.l1 k x0 x1 x2 x7 (rd_L66 x0 x2) ((rd_L66 x0 x2).length : Int) 0) else (none)) else (some x7)) else (none)) else (none)
def witness_follow.l1 : Nat → List (List (S66)) → List Int → Int → List Int → List (S66) → Int → Int → Option (List Int)
 | 0, _, _, _, _, _, _, _ => none
 | k + 1, x0, x1, x2, x7, x18, x19, x20 => if x20 < x19 then (if 0 ≤ x20 then (if x20 < (x18.length : Int) then (if 0 ≤ ((rd_T66 x18 x20).f1) then (if ((rd_T66 x18 x20).f1) < (x1.length : Int) then (if 0 ≤ x2 then (if x2 < (x1.length : Int) then (if (rd x1 ((rd_T66 x18 x20).f1)) = (wrap64 ((rd x1 x2) - 1)) then (if x7.length < 17592186044416 then (witness_follow.l0 k x0 x1 ((rd_T66 x18 x20).f1) (x7 ++ [(rd_T66 x18 x20).f0])) else (none)) else (witness_follow.l1 k x0 x1 x2 x7 x18 x19 (wrap64 (x20 + 1)))) else (none)) else (none)) else (none)) else (none)) else (none)) else (none)) else (witness_follow.l0 k x0 x1 x2 x7)
end
def witness_follow.f (k : Nat) (l0 : List (List (S66))) (l1 : List Int) (a2 : Int) : Option (List Int) := witness_follow.l0 k l0 l1 a2 ([] : List Int)
theorem witness_follow.mono_l : ∀ k, (∀ y0 y1 y2 y3, LeO (witness_follow.l0 k y0 y1 y2 y3) (witness_follow.l0 (k + 1) y0 y1 y2 y3)) ∧ (∀ y0 y1 y2 y3 y4 y5 y6, LeO (witness_follow.l1 k y0 y1 y2 y3 y4 y5 y6) (witness_follow.l1 (k + 1) y0 y1 y2 y3 y4 y5 y6))
 | 0 => ⟨fun _ _ _ _ r h => by simp [witness_follow.l0] at h, fun _ _ _ _ _ _ _ r h => by simp [witness_follow.l1] at h⟩
 | k + 1 => by
  obtain ⟨ih0, ih1⟩ := witness_follow.mono_l k
  refine ⟨?_, ?_⟩
  ·intro y0 y1 y2 y3
   unfold witness_follow.l0
   repeat' first
   | (with_reducible exact ih0 _ _ _ _)
   | (with_reducible exact ih1 _ _ _ _ _ _ _)
   | (with_reducible exact LeO.refl _)
   | (with_reducible exact LeO.none _)
   | (with_reducible refine LeO.ite ?_ ?_)
   | (with_reducible refine LeO.bind ?_ (fun _ => ?_))
   | exact ih0 _ _ _ _
   | exact ih1 _ _ _ _ _ _ _
   | exact LeO.none _
   | refine LeO.ite ?_ ?_
   | refine LeO.bind ?_ (fun _ => ?_)
  ·intro y0 y1 y2 y3 y4 y5 y6
   unfold witness_follow.l1
   repeat' first
   | (with_reducible exact ih0 _ _ _ _)
   | (with_reducible exact ih1 _ _ _ _ _ _ _)
   | (with_reducible exact LeO.refl _)
   | (with_reducible exact LeO.none _)
   | (with_reducible refine LeO.ite ?_ ?_)
   | (with_reducible refine LeO.bind ?_ (fun _ => ?_))
   | exact ih0 _ _ _ _
   | exact ih1 _ _ _ _ _ _ _
   | exact LeO.none _
   | refine LeO.ite ?_ ?_
   | refine LeO.bind ?_ (fun _ => ?_)
theorem witness_follow.mono : ∀ a0 a1 a2 k, LeO (witness_follow.f k a0 a1 a2) (witness_follow.f (k + 1) a0 a1 a2) := by
 intro a0 a1 a2 k
 obtain ⟨ih0, ih1⟩ := witness_follow.mono_l k
 unfold witness_follow.f
 repeat' first
   | (with_reducible exact ih0 _ _ _ _)
   | (with_reducible exact ih1 _ _ _ _ _ _ _)
   | (with_reducible exact LeO.refl _)
   | (with_reducible exact LeO.none _)
   | (with_reducible refine LeO.ite ?_ ?_)
   | (with_reducible refine LeO.bind ?_ (fun _ => ?_))
   | exact ih0 _ _ _ _
   | exact ih1 _ _ _ _ _ _ _
   | exact LeO.none _
   | refine LeO.ite ?_ ?_
   | refine LeO.bind ?_ (fun _ => ?_)
set_option maxHeartbeats 8000000 in
set_option maxRecDepth 100000 in
theorem witness_follow.calls (k : Nat) (A0 : Option Addr) (c0 : Nat) (l0 : List (List (S66))) (A1 : Option Addr) (c1 : Nat) (l1 : List Int) (a2 : Int) (r : List Int) (w : World) (hr0 : Kd.C (Kd.slice 66 k66) w A0 l0.length l0) (hc0 : l0.length ≤ c0) (hr1 : Kd.C (Kd.int .i64) w A1 l1.length l1) (hc1 : l1.length ≤ c1) (h : witness_follow.f k l0 l1 a2 = some r) :
  Calls Try.prog 55 #[.slice A0 l0.length c0, .slice A1 l1.length c1, .int .i64 a2] w fun e w' => ∃ v0_ : Value, e = .returned (v0_) ∧ Kd.R (Kd.int .i64) 3 w' w.heap.size (fun _ => True) v0_ r ∧ Below w.heap.size w w' := by
 have hu66 := Try.underlying66
 have HR0 := Aside0.mk hr0
 have HC0 := Aside0.mk hc0
 clear hr0 hc0
 have HR1 := Aside0.mk hr1
 have HC1 := Aside0.mk hc1
 clear hr1 hc1
 have HB := Aside0.mk (Below.refl w.heap.size w)
 have H : (witness_follow.l0 k l0 l1 a2 ([] : List Int)) = some r := h
 clear h
 have H' := Aside0.mk H
 clear H
 go_enter Try.func55, Try.ntmps55
 go_wp2_with go_step3
 repeat (go_quiet (fail); try go_wp2_with go_step3)
 go_loopg [2, 7] k (fun kq v2 v7 w' => ∃ (x2_1 : Int) (x7_1 : List Int), v2 = .int .i64 x2_1 ∧ Aside0 (witness_follow.l0 kq l0 l1 x2_1 x7_1 = some r) ∧ Aside0 (kq ≤ k) ∧ Aside0 (Kd.R (Kd.int .i64) 3 w' w.heap.size (fun _ => True) v7 x7_1) ∧ Aside0 (Below w.heap.size w w'))
 case atStart => exact ⟨(a2), (([] : List Int)), (by first | rfl | (simp; done) | (simp [*]; done)), H', ⟨Nat.le_refl _⟩, ⟨by first | exact Kd.R_nil _ _ _ _ _ | exact Kd.N_nil _ _ _ _ _ | exact Kd.V_nil _ _ _ _ _ | exact Kd.Q_nil _ _ _ _ _ | exact Kd.S_nil _ _ _ _ _⟩, ⟨tB⟩⟩
 case round =>
  clear H'
  try clear c1
  try clear p2
  obtain ⟨x2_1, x7_1, rfl, HA, HK1, HO_7, HB⟩ := hrel
  cases gk with
  | zero => exact absurd HA.out (by simp [witness_follow.l0])
  | succ k1 =>
   have H := HA.out
   clear HA
   simp only [witness_follow.l0] at H
   by_cases c4 : 0 ≤ x2_1
   ·rw [if_pos c4] at H
    have c4b0 : decide (0 ≤ x2_1) = true := decide_eq_true c4
    clear c4
    by_cases c5 : x2_1 < (l1.length : Int)
    ·rw [if_pos c5] at H
     have c5b0 : decide (x2_1 < (l1.length : Int)) = true := decide_eq_true c5
     clear c5
     by_cases c6 : (rd l1 x2_1) > 0
     ·rw [if_pos c6] at H
      have c6b0 : decide (0 < (rd l1 x2_1)) = true := decide_eq_true c6
      clear c6
      by_cases c7 : x2_1 < (l0.length : Int)
      ·rw [if_pos c7] at H
       have c7b0 : decide (x2_1 < (l0.length : Int)) = true := decide_eq_true c7
       clear c7
       have H' := Aside0.mk H
       clear H
       have p101 : 0 ≤ (x2_1 : Int) := tD
       have q101 : x2_1 < (l1.length : Int) := tD
       obtain ⟨ad101, e101, hx101_0⟩ := Kd.at_int HR1.out x2_1 p101 q101
       cases e101
       replace hx101_0 := (HB.out.cell (World.block_lt_of_cell? w _ hx101_0)).trans hx101_0
       replace p101 := eq_true p101
       replace q101 := eq_true q101
       have p102 : 0 ≤ (x2_1 : Int) := tD
       have q102 : x2_1 < (l0.length : Int) := tD
       obtain ⟨ad102, A102_0, c102_0, e102, hx102_0, hl102_0, hi102_0⟩ := at_L66 HR0.out x2_1 p102 q102
       cases e102
       replace hx102_0 := (HB.out.cell (World.block_lt_of_cell? w _ hx102_0)).trans hx102_0
       have HR102_0 := Aside0.mk hi102_0
       have HC102_0 := Aside0.mk hl102_0
       clear hi102_0 hl102_0
       replace p102 := eq_true p102
       replace q102 := eq_true q102
       go_wp2_with go_step3
       repeat (go_quiet (fail); try go_wp2_with go_step3)
       go_loopg [2, 7, 20] k1 (fun kq v2 v7 v20 w' => ∃ (x2_2 : Int) (x7_2 : List Int) (x20_2 : Int), v2 = .int .i64 x2_2 ∧ v20 = .int .i64 x20_2 ∧ Aside0 (witness_follow.l1 kq l0 l1 x2_2 x7_2 (rd_L66 l0 x2_1) ((rd_L66 l0 x2_1).length : Int) x20_2 = some r) ∧ Aside0 (kq ≤ k1) ∧ Aside0 (Kd.R (Kd.int .i64) 3 w' w.heap.size (fun _ => True) v7 x7_2) ∧ Aside0 (Below w.heap.size w w'))
       case atStart => exact ⟨(x2_1), (x7_1), (0), (by first | rfl | (simp; done) | (simp [*]; done)), (by first | rfl | (simp; done) | (simp [*]; done)), H', ⟨Nat.le_refl _⟩, ⟨tR HO_7⟩, ⟨tB⟩⟩
       case round =>
        clear H'
        try clear c1
        try clear p1
        try clear q1
        try clear hx1
        try clear p2
        try clear c4
        try clear c4b0
        try clear c5
        try clear c5b0
        try clear c6
        try clear c6b0
        try clear c7
        try clear c7b0
        try clear hx101_0
        try clear hx102_0
        try clear p101
        try clear p102
        try clear p2
        try clear q101
        try clear q102
        obtain ⟨x2_2, x7_2, x20_2, rfl, rfl, HA, HK2, HO_7, HB⟩ := hrel
        cases gk with
        | zero => exact absurd HA.out (by simp [witness_follow.l1])
        | succ k2 =>
         have H := HA.out
         clear HA
         simp only [witness_follow.l1] at H
         by_cases c8 : x20_2 < ((rd_L66 l0 x2_1).length : Int)
         ·rw [if_pos c8] at H
          have c8b0 : decide (x20_2 < ((rd_L66 l0 x2_1).length : Int)) = true := decide_eq_true c8
          clear c8
          by_cases c9 : 0 ≤ x20_2
          ·rw [if_pos c9] at H
           have c9b0 : decide (0 ≤ x20_2) = true := decide_eq_true c9
           clear c9
           by_cases c10 : x20_2 < ((rd_L66 l0 x2_1).length : Int)
           ·rw [if_pos c10] at H
            have c10b0 : decide (x20_2 < ((rd_L66 l0 x2_1).length : Int)) = true := decide_eq_true c10
            clear c10
            by_cases c11 : 0 ≤ ((rd_T66 (rd_L66 l0 x2_1) x20_2).f1)
            ·rw [if_pos c11] at H
             have c11b0 : decide (0 ≤ ((rd_T66 (rd_L66 l0 x2_1) x20_2).f1)) = true := decide_eq_true c11
             clear c11
             by_cases c12 : ((rd_T66 (rd_L66 l0 x2_1) x20_2).f1) < (l1.length : Int)
             ·rw [if_pos c12] at H
              have c12b0 : decide (((rd_T66 (rd_L66 l0 x2_1) x20_2).f1) < (l1.length : Int)) = true := decide_eq_true c12
              clear c12
              by_cases c13 : 0 ≤ x2_2
              ·rw [if_pos c13] at H
               have c13b0 : decide (0 ≤ x2_2) = true := decide_eq_true c13
               clear c13
               by_cases c14 : x2_2 < (l1.length : Int)
               ·rw [if_pos c14] at H
                have c14b0 : decide (x2_2 < (l1.length : Int)) = true := decide_eq_true c14
                clear c14
                by_cases c15 : (rd l1 ((rd_T66 (rd_L66 l0 x2_1) x20_2).f1)) = (wrap64 ((rd l1 x2_2) - 1))
                ·rw [if_pos c15] at H
                 have c15b0 : ((rd l1 ((rd_T66 (rd_L66 l0 x2_1) x20_2).f1)) == (wrap64 ((rd l1 x2_2) - 1))) = true := beq_iff_eq.mpr c15
                 have c15b1 : ((rd l1 ((rd_T66 (rd_L66 l0 x2_1) x20_2).f1)) != (wrap64 ((rd l1 x2_2) - 1))) = false := bne_eq_false_iff_eq.mpr c15
                 clear c15
                 by_cases c16 : x7_2.length < 17592186044416
                 ·rw [if_pos c16] at H
                  have LMc16 := Aside0.mk c16
                  clear c16
                  obtain ⟨y107, hy107⟩ : ∃ y_ : List Int, y_ = (x7_2 ++ [(rd_T66 (rd_L66 l0 x2_1) x20_2).f0]) := ⟨_, rfl⟩
                  replace H : (witness_follow.l0 k2 l0 l1 ((rd_T66 (rd_L66 l0 x2_1) x20_2).f1) y107) = some r := by first | (rw [hy107]; with_reducible exact H) | (have H2_ := (Option.bind_some _ _).symm.trans H; rw [hy107]; with_reducible exact H2_) | (have H2_ := (Option.bind_some _ _).symm.trans H; with_reducible exact H2_) | with_reducible exact H | (rw [hy107]; exact H) | exact H
                  have Ny107 := Aside0.mk hy107
                  clear hy107
                  have H' := Aside0.mk H
                  clear H
                  have p103 : 0 ≤ (x20_2 : Int) := tD
                  have q103 : x20_2 < ((rd_L66 l0 x2_1).length : Int) := tD
                  obtain ⟨ad103, e103, hx103_0, hx103_1⟩ := at_T66 HR102_0.out x20_2 p103 q103
                  cases e103
                  replace hx103_0 := (HB.out.cell (World.block_lt_of_cell? w _ hx103_0)).trans hx103_0
                  replace hx103_1 := (HB.out.cell (World.block_lt_of_cell? w _ hx103_1)).trans hx103_1
                  replace p103 := eq_true p103
                  replace q103 := eq_true q103
                  go_wp2_with (first | go_step3 | ((with_reducible refine gate_dst (N := 9) rfl ?_); refine box_event ?hg (N := 9) ?hd (cs := #[.int .i64 0, .int .i64 0]) (t := 66) ?hr ?_; (case hd => rfl); (case hg => rfl); (case hr => first | (go_simp; done) | (go_simp; rfl)); intro gb104 hg w17 hbox hb; have n0_ := Aside0.mk (Kd.R_below (tR HO_7) hb); have n1_ := Aside0.mk (below_step (tB) hb); have n2_ := Aside0.mk (hbox); have n3_ := Aside0.mk ((by rw [hg]; exact (below_size (tB)) : w.heap.size ≤ gb104)); have n4_ := Aside0.mk ((by rw [hg]; exact (below_size (tB)) : w.heap.size ≤ gb104)); clear HO_7; clear HB; have HO_7 := n0_; have HB := n1_; have BK104 := n2_; have GW104 := n3_; have GE104 := n4_; clear n0_ n1_ n2_ n3_ n4_; clear hb hbox hg; have hcz18_0 : w17.cell? ⟨gb104, 0, none⟩ = some (.int .i64 0) := (blk_cell BK104.out 0).trans rfl; have hcz18_1 : w17.cell? ⟨gb104, 1, none⟩ = some (.int .i64 0) := (blk_cell BK104.out 1).trans rfl; have hfz18_0 := blk_frozen BK104.out 0; have hfz18_1 := blk_frozen BK104.out 1; have p105 : 0 ≤ (((rd_T66 (rd_L66 l0 x2_1) x20_2).f1) : Int) := tD; have q105 : ((rd_T66 (rd_L66 l0 x2_1) x20_2).f1) < (l1.length : Int) := tD; obtain ⟨ad105, e105, hx105_0⟩ := Kd.at_int HR1.out ((rd_T66 (rd_L66 l0 x2_1) x20_2).f1) p105 q105; obtain rfl : ad101 = ad105 := (by injection e105); have hn105_0 : ad101.block ≠ gb104 := Nat.ne_of_lt (Nat.lt_of_lt_of_le (by have := World.block_lt_of_cell? _ _ hx105_0; first | rwa [add_block] at this | exact this) GW104.out); have hn105_1 : ad101.block ≠ gb104 := Nat.ne_of_lt (Nat.lt_of_lt_of_le (by have := World.block_lt_of_cell? _ _ hx105_0; first | rwa [add_block] at this | exact this) GW104.out); replace hx105_0 := (HB.out.cell (World.block_lt_of_cell? w _ hx105_0)).trans hx105_0; replace hx105_0 := (cell_far (p := ⟨gb104, 0, none⟩) (by first | (rw [add_block]; exact hn105_0) | (show (Addr.add _ _).block ≠ _; rw [add_block]; exact hn105_0) | exact hn105_0) (.int .i64 ((rd_T66 (rd_L66 l0 x2_1) x20_2).f0))).trans hx105_0; replace hx105_0 := (cell_far (p := ⟨gb104, 1, none⟩) (by first | (rw [add_block]; exact hn105_1) | (show (Addr.add _ _).block ≠ _; rw [add_block]; exact hn105_1) | exact hn105_1) (.int .i64 ((rd_T66 (rd_L66 l0 x2_1) x20_2).f1))).trans hx105_0; (try have hy105_0 := fun (n_ : Nat) => (show ((((w17.drewN n_).setCell ⟨gb104, 0, none⟩ (.int .i64 ((rd_T66 (rd_L66 l0 x2_1) x20_2).f0))).setCell ⟨gb104, 1, none⟩ (.int .i64 ((rd_T66 (rd_L66 l0 x2_1) x20_2).f1)))).cell? _ = some _ from hx105_0)); clear hn105_0; clear hn105_1; replace p105 := eq_true p105; replace q105 := eq_true q105; have p106 : 0 ≤ (x2_2 : Int) := tD; have q106 : x2_2 < (l1.length : Int) := tD; obtain ⟨ad106, e106, hx106_0⟩ := Kd.at_int HR1.out x2_2 p106 q106; obtain rfl : ad101 = ad106 := (by injection e106); have hn106_0 : ad101.block ≠ gb104 := Nat.ne_of_lt (Nat.lt_of_lt_of_le (by have := World.block_lt_of_cell? _ _ hx106_0; first | rwa [add_block] at this | exact this) GW104.out); have hn106_1 : ad101.block ≠ gb104 := Nat.ne_of_lt (Nat.lt_of_lt_of_le (by have := World.block_lt_of_cell? _ _ hx106_0; first | rwa [add_block] at this | exact this) GW104.out); replace hx106_0 := (HB.out.cell (World.block_lt_of_cell? w _ hx106_0)).trans hx106_0; replace hx106_0 := (cell_far (p := ⟨gb104, 0, none⟩) (by first | (rw [add_block]; exact hn106_0) | (show (Addr.add _ _).block ≠ _; rw [add_block]; exact hn106_0) | exact hn106_0) (.int .i64 ((rd_T66 (rd_L66 l0 x2_1) x20_2).f0))).trans hx106_0; replace hx106_0 := (cell_far (p := ⟨gb104, 1, none⟩) (by first | (rw [add_block]; exact hn106_1) | (show (Addr.add _ _).block ≠ _; rw [add_block]; exact hn106_1) | exact hn106_1) (.int .i64 ((rd_T66 (rd_L66 l0 x2_1) x20_2).f1))).trans hx106_0; (try have hy106_0 := fun (n_ : Nat) => (show ((((w17.drewN n_).setCell ⟨gb104, 0, none⟩ (.int .i64 ((rd_T66 (rd_L66 l0 x2_1) x20_2).f0))).setCell ⟨gb104, 1, none⟩ (.int .i64 ((rd_T66 (rd_L66 l0 x2_1) x20_2).f1)))).cell? _ = some _ from hx106_0)); clear hn106_0; clear hn106_1; replace p106 := eq_true p106; replace q106 := eq_true q106) | ((with_reducible refine gate_builtin (b := .append) (xs := #[.tmp 35, .tmp 38]) rfl ?_); at_builtin; refine Kd.R_append (Kd.int .i64) (w0 := w) w.heap.size rfl (.tmp 35) (.tmp 38) 28 3 (.int .i64 0) 8 rfl Try.underlying28 info3 rfl (by decide) (by omega) u7 x7_2 ((rd_T66 (rd_L66 l0 x2_1) x20_2).f0) [.int .i64 ((rd_T66 (rd_L66 l0 x2_1) x20_2).f0)] (fun _ => True) (fun _ => False) rfl (by first | (go_simp; done) | (go_simp; rfl)) ?aP (fun _ hk => hk.elim) ?aF ?aO ?aB ?aS ?aL ?_; (case aP => exact rfl); (case aB => exact (tB)); (case aF => exact (fun _ _ => trivial)); (case aO => exact (by (with_reducible repeat (first | apply Kd.R_alloc | apply Kd.R_drewN | apply Kd.R_drew)); exact Kd.R_mono (Kd.R_far (p := ⟨gb104, 1, none⟩) (Kd.R_far (p := ⟨gb104, 0, none⟩) (Kd.R_types HO_7.out BK104.out (by decide)) (fun _ hk => hk.2) (.int .i64 ((rd_T66 (rd_L66 l0 x2_1) x20_2).f0))) (fun _ hk => hk.2) (.int .i64 ((rd_T66 (rd_L66 l0 x2_1) x20_2).f1))) (fun _ hk => trivial))); (case aS => exact (below_size (tB))); (case aL => have := LMc16.out; omega); intro v108 w19 ho hb hg hat; rw [← Ny107.out] at ho; have n0_ := Aside0.mk (blk_grown (g := gb104) (o := .cells #[.int .i64 ((rd_T66 (rd_L66 l0 x2_1) x20_2).f0), .int .i64 ((rd_T66 (rd_L66 l0 x2_1) x20_2).f1)] 66 (0, 0)) (by (with_reducible repeat (first | refine blk_drewN ?_ _ | refine blk_drew ?_ | refine blk_alloc ?_ _)); refine blk_put (cs := #[.int .i64 ((rd_T66 (rd_L66 l0 x2_1) x20_2).f0), .int .i64 0]) ?_ 1 _ rfl; (with_reducible repeat (first | refine blk_drewN ?_ _ | refine blk_drew ?_ | refine blk_alloc ?_ _)); refine blk_put (cs := #[.int .i64 0, .int .i64 0]) ?_ 0 _ rfl; (with_reducible repeat (first | refine blk_drewN ?_ _ | refine blk_drew ?_ | refine blk_alloc ?_ _)); exact BK104.out) hg (Kd.R_ne HO_7.out BK104.out (by decide))); have n1_ := Aside0.mk (hb); have n2_ := Aside0.mk (ho); clear BK104; clear HB; clear HO_7; have BK104 := n0_; have HB := n1_; have HO109 := n2_; clear n0_ n1_ n2_; clear ho hb hg hat; have hcz20_0 : w19.cell? ⟨gb104, 0, none⟩ = some (.int .i64 ((rd_T66 (rd_L66 l0 x2_1) x20_2).f0)) := (blk_cell BK104.out 0).trans rfl; have hcz20_1 : w19.cell? ⟨gb104, 1, none⟩ = some (.int .i64 ((rd_T66 (rd_L66 l0 x2_1) x20_2).f1)) := (blk_cell BK104.out 1).trans rfl; have hfz20_0 := blk_frozen BK104.out 0; have hfz20_1 := blk_frozen BK104.out 1))
                  repeat (go_quiet (first | ((with_reducible refine gate_dst (N := 9) rfl ?_); refine box_event ?hg (N := 9) ?hd (cs := #[.int .i64 0, .int .i64 0]) (t := 66) ?hr ?_; (case hd => rfl); (case hg => rfl); (case hr => first | (go_simp; done) | (go_simp; rfl)); intro gb104 hg w17 hbox hb; have n0_ := Aside0.mk (Kd.R_below (tR HO_7) hb); have n1_ := Aside0.mk (below_step (tB) hb); have n2_ := Aside0.mk (hbox); have n3_ := Aside0.mk ((by rw [hg]; exact (below_size (tB)) : w.heap.size ≤ gb104)); have n4_ := Aside0.mk ((by rw [hg]; exact (below_size (tB)) : w.heap.size ≤ gb104)); clear HO_7; clear HB; have HO_7 := n0_; have HB := n1_; have BK104 := n2_; have GW104 := n3_; have GE104 := n4_; clear n0_ n1_ n2_ n3_ n4_; clear hb hbox hg; have hcz18_0 : w17.cell? ⟨gb104, 0, none⟩ = some (.int .i64 0) := (blk_cell BK104.out 0).trans rfl; have hcz18_1 : w17.cell? ⟨gb104, 1, none⟩ = some (.int .i64 0) := (blk_cell BK104.out 1).trans rfl; have hfz18_0 := blk_frozen BK104.out 0; have hfz18_1 := blk_frozen BK104.out 1; have p105 : 0 ≤ (((rd_T66 (rd_L66 l0 x2_1) x20_2).f1) : Int) := tD; have q105 : ((rd_T66 (rd_L66 l0 x2_1) x20_2).f1) < (l1.length : Int) := tD; obtain ⟨ad105, e105, hx105_0⟩ := Kd.at_int HR1.out ((rd_T66 (rd_L66 l0 x2_1) x20_2).f1) p105 q105; obtain rfl : ad101 = ad105 := (by injection e105); have hn105_0 : ad101.block ≠ gb104 := Nat.ne_of_lt (Nat.lt_of_lt_of_le (by have := World.block_lt_of_cell? _ _ hx105_0; first | rwa [add_block] at this | exact this) GW104.out); have hn105_1 : ad101.block ≠ gb104 := Nat.ne_of_lt (Nat.lt_of_lt_of_le (by have := World.block_lt_of_cell? _ _ hx105_0; first | rwa [add_block] at this | exact this) GW104.out); replace hx105_0 := (HB.out.cell (World.block_lt_of_cell? w _ hx105_0)).trans hx105_0; replace hx105_0 := (cell_far (p := ⟨gb104, 0, none⟩) (by first | (rw [add_block]; exact hn105_0) | (show (Addr.add _ _).block ≠ _; rw [add_block]; exact hn105_0) | exact hn105_0) (.int .i64 ((rd_T66 (rd_L66 l0 x2_1) x20_2).f0))).trans hx105_0; replace hx105_0 := (cell_far (p := ⟨gb104, 1, none⟩) (by first | (rw [add_block]; exact hn105_1) | (show (Addr.add _ _).block ≠ _; rw [add_block]; exact hn105_1) | exact hn105_1) (.int .i64 ((rd_T66 (rd_L66 l0 x2_1) x20_2).f1))).trans hx105_0; (try have hy105_0 := fun (n_ : Nat) => (show ((((w17.drewN n_).setCell ⟨gb104, 0, none⟩ (.int .i64 ((rd_T66 (rd_L66 l0 x2_1) x20_2).f0))).setCell ⟨gb104, 1, none⟩ (.int .i64 ((rd_T66 (rd_L66 l0 x2_1) x20_2).f1)))).cell? _ = some _ from hx105_0)); clear hn105_0; clear hn105_1; replace p105 := eq_true p105; replace q105 := eq_true q105; have p106 : 0 ≤ (x2_2 : Int) := tD; have q106 : x2_2 < (l1.length : Int) := tD; obtain ⟨ad106, e106, hx106_0⟩ := Kd.at_int HR1.out x2_2 p106 q106; obtain rfl : ad101 = ad106 := (by injection e106); have hn106_0 : ad101.block ≠ gb104 := Nat.ne_of_lt (Nat.lt_of_lt_of_le (by have := World.block_lt_of_cell? _ _ hx106_0; first | rwa [add_block] at this | exact this) GW104.out); have hn106_1 : ad101.block ≠ gb104 := Nat.ne_of_lt (Nat.lt_of_lt_of_le (by have := World.block_lt_of_cell? _ _ hx106_0; first | rwa [add_block] at this | exact this) GW104.out); replace hx106_0 := (HB.out.cell (World.block_lt_of_cell? w _ hx106_0)).trans hx106_0; replace hx106_0 := (cell_far (p := ⟨gb104, 0, none⟩) (by first | (rw [add_block]; exact hn106_0) | (show (Addr.add _ _).block ≠ _; rw [add_block]; exact hn106_0) | exact hn106_0) (.int .i64 ((rd_T66 (rd_L66 l0 x2_1) x20_2).f0))).trans hx106_0; replace hx106_0 := (cell_far (p := ⟨gb104, 1, none⟩) (by first | (rw [add_block]; exact hn106_1) | (show (Addr.add _ _).block ≠ _; rw [add_block]; exact hn106_1) | exact hn106_1) (.int .i64 ((rd_T66 (rd_L66 l0 x2_1) x20_2).f1))).trans hx106_0; (try have hy106_0 := fun (n_ : Nat) => (show ((((w17.drewN n_).setCell ⟨gb104, 0, none⟩ (.int .i64 ((rd_T66 (rd_L66 l0 x2_1) x20_2).f0))).setCell ⟨gb104, 1, none⟩ (.int .i64 ((rd_T66 (rd_L66 l0 x2_1) x20_2).f1)))).cell? _ = some _ from hx106_0)); clear hn106_0; clear hn106_1; replace p106 := eq_true p106; replace q106 := eq_true q106) | ((with_reducible refine gate_builtin (b := .append) (xs := #[.tmp 35, .tmp 38]) rfl ?_); at_builtin; refine Kd.R_append (Kd.int .i64) (w0 := w) w.heap.size rfl (.tmp 35) (.tmp 38) 28 3 (.int .i64 0) 8 rfl Try.underlying28 info3 rfl (by decide) (by omega) u7 x7_2 ((rd_T66 (rd_L66 l0 x2_1) x20_2).f0) [.int .i64 ((rd_T66 (rd_L66 l0 x2_1) x20_2).f0)] (fun _ => True) (fun _ => False) rfl (by first | (go_simp; done) | (go_simp; rfl)) ?aP (fun _ hk => hk.elim) ?aF ?aO ?aB ?aS ?aL ?_; (case aP => exact rfl); (case aB => exact (tB)); (case aF => exact (fun _ _ => trivial)); (case aO => exact (by (with_reducible repeat (first | apply Kd.R_alloc | apply Kd.R_drewN | apply Kd.R_drew)); exact Kd.R_mono (Kd.R_far (p := ⟨gb104, 1, none⟩) (Kd.R_far (p := ⟨gb104, 0, none⟩) (Kd.R_types HO_7.out BK104.out (by decide)) (fun _ hk => hk.2) (.int .i64 ((rd_T66 (rd_L66 l0 x2_1) x20_2).f0))) (fun _ hk => hk.2) (.int .i64 ((rd_T66 (rd_L66 l0 x2_1) x20_2).f1))) (fun _ hk => trivial))); (case aS => exact (below_size (tB))); (case aL => have := LMc16.out; omega); intro v108 w19 ho hb hg hat; rw [← Ny107.out] at ho; have n0_ := Aside0.mk (blk_grown (g := gb104) (o := .cells #[.int .i64 ((rd_T66 (rd_L66 l0 x2_1) x20_2).f0), .int .i64 ((rd_T66 (rd_L66 l0 x2_1) x20_2).f1)] 66 (0, 0)) (by (with_reducible repeat (first | refine blk_drewN ?_ _ | refine blk_drew ?_ | refine blk_alloc ?_ _)); refine blk_put (cs := #[.int .i64 ((rd_T66 (rd_L66 l0 x2_1) x20_2).f0), .int .i64 0]) ?_ 1 _ rfl; (with_reducible repeat (first | refine blk_drewN ?_ _ | refine blk_drew ?_ | refine blk_alloc ?_ _)); refine blk_put (cs := #[.int .i64 0, .int .i64 0]) ?_ 0 _ rfl; (with_reducible repeat (first | refine blk_drewN ?_ _ | refine blk_drew ?_ | refine blk_alloc ?_ _)); exact BK104.out) hg (Kd.R_ne HO_7.out BK104.out (by decide))); have n1_ := Aside0.mk (hb); have n2_ := Aside0.mk (ho); clear BK104; clear HB; clear HO_7; have BK104 := n0_; have HB := n1_; have HO109 := n2_; clear n0_ n1_ n2_; clear ho hb hg hat; have hcz20_0 : w19.cell? ⟨gb104, 0, none⟩ = some (.int .i64 ((rd_T66 (rd_L66 l0 x2_1) x20_2).f0)) := (blk_cell BK104.out 0).trans rfl; have hcz20_1 : w19.cell? ⟨gb104, 1, none⟩ = some (.int .i64 ((rd_T66 (rd_L66 l0 x2_1) x20_2).f1)) := (blk_cell BK104.out 1).trans rfl; have hfz20_0 := blk_frozen BK104.out 0; have hfz20_1 := blk_frozen BK104.out 1)); try go_wp2_with (first | go_step3 | ((with_reducible refine gate_dst (N := 9) rfl ?_); refine box_event ?hg (N := 9) ?hd (cs := #[.int .i64 0, .int .i64 0]) (t := 66) ?hr ?_; (case hd => rfl); (case hg => rfl); (case hr => first | (go_simp; done) | (go_simp; rfl)); intro gb104 hg w17 hbox hb; have n0_ := Aside0.mk (Kd.R_below (tR HO_7) hb); have n1_ := Aside0.mk (below_step (tB) hb); have n2_ := Aside0.mk (hbox); have n3_ := Aside0.mk ((by rw [hg]; exact (below_size (tB)) : w.heap.size ≤ gb104)); have n4_ := Aside0.mk ((by rw [hg]; exact (below_size (tB)) : w.heap.size ≤ gb104)); clear HO_7; clear HB; have HO_7 := n0_; have HB := n1_; have BK104 := n2_; have GW104 := n3_; have GE104 := n4_; clear n0_ n1_ n2_ n3_ n4_; clear hb hbox hg; have hcz18_0 : w17.cell? ⟨gb104, 0, none⟩ = some (.int .i64 0) := (blk_cell BK104.out 0).trans rfl; have hcz18_1 : w17.cell? ⟨gb104, 1, none⟩ = some (.int .i64 0) := (blk_cell BK104.out 1).trans rfl; have hfz18_0 := blk_frozen BK104.out 0; have hfz18_1 := blk_frozen BK104.out 1; have p105 : 0 ≤ (((rd_T66 (rd_L66 l0 x2_1) x20_2).f1) : Int) := tD; have q105 : ((rd_T66 (rd_L66 l0 x2_1) x20_2).f1) < (l1.length : Int) := tD; obtain ⟨ad105, e105, hx105_0⟩ := Kd.at_int HR1.out ((rd_T66 (rd_L66 l0 x2_1) x20_2).f1) p105 q105; obtain rfl : ad101 = ad105 := (by injection e105); have hn105_0 : ad101.block ≠ gb104 := Nat.ne_of_lt (Nat.lt_of_lt_of_le (by have := World.block_lt_of_cell? _ _ hx105_0; first | rwa [add_block] at this | exact this) GW104.out); have hn105_1 : ad101.block ≠ gb104 := Nat.ne_of_lt (Nat.lt_of_lt_of_le (by have := World.block_lt_of_cell? _ _ hx105_0; first | rwa [add_block] at this | exact this) GW104.out); replace hx105_0 := (HB.out.cell (World.block_lt_of_cell? w _ hx105_0)).trans hx105_0; replace hx105_0 := (cell_far (p := ⟨gb104, 0, none⟩) (by first | (rw [add_block]; exact hn105_0) | (show (Addr.add _ _).block ≠ _; rw [add_block]; exact hn105_0) | exact hn105_0) (.int .i64 ((rd_T66 (rd_L66 l0 x2_1) x20_2).f0))).trans hx105_0; replace hx105_0 := (cell_far (p := ⟨gb104, 1, none⟩) (by first | (rw [add_block]; exact hn105_1) | (show (Addr.add _ _).block ≠ _; rw [add_block]; exact hn105_1) | exact hn105_1) (.int .i64 ((rd_T66 (rd_L66 l0 x2_1) x20_2).f1))).trans hx105_0; (try have hy105_0 := fun (n_ : Nat) => (show ((((w17.drewN n_).setCell ⟨gb104, 0, none⟩ (.int .i64 ((rd_T66 (rd_L66 l0 x2_1) x20_2).f0))).setCell ⟨gb104, 1, none⟩ (.int .i64 ((rd_T66 (rd_L66 l0 x2_1) x20_2).f1)))).cell? _ = some _ from hx105_0)); clear hn105_0; clear hn105_1; replace p105 := eq_true p105; replace q105 := eq_true q105; have p106 : 0 ≤ (x2_2 : Int) := tD; have q106 : x2_2 < (l1.length : Int) := tD; obtain ⟨ad106, e106, hx106_0⟩ := Kd.at_int HR1.out x2_2 p106 q106; obtain rfl : ad101 = ad106 := (by injection e106); have hn106_0 : ad101.block ≠ gb104 := Nat.ne_of_lt (Nat.lt_of_lt_of_le (by have := World.block_lt_of_cell? _ _ hx106_0; first | rwa [add_block] at this | exact this) GW104.out); have hn106_1 : ad101.block ≠ gb104 := Nat.ne_of_lt (Nat.lt_of_lt_of_le (by have := World.block_lt_of_cell? _ _ hx106_0; first | rwa [add_block] at this | exact this) GW104.out); replace hx106_0 := (HB.out.cell (World.block_lt_of_cell? w _ hx106_0)).trans hx106_0; replace hx106_0 := (cell_far (p := ⟨gb104, 0, none⟩) (by first | (rw [add_block]; exact hn106_0) | (show (Addr.add _ _).block ≠ _; rw [add_block]; exact hn106_0) | exact hn106_0) (.int .i64 ((rd_T66 (rd_L66 l0 x2_1) x20_2).f0))).trans hx106_0; replace hx106_0 := (cell_far (p := ⟨gb104, 1, none⟩) (by first | (rw [add_block]; exact hn106_1) | (show (Addr.add _ _).block ≠ _; rw [add_block]; exact hn106_1) | exact hn106_1) (.int .i64 ((rd_T66 (rd_L66 l0 x2_1) x20_2).f1))).trans hx106_0; (try have hy106_0 := fun (n_ : Nat) => (show ((((w17.drewN n_).setCell ⟨gb104, 0, none⟩ (.int .i64 ((rd_T66 (rd_L66 l0 x2_1) x20_2).f0))).setCell ⟨gb104, 1, none⟩ (.int .i64 ((rd_T66 (rd_L66 l0 x2_1) x20_2).f1)))).cell? _ = some _ from hx106_0)); clear hn106_0; clear hn106_1; replace p106 := eq_true p106; replace q106 := eq_true q106) | ((with_reducible refine gate_builtin (b := .append) (xs := #[.tmp 35, .tmp 38]) rfl ?_); at_builtin; refine Kd.R_append (Kd.int .i64) (w0 := w) w.heap.size rfl (.tmp 35) (.tmp 38) 28 3 (.int .i64 0) 8 rfl Try.underlying28 info3 rfl (by decide) (by omega) u7 x7_2 ((rd_T66 (rd_L66 l0 x2_1) x20_2).f0) [.int .i64 ((rd_T66 (rd_L66 l0 x2_1) x20_2).f0)] (fun _ => True) (fun _ => False) rfl (by first | (go_simp; done) | (go_simp; rfl)) ?aP (fun _ hk => hk.elim) ?aF ?aO ?aB ?aS ?aL ?_; (case aP => exact rfl); (case aB => exact (tB)); (case aF => exact (fun _ _ => trivial)); (case aO => exact (by (with_reducible repeat (first | apply Kd.R_alloc | apply Kd.R_drewN | apply Kd.R_drew)); exact Kd.R_mono (Kd.R_far (p := ⟨gb104, 1, none⟩) (Kd.R_far (p := ⟨gb104, 0, none⟩) (Kd.R_types HO_7.out BK104.out (by decide)) (fun _ hk => hk.2) (.int .i64 ((rd_T66 (rd_L66 l0 x2_1) x20_2).f0))) (fun _ hk => hk.2) (.int .i64 ((rd_T66 (rd_L66 l0 x2_1) x20_2).f1))) (fun _ hk => trivial))); (case aS => exact (below_size (tB))); (case aL => have := LMc16.out; omega); intro v108 w19 ho hb hg hat; rw [← Ny107.out] at ho; have n0_ := Aside0.mk (blk_grown (g := gb104) (o := .cells #[.int .i64 ((rd_T66 (rd_L66 l0 x2_1) x20_2).f0), .int .i64 ((rd_T66 (rd_L66 l0 x2_1) x20_2).f1)] 66 (0, 0)) (by (with_reducible repeat (first | refine blk_drewN ?_ _ | refine blk_drew ?_ | refine blk_alloc ?_ _)); refine blk_put (cs := #[.int .i64 ((rd_T66 (rd_L66 l0 x2_1) x20_2).f0), .int .i64 0]) ?_ 1 _ rfl; (with_reducible repeat (first | refine blk_drewN ?_ _ | refine blk_drew ?_ | refine blk_alloc ?_ _)); refine blk_put (cs := #[.int .i64 0, .int .i64 0]) ?_ 0 _ rfl; (with_reducible repeat (first | refine blk_drewN ?_ _ | refine blk_drew ?_ | refine blk_alloc ?_ _)); exact BK104.out) hg (Kd.R_ne HO_7.out BK104.out (by decide))); have n1_ := Aside0.mk (hb); have n2_ := Aside0.mk (ho); clear BK104; clear HB; clear HO_7; have BK104 := n0_; have HB := n1_; have HO109 := n2_; clear n0_ n1_ n2_; clear ho hb hg hat; have hcz20_0 : w19.cell? ⟨gb104, 0, none⟩ = some (.int .i64 ((rd_T66 (rd_L66 l0 x2_1) x20_2).f0)) := (blk_cell BK104.out 0).trans rfl; have hcz20_1 : w19.cell? ⟨gb104, 1, none⟩ = some (.int .i64 ((rd_T66 (rd_L66 l0 x2_1) x20_2).f1)) := (blk_cell BK104.out 1).trans rfl; have hfz20_0 := blk_frozen BK104.out 0; have hfz20_1 := blk_frozen BK104.out 1)))
                  go_roundg k2
                  case measure => have := HK1.out; have := HK2.out; omega
                  case rel => exact ⟨((rd_T66 (rd_L66 l0 x2_1) x20_2).f1), (y107), (by first | rfl | (simp; done) | (simp [*]; done)), H', ⟨by have := HK1.out; have := HK2.out; omega⟩, ⟨tR HO109⟩, ⟨tB⟩⟩
                 ·rw [if_neg c16] at H
                  exact absurd H (by simp)
                ·rw [if_neg c15] at H
                 have c15b0 : ((rd l1 ((rd_T66 (rd_L66 l0 x2_1) x20_2).f1)) == (wrap64 ((rd l1 x2_2) - 1))) = false := beq_eq_false_iff_ne.mpr c15
                 have c15b1 : ((rd l1 ((rd_T66 (rd_L66 l0 x2_1) x20_2).f1)) != (wrap64 ((rd l1 x2_2) - 1))) = true := bne_iff_ne.mpr c15
                 have H' := Aside0.mk H
                 clear H
                 have p103 : 0 ≤ (x20_2 : Int) := tD
                 have q103 : x20_2 < ((rd_L66 l0 x2_1).length : Int) := tD
                 obtain ⟨ad103, e103, hx103_0, hx103_1⟩ := at_T66 HR102_0.out x20_2 p103 q103
                 cases e103
                 replace hx103_0 := (HB.out.cell (World.block_lt_of_cell? w _ hx103_0)).trans hx103_0
                 replace hx103_1 := (HB.out.cell (World.block_lt_of_cell? w _ hx103_1)).trans hx103_1
                 replace p103 := eq_true p103
                 replace q103 := eq_true q103
                 go_wp2_with (first | go_step3 | ((with_reducible refine gate_dst (N := 9) rfl ?_); refine box_event ?hg (N := 9) ?hd (cs := #[.int .i64 0, .int .i64 0]) (t := 66) ?hr ?_; (case hd => rfl); (case hg => rfl); (case hr => first | (go_simp; done) | (go_simp; rfl)); intro gb104 hg w21 hbox hb; have n0_ := Aside0.mk (Kd.R_below (tR HO_7) hb); have n1_ := Aside0.mk (below_step (tB) hb); have n2_ := Aside0.mk (hbox); have n3_ := Aside0.mk ((by rw [hg]; exact (below_size (tB)) : w.heap.size ≤ gb104)); have n4_ := Aside0.mk ((by rw [hg]; exact (below_size (tB)) : w.heap.size ≤ gb104)); clear HO_7; clear HB; have HO_7 := n0_; have HB := n1_; have BK104 := n2_; have GW104 := n3_; have GE104 := n4_; clear n0_ n1_ n2_ n3_ n4_; clear hb hbox hg; have hcz22_0 : w21.cell? ⟨gb104, 0, none⟩ = some (.int .i64 0) := (blk_cell BK104.out 0).trans rfl; have hcz22_1 : w21.cell? ⟨gb104, 1, none⟩ = some (.int .i64 0) := (blk_cell BK104.out 1).trans rfl; have hfz22_0 := blk_frozen BK104.out 0; have hfz22_1 := blk_frozen BK104.out 1; have p105 : 0 ≤ (((rd_T66 (rd_L66 l0 x2_1) x20_2).f1) : Int) := tD; have q105 : ((rd_T66 (rd_L66 l0 x2_1) x20_2).f1) < (l1.length : Int) := tD; obtain ⟨ad105, e105, hx105_0⟩ := Kd.at_int HR1.out ((rd_T66 (rd_L66 l0 x2_1) x20_2).f1) p105 q105; obtain rfl : ad101 = ad105 := (by injection e105); have hn105_0 : ad101.block ≠ gb104 := Nat.ne_of_lt (Nat.lt_of_lt_of_le (by have := World.block_lt_of_cell? _ _ hx105_0; first | rwa [add_block] at this | exact this) GW104.out); have hn105_1 : ad101.block ≠ gb104 := Nat.ne_of_lt (Nat.lt_of_lt_of_le (by have := World.block_lt_of_cell? _ _ hx105_0; first | rwa [add_block] at this | exact this) GW104.out); replace hx105_0 := (HB.out.cell (World.block_lt_of_cell? w _ hx105_0)).trans hx105_0; replace hx105_0 := (cell_far (p := ⟨gb104, 0, none⟩) (by first | (rw [add_block]; exact hn105_0) | (show (Addr.add _ _).block ≠ _; rw [add_block]; exact hn105_0) | exact hn105_0) (.int .i64 ((rd_T66 (rd_L66 l0 x2_1) x20_2).f0))).trans hx105_0; replace hx105_0 := (cell_far (p := ⟨gb104, 1, none⟩) (by first | (rw [add_block]; exact hn105_1) | (show (Addr.add _ _).block ≠ _; rw [add_block]; exact hn105_1) | exact hn105_1) (.int .i64 ((rd_T66 (rd_L66 l0 x2_1) x20_2).f1))).trans hx105_0; (try have hy105_0 := fun (n_ : Nat) => (show ((((w21.drewN n_).setCell ⟨gb104, 0, none⟩ (.int .i64 ((rd_T66 (rd_L66 l0 x2_1) x20_2).f0))).setCell ⟨gb104, 1, none⟩ (.int .i64 ((rd_T66 (rd_L66 l0 x2_1) x20_2).f1)))).cell? _ = some _ from hx105_0)); clear hn105_0; clear hn105_1; replace p105 := eq_true p105; replace q105 := eq_true q105; have p106 : 0 ≤ (x2_2 : Int) := tD; have q106 : x2_2 < (l1.length : Int) := tD; obtain ⟨ad106, e106, hx106_0⟩ := Kd.at_int HR1.out x2_2 p106 q106; obtain rfl : ad101 = ad106 := (by injection e106); have hn106_0 : ad101.block ≠ gb104 := Nat.ne_of_lt (Nat.lt_of_lt_of_le (by have := World.block_lt_of_cell? _ _ hx106_0; first | rwa [add_block] at this | exact this) GW104.out); have hn106_1 : ad101.block ≠ gb104 := Nat.ne_of_lt (Nat.lt_of_lt_of_le (by have := World.block_lt_of_cell? _ _ hx106_0; first | rwa [add_block] at this | exact this) GW104.out); replace hx106_0 := (HB.out.cell (World.block_lt_of_cell? w _ hx106_0)).trans hx106_0; replace hx106_0 := (cell_far (p := ⟨gb104, 0, none⟩) (by first | (rw [add_block]; exact hn106_0) | (show (Addr.add _ _).block ≠ _; rw [add_block]; exact hn106_0) | exact hn106_0) (.int .i64 ((rd_T66 (rd_L66 l0 x2_1) x20_2).f0))).trans hx106_0; replace hx106_0 := (cell_far (p := ⟨gb104, 1, none⟩) (by first | (rw [add_block]; exact hn106_1) | (show (Addr.add _ _).block ≠ _; rw [add_block]; exact hn106_1) | exact hn106_1) (.int .i64 ((rd_T66 (rd_L66 l0 x2_1) x20_2).f1))).trans hx106_0; (try have hy106_0 := fun (n_ : Nat) => (show ((((w21.drewN n_).setCell ⟨gb104, 0, none⟩ (.int .i64 ((rd_T66 (rd_L66 l0 x2_1) x20_2).f0))).setCell ⟨gb104, 1, none⟩ (.int .i64 ((rd_T66 (rd_L66 l0 x2_1) x20_2).f1)))).cell? _ = some _ from hx106_0)); clear hn106_0; clear hn106_1; replace p106 := eq_true p106; replace q106 := eq_true q106))
                 repeat (go_quiet (first | ((with_reducible refine gate_dst (N := 9) rfl ?_); refine box_event ?hg (N := 9) ?hd (cs := #[.int .i64 0, .int .i64 0]) (t := 66) ?hr ?_; (case hd => rfl); (case hg => rfl); (case hr => first | (go_simp; done) | (go_simp; rfl)); intro gb104 hg w21 hbox hb; have n0_ := Aside0.mk (Kd.R_below (tR HO_7) hb); have n1_ := Aside0.mk (below_step (tB) hb); have n2_ := Aside0.mk (hbox); have n3_ := Aside0.mk ((by rw [hg]; exact (below_size (tB)) : w.heap.size ≤ gb104)); have n4_ := Aside0.mk ((by rw [hg]; exact (below_size (tB)) : w.heap.size ≤ gb104)); clear HO_7; clear HB; have HO_7 := n0_; have HB := n1_; have BK104 := n2_; have GW104 := n3_; have GE104 := n4_; clear n0_ n1_ n2_ n3_ n4_; clear hb hbox hg; have hcz22_0 : w21.cell? ⟨gb104, 0, none⟩ = some (.int .i64 0) := (blk_cell BK104.out 0).trans rfl; have hcz22_1 : w21.cell? ⟨gb104, 1, none⟩ = some (.int .i64 0) := (blk_cell BK104.out 1).trans rfl; have hfz22_0 := blk_frozen BK104.out 0; have hfz22_1 := blk_frozen BK104.out 1; have p105 : 0 ≤ (((rd_T66 (rd_L66 l0 x2_1) x20_2).f1) : Int) := tD; have q105 : ((rd_T66 (rd_L66 l0 x2_1) x20_2).f1) < (l1.length : Int) := tD; obtain ⟨ad105, e105, hx105_0⟩ := Kd.at_int HR1.out ((rd_T66 (rd_L66 l0 x2_1) x20_2).f1) p105 q105; obtain rfl : ad101 = ad105 := (by injection e105); have hn105_0 : ad101.block ≠ gb104 := Nat.ne_of_lt (Nat.lt_of_lt_of_le (by have := World.block_lt_of_cell? _ _ hx105_0; first | rwa [add_block] at this | exact this) GW104.out); have hn105_1 : ad101.block ≠ gb104 := Nat.ne_of_lt (Nat.lt_of_lt_of_le (by have := World.block_lt_of_cell? _ _ hx105_0; first | rwa [add_block] at this | exact this) GW104.out); replace hx105_0 := (HB.out.cell (World.block_lt_of_cell? w _ hx105_0)).trans hx105_0; replace hx105_0 := (cell_far (p := ⟨gb104, 0, none⟩) (by first | (rw [add_block]; exact hn105_0) | (show (Addr.add _ _).block ≠ _; rw [add_block]; exact hn105_0) | exact hn105_0) (.int .i64 ((rd_T66 (rd_L66 l0 x2_1) x20_2).f0))).trans hx105_0; replace hx105_0 := (cell_far (p := ⟨gb104, 1, none⟩) (by first | (rw [add_block]; exact hn105_1) | (show (Addr.add _ _).block ≠ _; rw [add_block]; exact hn105_1) | exact hn105_1) (.int .i64 ((rd_T66 (rd_L66 l0 x2_1) x20_2).f1))).trans hx105_0; (try have hy105_0 := fun (n_ : Nat) => (show ((((w21.drewN n_).setCell ⟨gb104, 0, none⟩ (.int .i64 ((rd_T66 (rd_L66 l0 x2_1) x20_2).f0))).setCell ⟨gb104, 1, none⟩ (.int .i64 ((rd_T66 (rd_L66 l0 x2_1) x20_2).f1)))).cell? _ = some _ from hx105_0)); clear hn105_0; clear hn105_1; replace p105 := eq_true p105; replace q105 := eq_true q105; have p106 : 0 ≤ (x2_2 : Int) := tD; have q106 : x2_2 < (l1.length : Int) := tD; obtain ⟨ad106, e106, hx106_0⟩ := Kd.at_int HR1.out x2_2 p106 q106; obtain rfl : ad101 = ad106 := (by injection e106); have hn106_0 : ad101.block ≠ gb104 := Nat.ne_of_lt (Nat.lt_of_lt_of_le (by have := World.block_lt_of_cell? _ _ hx106_0; first | rwa [add_block] at this | exact this) GW104.out); have hn106_1 : ad101.block ≠ gb104 := Nat.ne_of_lt (Nat.lt_of_lt_of_le (by have := World.block_lt_of_cell? _ _ hx106_0; first | rwa [add_block] at this | exact this) GW104.out); replace hx106_0 := (HB.out.cell (World.block_lt_of_cell? w _ hx106_0)).trans hx106_0; replace hx106_0 := (cell_far (p := ⟨gb104, 0, none⟩) (by first | (rw [add_block]; exact hn106_0) | (show (Addr.add _ _).block ≠ _; rw [add_block]; exact hn106_0) | exact hn106_0) (.int .i64 ((rd_T66 (rd_L66 l0 x2_1) x20_2).f0))).trans hx106_0; replace hx106_0 := (cell_far (p := ⟨gb104, 1, none⟩) (by first | (rw [add_block]; exact hn106_1) | (show (Addr.add _ _).block ≠ _; rw [add_block]; exact hn106_1) | exact hn106_1) (.int .i64 ((rd_T66 (rd_L66 l0 x2_1) x20_2).f1))).trans hx106_0; (try have hy106_0 := fun (n_ : Nat) => (show ((((w21.drewN n_).setCell ⟨gb104, 0, none⟩ (.int .i64 ((rd_T66 (rd_L66 l0 x2_1) x20_2).f0))).setCell ⟨gb104, 1, none⟩ (.int .i64 ((rd_T66 (rd_L66 l0 x2_1) x20_2).f1)))).cell? _ = some _ from hx106_0)); clear hn106_0; clear hn106_1; replace p106 := eq_true p106; replace q106 := eq_true q106)); try go_wp2_with (first | go_step3 | ((with_reducible refine gate_dst (N := 9) rfl ?_); refine box_event ?hg (N := 9) ?hd (cs := #[.int .i64 0, .int .i64 0]) (t := 66) ?hr ?_; (case hd => rfl); (case hg => rfl); (case hr => first | (go_simp; done) | (go_simp; rfl)); intro gb104 hg w21 hbox hb; have n0_ := Aside0.mk (Kd.R_below (tR HO_7) hb); have n1_ := Aside0.mk (below_step (tB) hb); have n2_ := Aside0.mk (hbox); have n3_ := Aside0.mk ((by rw [hg]; exact (below_size (tB)) : w.heap.size ≤ gb104)); have n4_ := Aside0.mk ((by rw [hg]; exact (below_size (tB)) : w.heap.size ≤ gb104)); clear HO_7; clear HB; have HO_7 := n0_; have HB := n1_; have BK104 := n2_; have GW104 := n3_; have GE104 := n4_; clear n0_ n1_ n2_ n3_ n4_; clear hb hbox hg; have hcz22_0 : w21.cell? ⟨gb104, 0, none⟩ = some (.int .i64 0) := (blk_cell BK104.out 0).trans rfl; have hcz22_1 : w21.cell? ⟨gb104, 1, none⟩ = some (.int .i64 0) := (blk_cell BK104.out 1).trans rfl; have hfz22_0 := blk_frozen BK104.out 0; have hfz22_1 := blk_frozen BK104.out 1; have p105 : 0 ≤ (((rd_T66 (rd_L66 l0 x2_1) x20_2).f1) : Int) := tD; have q105 : ((rd_T66 (rd_L66 l0 x2_1) x20_2).f1) < (l1.length : Int) := tD; obtain ⟨ad105, e105, hx105_0⟩ := Kd.at_int HR1.out ((rd_T66 (rd_L66 l0 x2_1) x20_2).f1) p105 q105; obtain rfl : ad101 = ad105 := (by injection e105); have hn105_0 : ad101.block ≠ gb104 := Nat.ne_of_lt (Nat.lt_of_lt_of_le (by have := World.block_lt_of_cell? _ _ hx105_0; first | rwa [add_block] at this | exact this) GW104.out); have hn105_1 : ad101.block ≠ gb104 := Nat.ne_of_lt (Nat.lt_of_lt_of_le (by have := World.block_lt_of_cell? _ _ hx105_0; first | rwa [add_block] at this | exact this) GW104.out); replace hx105_0 := (HB.out.cell (World.block_lt_of_cell? w _ hx105_0)).trans hx105_0; replace hx105_0 := (cell_far (p := ⟨gb104, 0, none⟩) (by first | (rw [add_block]; exact hn105_0) | (show (Addr.add _ _).block ≠ _; rw [add_block]; exact hn105_0) | exact hn105_0) (.int .i64 ((rd_T66 (rd_L66 l0 x2_1) x20_2).f0))).trans hx105_0; replace hx105_0 := (cell_far (p := ⟨gb104, 1, none⟩) (by first | (rw [add_block]; exact hn105_1) | (show (Addr.add _ _).block ≠ _; rw [add_block]; exact hn105_1) | exact hn105_1) (.int .i64 ((rd_T66 (rd_L66 l0 x2_1) x20_2).f1))).trans hx105_0; (try have hy105_0 := fun (n_ : Nat) => (show ((((w21.drewN n_).setCell ⟨gb104, 0, none⟩ (.int .i64 ((rd_T66 (rd_L66 l0 x2_1) x20_2).f0))).setCell ⟨gb104, 1, none⟩ (.int .i64 ((rd_T66 (rd_L66 l0 x2_1) x20_2).f1)))).cell? _ = some _ from hx105_0)); clear hn105_0; clear hn105_1; replace p105 := eq_true p105; replace q105 := eq_true q105; have p106 : 0 ≤ (x2_2 : Int) := tD; have q106 : x2_2 < (l1.length : Int) := tD; obtain ⟨ad106, e106, hx106_0⟩ := Kd.at_int HR1.out x2_2 p106 q106; obtain rfl : ad101 = ad106 := (by injection e106); have hn106_0 : ad101.block ≠ gb104 := Nat.ne_of_lt (Nat.lt_of_lt_of_le (by have := World.block_lt_of_cell? _ _ hx106_0; first | rwa [add_block] at this | exact this) GW104.out); have hn106_1 : ad101.block ≠ gb104 := Nat.ne_of_lt (Nat.lt_of_lt_of_le (by have := World.block_lt_of_cell? _ _ hx106_0; first | rwa [add_block] at this | exact this) GW104.out); replace hx106_0 := (HB.out.cell (World.block_lt_of_cell? w _ hx106_0)).trans hx106_0; replace hx106_0 := (cell_far (p := ⟨gb104, 0, none⟩) (by first | (rw [add_block]; exact hn106_0) | (show (Addr.add _ _).block ≠ _; rw [add_block]; exact hn106_0) | exact hn106_0) (.int .i64 ((rd_T66 (rd_L66 l0 x2_1) x20_2).f0))).trans hx106_0; replace hx106_0 := (cell_far (p := ⟨gb104, 1, none⟩) (by first | (rw [add_block]; exact hn106_1) | (show (Addr.add _ _).block ≠ _; rw [add_block]; exact hn106_1) | exact hn106_1) (.int .i64 ((rd_T66 (rd_L66 l0 x2_1) x20_2).f1))).trans hx106_0; (try have hy106_0 := fun (n_ : Nat) => (show ((((w21.drewN n_).setCell ⟨gb104, 0, none⟩ (.int .i64 ((rd_T66 (rd_L66 l0 x2_1) x20_2).f0))).setCell ⟨gb104, 1, none⟩ (.int .i64 ((rd_T66 (rd_L66 l0 x2_1) x20_2).f1)))).cell? _ = some _ from hx106_0)); clear hn106_0; clear hn106_1; replace p106 := eq_true p106; replace q106 := eq_true q106)))
                 go_roundg k2
                 case measure => have := HK1.out; have := HK2.out; omega
                 case rel => exact ⟨(x2_2), (x7_2), (wrap64 (x20_2 + 1)), (by first | rfl | (simp; done) | (simp [*]; done)), (by first | rfl | (simp; done) | (simp [*]; done)), H', ⟨by have := HK1.out; have := HK2.out; omega⟩, ⟨by (with_reducible repeat (first | apply Kd.R_alloc | apply Kd.R_drewN | apply Kd.R_drew)); exact Kd.R_mono (Kd.R_far (p := ⟨gb104, 1, none⟩) (Kd.R_far (p := ⟨gb104, 0, none⟩) (Kd.R_types HO_7.out BK104.out (by decide)) (fun _ hk => hk.2) (.int .i64 ((rd_T66 (rd_L66 l0 x2_1) x20_2).f0))) (fun _ hk => hk.2) (.int .i64 ((rd_T66 (rd_L66 l0 x2_1) x20_2).f1))) (fun _ hk => trivial)⟩, ⟨tB⟩⟩
               ·rw [if_neg c14] at H
                exact absurd H (by simp)
              ·rw [if_neg c13] at H
               exact absurd H (by simp)
             ·rw [if_neg c12] at H
              exact absurd H (by simp)
            ·rw [if_neg c11] at H
             exact absurd H (by simp)
           ·rw [if_neg c10] at H
            exact absurd H (by simp)
          ·rw [if_neg c9] at H
           exact absurd H (by simp)
         ·rw [if_neg c8] at H
          have c8b0 : decide (x20_2 < ((rd_L66 l0 x2_1).length : Int)) = false := decide_eq_false c8
          clear c8
          have H' := Aside0.mk H
          clear H
          go_wp2_with go_step3
          repeat (go_quiet (fail); try go_wp2_with go_step3)
          go_roundg k2
          case measure => have := HK1.out; have := HK2.out; omega
          case rel => exact ⟨(x2_2), (x7_2), (by first | rfl | (simp; done) | (simp [*]; done)), H', ⟨by have := HK1.out; have := HK2.out; omega⟩, ⟨tR HO_7⟩, ⟨tB⟩⟩
      ·rw [if_neg c7] at H
       exact absurd H (by simp)
     ·rw [if_neg c6] at H
      have c6b0 : decide (0 < (rd l1 x2_1)) = false := decide_eq_false c6
      clear c6
      obtain rfl := Option.some.inj H
      have p101 : 0 ≤ (x2_1 : Int) := tD
      have q101 : x2_1 < (l1.length : Int) := tD
      obtain ⟨ad101, e101, hx101_0⟩ := Kd.at_int HR1.out x2_1 p101 q101
      cases e101
      replace hx101_0 := (HB.out.cell (World.block_lt_of_cell? w _ hx101_0)).trans hx101_0
      replace p101 := eq_true p101
      replace q101 := eq_true q101
      go_wp2_with go_step3
      repeat (go_quiet (fail); try go_wp2_with go_step3)
      ((try rw [Exit.noGoto_ret]); go_ret)
      exact ⟨_, tE, by (with_reducible repeat (first | apply Kd.R_alloc | apply Kd.R_drewN | apply Kd.R_drew)); exact HO_7.out, tB⟩
    ·rw [if_neg c5] at H
     exact absurd H (by simp)
   ·rw [if_neg c4] at H
    exact absurd H (by simp)
end Go.Proofs.Ytfnjbgggmddgpaa.Q
end
section
namespace Go.Proofs.Ytfnjbgggmddgpaa.Q
open Go.RowKit Go.Proofs.Fn Go.Proofs.YtfnjbgggmddgpaaW.PrintWords Go.Proofs.YtfnjbgggmddgpaaW.PrintLast Go.Proofs.YtfnjbgggmddgpaaW.PrintMore
attribute [local go_sem] max2_int min2_int max_two min_two max_three min_three max_four min_four
set_option linter.unusedVariables false
set_option linter.unusedSimpArgs false
def witness_search.j0 : Nat → List (List (S66)) → Int → (Int → Option Bool) → Bool → Option (List Int × Bool)
 | 0, _, _, _, _ => none
 | k + 1, x0, x1, x2, x16 => if x16 = true then (some (([] : List Int), false)) else ((witness_distances.f k x0 x2).bind fun t101 => (if 0 ≤ x1 then (if x1 < (t101.length : Int) then (if (rd t101 x1) < 0 then (some (([] : List Int), false)) else ((witness_follow.f k x0 t101 x1).bind fun t105 => (some (t105, true)))) else (none)) else (none)))
def witness_search.f (k : Nat) (l0 : List (List (S66))) (a1 : Int) (a2 : (Int → Option Bool)) : Option (List Int × Bool) := if a1 < 0 then (witness_search.j0 k l0 a1 a2 true) else (witness_search.j0 k l0 a1 a2 (decide (a1 ≥ (l0.length : Int))))
theorem witness_search.mono_l : ∀ k, (∀ y0 y1 y2 y3, LeO (witness_search.j0 k y0 y1 y2 y3) (witness_search.j0 (k + 1) y0 y1 y2 y3))
 | 0 => fun _ _ _ _ r h => by simp [witness_search.j0] at h
 | k + 1 => by
  have ih0 := witness_search.mono_l k
  ·intro y0 y1 y2 y3
   unfold witness_search.j0
   repeat' first
   | (with_reducible exact ih0 _ _ _ _)
   | (with_reducible exact witness_distances.mono _ _ _)
   | (with_reducible exact witness_follow.mono _ _ _ _)
   | (with_reducible exact LeO.refl _)
   | (with_reducible exact LeO.none _)
   | (with_reducible refine LeO.ite ?_ ?_)
   | (with_reducible refine LeO.bind ?_ (fun _ => ?_))
   | exact ih0 _ _ _ _
   | exact witness_distances.mono _ _ _
   | exact witness_follow.mono _ _ _ _
   | exact LeO.none _
   | refine LeO.ite ?_ ?_
   | refine LeO.bind ?_ (fun _ => ?_)
theorem witness_search.mono : ∀ a0 a1 a2 k, LeO (witness_search.f k a0 a1 a2) (witness_search.f (k + 1) a0 a1 a2) := by
 intro a0 a1 a2 k
 have ih0 := witness_search.mono_l k
 unfold witness_search.f
 repeat' first
   | (with_reducible exact ih0 _ _ _ _)
   | (with_reducible exact witness_distances.mono _ _ _)
   | (with_reducible exact witness_follow.mono _ _ _ _)
   | (with_reducible exact LeO.refl _)
   | (with_reducible exact LeO.none _)
   | (with_reducible refine LeO.ite ?_ ?_)
   | (with_reducible refine LeO.bind ?_ (fun _ => ?_))
   | exact ih0 _ _ _ _
   | exact witness_distances.mono _ _ _
   | exact witness_follow.mono _ _ _ _
   | exact LeO.none _
   | refine LeO.ite ?_ ?_
   | refine LeO.bind ?_ (fun _ => ?_)
set_option maxHeartbeats 8000000 in
set_option maxRecDepth 100000 in
theorem witness_search.calls (k : Nat) (A0 : Option Addr) (c0 : Nat) (l0 : List (List (S66))) (a1 : Int) (a2 : Int → Option Bool) (F2 : Nat) (C2 : Array Value) (r1 : List Int) (r2 : Bool) (w : World) (hr0 : Kd.C (Kd.slice 66 k66) w A0 l0.length l0) (hc0 : l0.length ≤ c0) (hF2 : FnB Try.prog F2 C2 w a2) (h : witness_search.f k l0 a1 a2 = some (r1, r2)) :
  Calls Try.prog 35 #[.slice A0 l0.length c0, .int .i64 a1, .func (.func F2) #[] C2] w fun e w' => ∃ v0_ : Value, e = .returned (.tuple #[v0_, .bool r2]) ∧ Kd.R (Kd.int .i64) 3 w' w.heap.size (fun _ => True) v0_ r1 ∧ Below w.heap.size w w' := by
 have HR0 := Aside0.mk hr0
 have HC0 := Aside0.mk hc0
 clear hr0 hc0
 have HF2 := Aside0.mk hF2
 clear hF2
 have HB := Aside0.mk (Below.refl w.heap.size w)
 have H : (if a1 < 0 then (witness_search.j0 k l0 a1 a2 true) else (witness_search.j0 k l0 a1 a2 (decide (a1 ≥ (l0.length : Int))))) = some (r1, r2) := h
 clear h
 have HC4 := Aside0.mk H
 clear H
 go_enter Try.func35, Try.ntmps35
 go_upto_region 1 with (fail)
 go_cut [16] (fun v16 wc => ∃ (kq : Nat) (x16_3 : Bool), v16 = .bool x16_3 ∧ Aside0 (witness_search.j0 kq l0 a1 a2 x16_3 = some (r1, r2)) ∧ Aside0 (kq ≤ k) ∧ Aside0 (Below w.heap.size w wc))
 case first =>
  have H := HC4.out
  clear HC4
  by_cases c5 : a1 < 0
  ·rw [if_pos c5] at H
   have c5b0 : decide (a1 < 0) = true := decide_eq_true c5
   clear c5
   (first | rw [c5b0] | (simp only [i64_w, i32_w]; rw [c5b0]) | skip)
   have H' := Aside0.mk H
   clear H
   go_wp2
   go_meet
   case rel => exact ⟨_, (true), (by first | rfl | (simp; done) | (simp [*]; done)), H', ⟨by first | omega | exact Nat.le_refl _⟩, ⟨tB⟩⟩
  ·rw [if_neg c5] at H
   have c5b0 : decide (a1 < 0) = false := decide_eq_false c5
   clear c5
   (first | rw [c5b0] | (simp only [i64_w, i32_w]; rw [c5b0]) | skip)
   have H' := Aside0.mk H
   clear H
   go_wp2
   go_meet
   case rel => exact ⟨_, (decide (a1 ≥ (l0.length : Int))), (by first | rfl | (simp; done) | (simp [*]; done)), H', ⟨by first | omega | exact Nat.le_refl _⟩, ⟨tB⟩⟩
 case rest =>
  clear HC4
  try clear p2
  try clear c3
  try clear c5
  try clear c5b0
  obtain ⟨kq, x16_3, rfl, HA, HJ3, HB⟩ := hcut
  cases kq with
  | zero => exact absurd HA.out (by simp [witness_search.j0])
  | succ kj3 =>
   have H := HA.out
   clear HA
   simp only [witness_search.j0] at H
   by_cases c6 : x16_3 = true
   ·subst c6
    have H1 : (some (([] : List Int), false)) = some (r1, r2) := by rw [if_pos rfl] at H; exact H
    clear H
    have H := H1
    clear H1
    simp only [Option.some.injEq, Prod.mk.injEq] at H
    obtain ⟨rfl, rfl⟩ := H
    go_wp2
    go_ret2
    exact ⟨_, tE, by first | exact Kd.R_nil _ _ _ _ _ | exact Kd.N_nil _ _ _ _ _ | exact Kd.V_nil _ _ _ _ _ | exact Kd.Q_nil _ _ _ _ _ | exact Kd.S_nil _ _ _ _ _, tB⟩
   ·replace c6 := Bool.eq_false_iff.mpr c6
    subst c6
    have H1 : ((witness_distances.f kj3 l0 a2).bind fun t101 => (if 0 ≤ a1 then (if a1 < (t101.length : Int) then (if (rd t101 a1) < 0 then (some (([] : List Int), false)) else ((witness_follow.f kj3 l0 t101 a1).bind fun t105 => (some (t105, true)))) else (none)) else (none))) = some (r1, r2) := by rw [if_neg (show ¬ (false = true) by decide)] at H; exact H
    clear H
    have H := H1
    clear H1
    replace H := Option.bind_eq_some_iff.mp H
    obtain ⟨t101, A70, H⟩ := H
    replace H : (if 0 ≤ a1 then (if a1 < (t101.length : Int) then (if (rd t101 a1) < 0 then (some (([] : List Int), false)) else ((witness_follow.f kj3 l0 t101 a1).bind fun t105 => (some (t105, true)))) else (none)) else (none)) = some (r1, r2) := H
    have A7 := Aside0.mk A70
    clear A70
    by_cases c8 : 0 ≤ a1
    ·rw [if_pos c8] at H
     have c8b0 : decide (0 ≤ a1) = true := decide_eq_true c8
     clear c8
     by_cases c9 : a1 < (t101.length : Int)
     ·rw [if_pos c9] at H
      have c9b0 : decide (a1 < (t101.length : Int)) = true := decide_eq_true c9
      clear c9
      by_cases c10 : (rd t101 a1) < 0
      ·rw [if_pos c10] at H
       have c10b0 : decide ((rd t101 a1) < 0) = true := decide_eq_true c10
       clear c10
       simp only [Option.some.injEq, Prod.mk.injEq] at H
       obtain ⟨rfl, rfl⟩ := H
       go_wp2_with (first | ((with_reducible refine gate_callee (f := 53) rfl ?_); refine goesL_ (some 19) rfl rfl Try.func53 (by kernel_rfl) rfl #[.slice A0 l0.length c0, .func (.func F2) #[] C2] rfl (by (try simp only [List.map_toArray, List.map_cons, List.map_nil]); first | done | rfl | (simp only [List.length_drop, List.length_take]; rfl)) ?_; (with_reducible refine (witness_distances.calls kj3 _ _ l0 a2 _ _ t101 _ ?side1 ?side2 ?side3 A7.out).mono ?_); (case side1 => exact tC (Kd.C_below HR0.out HB.out)); (case side2 => exact HC0.out); (case side3 => exact FnB.below HF2.out (tB)); rintro e w11 ⟨v102, rfl, ho0, hb⟩; refine ⟨_, rfl, ?_⟩; have n0_ := Aside0.mk (Kd.R_lower ho0 (below_size (tB))); have n1_ := Aside0.mk (below_step (tB) hb); clear HB; have HO103 := n0_; have HB := n1_; clear n0_ n1_; (try clear hb); (try clear hb2); (try clear hk); (try clear hi); (try clear ho0); obtain ⟨Ao12, co12, eo12⟩ := Kd.R_slice HO103.out; subst eo12; have p104 : 0 ≤ (a1 : Int) := tD; have q104 : a1 < (t101.length : Int) := tD; obtain ⟨ad104, e104, hx104_0⟩ := Kd.at_int (Kd.R_reads' HO103.out).2.2 a1 p104 q104; cases e104; replace p104 := eq_true p104; replace q104 := eq_true q104))
       go_ret2
       exact ⟨_, tE, by first | exact Kd.R_nil _ _ _ _ _ | exact Kd.N_nil _ _ _ _ _ | exact Kd.V_nil _ _ _ _ _ | exact Kd.Q_nil _ _ _ _ _ | exact Kd.S_nil _ _ _ _ _, tB⟩
      ·rw [if_neg c10] at H
       have c10b0 : decide ((rd t101 a1) < 0) = false := decide_eq_false c10
       clear c10
       replace H := Option.bind_eq_some_iff.mp H
       obtain ⟨t105, A130, H⟩ := H
       replace H : (some (t105, true)) = some (r1, r2) := H
       have A13 := Aside0.mk A130
       clear A130
       simp only [Option.some.injEq, Prod.mk.injEq] at H
       obtain ⟨rfl, rfl⟩ := H
       go_wp2_with (first | ((with_reducible refine gate_callee (f := 53) rfl ?_); refine goesL_ (some 19) rfl rfl Try.func53 (by kernel_rfl) rfl #[.slice A0 l0.length c0, .func (.func F2) #[] C2] rfl (by (try simp only [List.map_toArray, List.map_cons, List.map_nil]); first | done | rfl | (simp only [List.length_drop, List.length_take]; rfl)) ?_; (with_reducible refine (witness_distances.calls kj3 _ _ l0 a2 _ _ t101 _ ?side1 ?side2 ?side3 A7.out).mono ?_); (case side1 => exact tC (Kd.C_below HR0.out HB.out)); (case side2 => exact HC0.out); (case side3 => exact FnB.below HF2.out (tB)); rintro e w14 ⟨v102, rfl, ho0, hb⟩; refine ⟨_, rfl, ?_⟩; have n0_ := Aside0.mk (Kd.R_lower ho0 (below_size (tB))); have n1_ := Aside0.mk (below_step (tB) hb); clear HB; have HO103 := n0_; have HB := n1_; clear n0_ n1_; (try clear hb); (try clear hb2); (try clear hk); (try clear hi); (try clear ho0); obtain ⟨Ao15, co15, eo15⟩ := Kd.R_slice HO103.out; subst eo15; have p104 : 0 ≤ (a1 : Int) := tD; have q104 : a1 < (t101.length : Int) := tD; obtain ⟨ad104, e104, hx104_0⟩ := Kd.at_int (Kd.R_reads' HO103.out).2.2 a1 p104 q104; cases e104; replace p104 := eq_true p104; replace q104 := eq_true q104) | ((with_reducible refine gate_callee (f := 55) rfl ?_); refine goesL_ (some 28) rfl rfl Try.func55 (by kernel_rfl) rfl #[.slice A0 l0.length c0, .slice (some ad104) t101.length co15, .int .i64 a1] rfl (by (try simp only [List.map_toArray, List.map_cons, List.map_nil]); first | done | rfl | (simp only [List.length_drop, List.length_take]; rfl)) ?_; (with_reducible refine (witness_follow.calls kj3 _ _ l0 _ _ t101 a1 t105 _ ?side1 ?side2 ?side3 ?side4 A13.out).mono ?_); (case side1 => exact tC (Kd.C_below HR0.out HB.out)); (case side2 => exact HC0.out); (case side3 => exact tC (Kd.R_reads' HO103.out).2.2); (case side4 => exact (Kd.R_reads' HO103.out).2.1); rintro e w16 ⟨v106, rfl, ho0, hb⟩; refine ⟨_, rfl, ?_⟩; have n0_ := Aside0.mk (Kd.R_elder' (tR HO103) (Kd.R_base ho0) hb); have n1_ := Aside0.mk (Kd.R_lower (Kd.R_new' ho0 (Kd.R_lt (tR HO103))) (below_size (tB))); have n2_ := Aside0.mk (below_step (tB) hb); clear HO103; clear HB; have HO103 := n0_; have HO107 := n1_; have HB := n2_; clear n0_ n1_ n2_; (try clear hb); (try clear hb2); (try clear hk); (try clear hi); (try clear ho0)))
       go_ret2
       exact ⟨_, tE, by (with_reducible repeat (first | apply Kd.R_alloc | apply Kd.R_drewN | apply Kd.R_drew)); exact Kd.R_mono HO107.out (fun _ hk => trivial), tB⟩
     ·rw [if_neg c9] at H
      exact absurd H (by simp)
    ·rw [if_neg c8] at H
     exact absurd H (by simp)
end Go.Proofs.Ytfnjbgggmddgpaa.Q
end
section
namespace Go.Proofs.Ytfnjbgggmddgpaa.Q
open Go.RowKit Go.Proofs.Fn Go.Proofs.YtfnjbgggmddgpaaW.PrintWords Go.Proofs.YtfnjbgggmddgpaaW.PrintLast Go.Proofs.YtfnjbgggmddgpaaW.PrintMore
attribute [local go_sem] max2_int min2_int max_two min_two max_three min_three max_four min_four
set_option linter.unusedVariables false
set_option linter.unusedSimpArgs false
def witness_has.l0 : Nat → Int → List (S66) → Int → Int → Option (Bool)
 | 0, _, _, _, _ => none
 | k + 1, x1, x7, x8, x9 => if x9 < x8 then (if 0 ≤ x9 then (if x9 < (x7.length : Int) then (if ((rd_T66 x7 x9).f0) = x1 then (some true) else (witness_has.l0 k x1 x7 x8 (wrap64 (x9 + 1)))) else (none)) else (none)) else (some false)
def witness_has.f (k : Nat) (l0 : List (S66)) (a1 : Int) : Option (Bool) := witness_has.l0 k a1 l0 (l0.length : Int) 0
set_option maxHeartbeats 8000000 in
set_option maxRecDepth 100000 in
theorem witness_has.calls (k : Nat) (A0 : Option Addr) (c0 : Nat) (l0 : List (S66)) (a1 : Int) (r : Bool) (w : World) (hr0 : Kd.C k66 w A0 l0.length l0) (hc0 : l0.length ≤ c0) (h : witness_has.f k l0 a1 = some r) :
  Calls Try.prog 51 #[.slice A0 l0.length c0, .int .i64 a1] w fun e w' => e = .returned (.bool r) ∧ Below w.heap.size w w' := by
 have hu66 := Try.underlying66
 have HR0 := Aside0.mk hr0
 have HC0 := Aside0.mk hc0
 clear hr0 hc0
 have HB := Aside0.mk (Below.refl w.heap.size w)
 have H : (witness_has.l0 k a1 l0 (l0.length : Int) 0) = some r := h
 clear h
 have H' := Aside0.mk H
 clear H
 go_enter Try.func51, Try.ntmps51
 go_wp2
 go_loopg [9] k (fun kq v9 w' => ∃ (x9_1 : Int), v9 = .int .i64 x9_1 ∧ Aside0 (witness_has.l0 kq a1 l0 (l0.length : Int) x9_1 = some r) ∧ Aside0 (kq ≤ k) ∧ Aside0 (Below w.heap.size w w'))
 case atStart => exact ⟨(0), (by first | rfl | (simp; done) | (simp [*]; done)), H', ⟨Nat.le_refl _⟩, ⟨tB⟩⟩
 case round =>
  clear H'
  try clear p2
  obtain ⟨x9_1, rfl, HA, HK1, HB⟩ := hrel
  cases gk with
  | zero => exact absurd HA.out (by simp [witness_has.l0])
  | succ k1 =>
   have H := HA.out
   clear HA
   simp only [witness_has.l0] at H
   by_cases c3 : x9_1 < (l0.length : Int)
   ·rw [if_pos c3] at H
    have c3b0 : decide (x9_1 < (l0.length : Int)) = true := decide_eq_true c3
    clear c3
    by_cases c4 : 0 ≤ x9_1
    ·rw [if_pos c4] at H
     have c4b0 : decide (0 ≤ x9_1) = true := decide_eq_true c4
     clear c4
     by_cases c5 : x9_1 < (l0.length : Int)
     ·rw [if_pos c5] at H
      have c5b0 : decide (x9_1 < (l0.length : Int)) = true := decide_eq_true c5
      clear c5
      by_cases c6 : ((rd_T66 l0 x9_1).f0) = a1
      ·rw [if_pos c6] at H
       have c6b0 : (((rd_T66 l0 x9_1).f0) == a1) = true := beq_iff_eq.mpr c6
       have c6b1 : (((rd_T66 l0 x9_1).f0) != a1) = false := bne_eq_false_iff_eq.mpr c6
       clear c6
       obtain rfl := Option.some.inj H
       have p101 : 0 ≤ (x9_1 : Int) := tD
       have q101 : x9_1 < (l0.length : Int) := tD
       obtain ⟨ad101, e101, hx101_0, hx101_1⟩ := at_T66 HR0.out x9_1 p101 q101
       cases e101
       replace hx101_0 := (HB.out.cell (World.block_lt_of_cell? w _ hx101_0)).trans hx101_0
       replace hx101_1 := (HB.out.cell (World.block_lt_of_cell? w _ hx101_1)).trans hx101_1
       replace p101 := eq_true p101
       replace q101 := eq_true q101
       go_wp2_with (first | ((with_reducible refine gate_dst (N := 6) rfl ?_); refine box_event ?hg (N := 6) ?hd (cs := #[.int .i64 0, .int .i64 0]) (t := 66) ?hr ?_; (case hd => rfl); (case hg => rfl); (case hr => first | (go_simp; done) | (go_simp; rfl)); intro gb102 hg w7 hbox hb; have n0_ := Aside0.mk (below_step (tB) hb); have n1_ := Aside0.mk (hbox); have n2_ := Aside0.mk ((by rw [hg]; exact (below_size (tB)) : w.heap.size ≤ gb102)); have n3_ := Aside0.mk ((by rw [hg]; exact (below_size (tB)) : w.heap.size ≤ gb102)); clear HB; have HB := n0_; have BK102 := n1_; have GW102 := n2_; have GE102 := n3_; clear n0_ n1_ n2_ n3_; clear hb hbox hg; have hcz8_0 : w7.cell? ⟨gb102, 0, none⟩ = some (.int .i64 0) := (blk_cell BK102.out 0).trans rfl; have hcz8_1 : w7.cell? ⟨gb102, 1, none⟩ = some (.int .i64 0) := (blk_cell BK102.out 1).trans rfl; have hfz8_0 := blk_frozen BK102.out 0; have hfz8_1 := blk_frozen BK102.out 1))
       go_ret
       exact ⟨tE, tB⟩
      ·rw [if_neg c6] at H
       have c6b0 : (((rd_T66 l0 x9_1).f0) == a1) = false := beq_eq_false_iff_ne.mpr c6
       have c6b1 : (((rd_T66 l0 x9_1).f0) != a1) = true := bne_iff_ne.mpr c6
       have H' := Aside0.mk H
       clear H
       have p101 : 0 ≤ (x9_1 : Int) := tD
       have q101 : x9_1 < (l0.length : Int) := tD
       obtain ⟨ad101, e101, hx101_0, hx101_1⟩ := at_T66 HR0.out x9_1 p101 q101
       cases e101
       replace hx101_0 := (HB.out.cell (World.block_lt_of_cell? w _ hx101_0)).trans hx101_0
       replace hx101_1 := (HB.out.cell (World.block_lt_of_cell? w _ hx101_1)).trans hx101_1
       replace p101 := eq_true p101
       replace q101 := eq_true q101
       go_wp2_with (first | ((with_reducible refine gate_dst (N := 6) rfl ?_); refine box_event ?hg (N := 6) ?hd (cs := #[.int .i64 0, .int .i64 0]) (t := 66) ?hr ?_; (case hd => rfl); (case hg => rfl); (case hr => first | (go_simp; done) | (go_simp; rfl)); intro gb102 hg w9 hbox hb; have n0_ := Aside0.mk (below_step (tB) hb); have n1_ := Aside0.mk (hbox); have n2_ := Aside0.mk ((by rw [hg]; exact (below_size (tB)) : w.heap.size ≤ gb102)); have n3_ := Aside0.mk ((by rw [hg]; exact (below_size (tB)) : w.heap.size ≤ gb102)); clear HB; have HB := n0_; have BK102 := n1_; have GW102 := n2_; have GE102 := n3_; clear n0_ n1_ n2_ n3_; clear hb hbox hg; have hcz10_0 : w9.cell? ⟨gb102, 0, none⟩ = some (.int .i64 0) := (blk_cell BK102.out 0).trans rfl; have hcz10_1 : w9.cell? ⟨gb102, 1, none⟩ = some (.int .i64 0) := (blk_cell BK102.out 1).trans rfl; have hfz10_0 := blk_frozen BK102.out 0; have hfz10_1 := blk_frozen BK102.out 1))
       go_roundg k1
       case measure => have := HK1.out; omega
       case rel => exact ⟨(wrap64 (x9_1 + 1)), (by first | rfl | (simp; done) | (simp [*]; done)), H', ⟨by have := HK1.out; omega⟩, ⟨tB⟩⟩
     ·rw [if_neg c5] at H
      exact absurd H (by simp)
    ·rw [if_neg c4] at H
     exact absurd H (by simp)
   ·rw [if_neg c3] at H
    have c3b0 : decide (x9_1 < (l0.length : Int)) = false := decide_eq_false c3
    clear c3
    obtain rfl := Option.some.inj H
    go_wp2
    go_ret
    exact ⟨tE, tB⟩
end Go.Proofs.Ytfnjbgggmddgpaa.Q
end
section
set_option linter.unusedVariables false
set_option linter.unusedSimpArgs false
namespace Go.Proofs.Ytfnjbgggmddgpaa.Q
open Go.RowKit Go.Proofs.Fn Go.Proofs.YtfnjbgggmddgpaaW.PrintWords Go.Proofs.YtfnjbgggmddgpaaW.PrintLast Go.Proofs.YtfnjbgggmddgpaaW.PrintMore
theorem fn54 (w : World) (b : Nat) (a : Int) (hc : w.cell? ⟨b, 0, none⟩ = some (.int .i64 a)) : FnB Try.prog 54 #[.pointer (some ⟨b, 0, none⟩)] w (fun s => some (s == a)) := by
  refine ⟨⟨Try.f54, Try.func54, by kernel_rfl, rfl⟩, fun x r W hb he => ?_⟩
  have hc2 : W.cell? ⟨b, 0, none⟩ = some (.int .i64 a) := (hb.cell (World.block_lt_of_cell? w _ hc)).trans hc
  obtain rfl := Option.some.inj he
  clear hc hb he
  show Calls Try.prog 54 #[.int .i64 x, .pointer (some ⟨b, 0, none⟩)] W _
  go_enter Try.func54, Try.ntmps54
  go_wp2
  go_ret
  exact ⟨rfl, Below.refl _ _⟩
def dead1 (l : List (List S66)) (s : Int) : Option Bool := if 0 ≤ s then (if s < (l.length : Int) then some (((rd_L66 l s).length : Int) == 0) else none) else none
theorem fn36 (w : World) (b : Nat) (A : Option Addr) (c : Nat) (l : List (List S66)) (hc : w.cell? ⟨b, 0, none⟩ = some (.slice A l.length c)) (hl : Kd.C (Kd.slice 66 k66) w A l.length l) : FnB Try.prog 36 #[.pointer (some ⟨b, 0, none⟩)] w (dead1 l) := by
  refine ⟨⟨Try.f36, Try.func36, by kernel_rfl, rfl⟩, fun x r W hb he => ?_⟩
  have hc2 : W.cell? ⟨b, 0, none⟩ = some (.slice A l.length c) := (hb.cell (World.block_lt_of_cell? w _ hc)).trans hc
  have hl2 := Kd.C_below hl hb
  unfold dead1 at he
  by_cases h0 : 0 ≤ x
  · rw [if_pos h0] at he
    by_cases h1 : x < (l.length : Int)
    · rw [if_pos h1] at he
      obtain rfl := Option.some.inj he
      obtain ⟨ad, A0, c0, rfl, hx, _, _⟩ := at_L66 hl2 x h0 h1
      clear hc hl hb hl2 he
      show Calls Try.prog 36 #[.int .i64 x, .pointer (some ⟨b, 0, none⟩)] W _
      go_enter Try.func36, Try.ntmps36
      go_wp2
      go_ret
      exact ⟨rfl, Below.refl _ _⟩
    · rw [if_neg h1] at he
      cases he
  · rw [if_neg h0] at he
    cases he
def fires1 (l : List (List S66)) (t : Int) (s : Int) : Option Bool := if 0 ≤ s then (if s < (l.length : Int) then some ((rd_L66 l s).any (fun x => x.f0 == t)) else none) else none
theorem has_l0 (l : List S66) (t : Int) (hl : l.length ≤ 9223372036854775806) : ∀ (m j : Nat), j + m = l.length → witness_has.l0 (m + 1) t l (l.length : Int) (j : Int) = some ((l.drop j).any (fun x => x.f0 == t)) := by
  intro m
  induction m with
  | zero =>
    intro j hj
    rw [List.drop_of_length_le (by omega)]
    simp only [witness_has.l0]
    rw [if_neg (by omega)]; rfl
  | succ m ih =>
    intro j hj
    have hw : wrap64 ((j : Int) + 1) = ((j + 1 : Nat) : Int) := by unfold wrap64; omega
    have hj2 : j < l.length := by omega
    have hd : rd_T66 l (j : Int) = l[j] := by simp [rd_T66, hj2]
    rw [witness_has.l0, if_pos (by omega), if_pos (by omega), if_pos (by omega), hw, hd, List.drop_eq_getElem_cons hj2, List.any_cons]
    by_cases c : l[j].f0 = t
    · rw [if_pos c]; simp [c]
    · rw [if_neg c, ih (j + 1) (by omega)]
      have : (l[j].f0 == t) = false := by simp [c]
      rw [this, Bool.false_or]
set_option maxHeartbeats 1000000 in
theorem fn50 (w : World) (b b2 : Nat) (A : Option Addr) (c : Nat) (l : List (List S66)) (t : Int) (hc : w.cell? ⟨b, 0, none⟩ = some (.slice A l.length c)) (ht : w.cell? ⟨b2, 0, none⟩ = some (.int .i64 t)) (hl : Kd.C (Kd.slice 66 k66) w A l.length l) (hln : ∀ r ∈ l, r.length ≤ 9223372036854775806) :
    FnB Try.prog 50 #[.pointer (some ⟨b, 0, none⟩), .pointer (some ⟨b2, 0, none⟩)] w (fires1 l t) := by
  refine ⟨⟨Try.f50, Try.func50, by kernel_rfl, rfl⟩, fun x r W hb he => ?_⟩
  have hc2 : W.cell? ⟨b, 0, none⟩ = some (.slice A l.length c) := (hb.cell (World.block_lt_of_cell? w _ hc)).trans hc
  have ht2 : W.cell? ⟨b2, 0, none⟩ = some (.int .i64 t) := (hb.cell (World.block_lt_of_cell? w _ ht)).trans ht
  have hl2 := Kd.C_below hl hb
  unfold fires1 at he
  by_cases h0 : 0 ≤ x
  · rw [if_pos h0] at he
    by_cases h1 : x < (l.length : Int)
    · rw [if_pos h1] at he
      obtain ⟨ad, A0, c0, rfl, hx, hcap, hrow⟩ := at_L66 hl2 x h0 h1
      have hrl : (rd_L66 l x).length ≤ 9223372036854775806 := by
        have hx1 : x.toNat < l.length := by omega
        have : rd_L66 l x = l[x.toNat] := by simp [rd_L66, hx1]
        rw [this]; exact hln _ (List.getElem_mem _)
      have he2 : witness_has.f ((rd_L66 l x).length + 1) (rd_L66 l x) t = some r := by
        have := has_l0 (rd_L66 l x) t hrl _ 0 (by rw [Nat.zero_add])
        rw [← he]; exact this
      have HC := Aside0.mk (fun (W' : World) (hW : Below W.heap.size W W') => witness_has.calls _ A0 c0 (rd_L66 l x) t r W' (Kd.C_below hrow hW) hcap he2)
      clear hc hl hb hl2 he he2 hrl ht hrow hcap
      show Calls Try.prog 50 #[.int .i64 x, .pointer (some ⟨b, 0, none⟩), .pointer (some ⟨b2, 0, none⟩)] W _
      go_enter Try.func50, Try.ntmps50
      go_wp2_with fail
      go_region_with (go_at_call 51; refine (HC.out _ ?_).mono ?_; (case refine_1 => repeat (first | exact Below.refl _ _ | apply below_drew1)); rintro e w' ⟨rfl, hb⟩)
      all_goals
        go_wp2
        go_ret
        exact ⟨rfl, below_step (below_drew1 (Below.refl _ _)) hb⟩
    · rw [if_neg h1] at he
      cases he
  · rw [if_neg h0] at he
    cases he
end Go.Proofs.Ytfnjbgggmddgpaa.Q
end
section
set_option linter.unusedVariables false
set_option linter.unusedSimpArgs false
namespace Go.Proofs.Ytfnjbgggmddgpaa.Q
open Go.RowKit Go.Proofs.Fn Go.Proofs.YtfnjbgggmddgpaaW.PrintWords Go.Proofs.YtfnjbgggmddgpaaW.PrintLast Go.Proofs.YtfnjbgggmddgpaaW.PrintMore
def witness_Dead.f (k : Nat) (l0_0 : List (List Int)) (l0_1 : List S80) (a0_2 : Bool) : Option (List Int × Bool) :=
  (witness_steps.f k l0_0 l0_1 a0_2).bind fun l => witness_search.f k l 0 (dead1 l)
theorem witness_Dead.mono : ∀ a0 a1 a2 k, LeO (witness_Dead.f k a0 a1 a2) (witness_Dead.f (k + 1) a0 a1 a2) :=
  fun _ _ _ _ => LeO.bind (witness_steps.mono _ _ _ _) fun _ => witness_search.mono _ _ _ _
set_option maxHeartbeats 1000000 in
theorem witness_Dead.calls (k : Nat) (A0_0 : Option Addr) (c0_0 : Nat) (l0_0 : List (List Int)) (A0_1 : Option Addr) (c0_1 : Nat) (l0_1 : List S80) (a0_2 : Bool) (r1 : List Int) (r2 : Bool) (w : World)
    (hr0_0 : Kd.C (Kd.slice 3 (Kd.int .i64)) w A0_0 l0_0.length l0_0) (hc0_0 : l0_0.length ≤ c0_0) (hr0_1 : Kd.C k80 w A0_1 l0_1.length l0_1) (hc0_1 : l0_1.length ≤ c0_1) (h : witness_Dead.f k l0_0 l0_1 a0_2 = some (r1, r2)) :
    Calls Try.prog 11 #[.agg #[.slice A0_0 l0_0.length c0_0, .slice A0_1 l0_1.length c0_1, .bool a0_2]] w fun e w' => ∃ v0_ : Value, e = .returned (.tuple #[v0_, .bool r2]) ∧ Kd.R (Kd.int .i64) 3 w' w.heap.size (fun _ => True) v0_ r1 ∧ Below w.heap.size w w' := by
  obtain ⟨l, h1, h2⟩ := Option.bind_eq_some_iff.1 h
  have hu25 := Try.underlying25
  have H1 := Aside0.mk h1
  have H2 := Aside0.mk h2
  have HR0 := Aside0.mk hr0_0
  have HC0 := Aside0.mk hc0_0
  have HR1 := Aside0.mk hr0_1
  have HC1 := Aside0.mk hc0_1
  clear h h1 h2 hr0_0 hc0_0 hr0_1 hc0_1
  go_enter Try.func11, Try.ntmps11
  go_wp2_with fail
  refine (witness_steps.calls k _ _ l0_0 _ _ l0_1 a0_2 l _ (Kd.C_below HR0.out ?b1) HC0.out (Kd.C_below HR1.out ?b2) HC1.out H1.out).mono ?_
  case b1 => repeat (first | exact Below.refl _ _ | apply below_alloc | apply below_drew1)
  case b2 => repeat (first | exact Below.refl _ _ | apply below_alloc | apply below_drew1)
  rintro e w1 ⟨v, rfl, hS, hb⟩
  obtain ⟨A, c, rfl, hcap, hC⟩ := Kd.S_reads hS
  have HB : Aside0 (Below w.heap.size w w1) := ⟨below_step (by repeat (first | exact Below.refl _ _ | apply below_alloc | apply below_drew1)) hb⟩
  have HS := Aside0.mk hC
  have HCP := Aside0.mk hcap
  clear hS hb hcap hC
  go_wp2_with fail
  have hbw : ∀ (o : Obj) (v : Value), Below w1.heap.size w1 ((w1.alloc o).setCell ⟨w1.heap.size, 0, none⟩ v) := fun o v => (((Below.refl _ w1).alloc (Nat.le_refl _) o).setCell (by simp) v)
  refine (witness_search.calls k A c l 0 (dead1 l) 36 #[.pointer (some ⟨w1.heap.size, 0, none⟩)] r1 r2 _ (Kd.C_below HS.out ?b3) HCP.out (fn36 _ _ A c l ?b4 (Kd.C_below HS.out ?b5)) H2.out).mono ?_
  case b3 => first | exact hbw _ _ | (repeat (first | exact Below.refl _ _ | apply below_alloc | apply below_drew1))
  case b5 => first | exact hbw _ _ | (repeat (first | exact Below.refl _ _ | apply below_alloc | apply below_drew1))
  case b4 => go_simp
  rintro e w2 ⟨v, rfl, hR, hb⟩
  have hb2 : Below w1.heap.size w1 w2 := below_step (by first | exact hbw _ _ | (repeat (first | exact Below.refl _ _ | apply below_alloc | apply below_drew1))) hb
  clear hbw
  have HB2 := Aside0.mk hb2
  have HRR := Aside0.mk (Kd.R_lower hR (base' := w1.heap.size) (by simp))
  clear hb hb2 hR
  go_wp2
  go_ret2
  exact ⟨_, rfl, Kd.R_lower HRR.out HB.out.size, below_step HB.out HB2.out⟩
def witness_Fires.f (k : Nat) (l0_0 : List (List Int)) (l0_1 : List S80) (a0_2 : Bool) (a1 : Int) : Option (List Int × Bool) :=
  (witness_steps.f k l0_0 l0_1 a0_2).bind fun l => (if l.all (fun r => decide (r.length ≤ 9223372036854775806)) = true then (witness_search.f k l 0 (fires1 l a1)) else none).bind fun r => if r.2 = true then (if r.1.length < 17592186044416 then some (r.1 ++ [a1], true) else none) else some ([], false)
set_option maxHeartbeats 2000000 in
theorem witness_Fires.calls (k : Nat) (A0_0 : Option Addr) (c0_0 : Nat) (l0_0 : List (List Int)) (A0_1 : Option Addr) (c0_1 : Nat) (l0_1 : List S80) (a0_2 : Bool) (a1 : Int) (r1 : List Int) (r2 : Bool) (w : World)
    (hr0_0 : Kd.C (Kd.slice 3 (Kd.int .i64)) w A0_0 l0_0.length l0_0) (hc0_0 : l0_0.length ≤ c0_0) (hr0_1 : Kd.C k80 w A0_1 l0_1.length l0_1) (hc0_1 : l0_1.length ≤ c0_1) (h : witness_Fires.f k l0_0 l0_1 a0_2 a1 = some (r1, r2)) :
    Calls Try.prog 25 #[.agg #[.slice A0_0 l0_0.length c0_0, .slice A0_1 l0_1.length c0_1, .bool a0_2], .int .i64 a1] w fun e w' => ∃ v0_ : Value, e = .returned (.tuple #[v0_, .bool r2]) ∧ Kd.R (Kd.int .i64) 3 w' w.heap.size (fun _ => True) v0_ r1 ∧ Below w.heap.size w w' := by
  obtain ⟨l, h1, h2⟩ := Option.bind_eq_some_iff.1 h
  obtain ⟨⟨q1, q2⟩, h2, h3⟩ := Option.bind_eq_some_iff.1 h2
  have hall : l.all (fun r => decide (r.length ≤ 9223372036854775806)) = true := by
    cases ha : l.all (fun r => decide (r.length ≤ 9223372036854775806)) with
    | true => rfl
    | false => rw [ha] at h2; cases h2
  rw [if_pos hall] at h2
  have hln : ∀ r ∈ l, r.length ≤ 9223372036854775806 := by simpa using hall
  have hu25 := Try.underlying25
  have HLN := Aside0.mk hln
  have H1 := Aside0.mk h1
  have H2 := Aside0.mk h2
  have H3 := Aside0.mk h3
  have HR0 := Aside0.mk hr0_0
  have HC0 := Aside0.mk hc0_0
  have HR1 := Aside0.mk hr0_1
  have HC1 := Aside0.mk hc0_1
  clear h h1 h2 h3 hall hln hr0_0 hc0_0 hr0_1 hc0_1
  go_enter Try.func25, Try.ntmps25
  go_wp2_with fail
  refine (witness_steps.calls k _ _ l0_0 _ _ l0_1 a0_2 l _ (Kd.C_below HR0.out ?b1) HC0.out (Kd.C_below HR1.out ?b2) HC1.out H1.out).mono ?_
  case b1 => repeat (first | exact Below.refl _ _ | apply below_alloc | apply below_drew1)
  case b2 => repeat (first | exact Below.refl _ _ | apply below_alloc | apply below_drew1)
  rintro e w1 ⟨v, rfl, hS, hb⟩
  obtain ⟨A, c, rfl, hcap, hC⟩ := Kd.S_reads hS
  have HB : Aside0 (Below w.heap.size w w1) := ⟨below_step (by repeat (first | exact Below.refl _ _ | apply below_alloc | apply below_drew1)) hb⟩
  have ht0 : w1.cell? ⟨w.heap.size + 1, 0, none⟩ = some (.int .i64 a1) := by
    have hc0 : ((w.alloc (Obj.cells #[Value.slice A0_0 l0_0.length c0_0, Value.slice A0_1 l0_1.length c0_1, Value.bool a0_2] 25)).alloc (Obj.cells #[Value.int IntKind.i64 a1] 3)).cell? ⟨w.heap.size + 1, 0, none⟩ = some (.int .i64 a1) := by go_simp
    exact (hb.cell (World.block_lt_of_cell? _ _ hc0)).trans hc0
  have HT := Aside0.mk ht0
  have HS := Aside0.mk hC
  have HCP := Aside0.mk hcap
  clear hS hb hcap hC ht0
  go_wp2_with fail
  have hbw : ∀ (o : Obj), Below w1.heap.size w1 (w1.alloc o) := fun o => (Below.refl _ w1).alloc (Nat.le_refl _) o
  refine (witness_search.calls k A c l 0 (fires1 l a1) 50 #[.pointer (some ⟨w1.heap.size, 0, none⟩), .pointer (some ⟨w.heap.size + 1, 0, none⟩)] q1 q2 _ (Kd.C_below HS.out ?b3) HCP.out (fn50 _ _ _ A c l a1 ?b4 ?b6 (Kd.C_below HS.out ?b5) HLN.out) H2.out).mono ?_
  case b3 => exact hbw _
  case b5 => exact hbw _
  case b4 => go_simp
  case b6 => exact ((hbw _).cell (World.block_lt_of_cell? _ _ HT.out)).trans HT.out
  rintro e w2 ⟨v, rfl, hR, hb⟩
  have hb2 : Below w1.heap.size w1 w2 := below_step (hbw _) hb
  have ht2 : w2.cell? ⟨w.heap.size + 1, 0, none⟩ = some (.int .i64 a1) := (hb2.cell (World.block_lt_of_cell? _ _ HT.out)).trans HT.out
  have HB2 := Aside0.mk (below_step HB.out hb2)
  have HRR := Aside0.mk (Kd.R_lower hR (base' := w.heap.size) (by have := HB.out.size; simp; omega))
  clear hb hb2 hR hbw HT
  have H := H3.out
  clear H3
  cases q2 with
  | false =>
    simp only [Bool.false_eq_true, if_false, Option.some.injEq, Prod.mk.injEq] at H
    obtain ⟨rfl, rfl⟩ := H
    go_wp2
    go_ret2
    exact ⟨_, rfl, Kd.R_nil .., HB2.out⟩
  | true =>
    simp only [if_true] at H
    by_cases c18 : q1.length < 17592186044416
    · rw [if_pos c18] at H
      simp only [Option.some.injEq, Prod.mk.injEq] at H
      obtain ⟨rfl, rfl⟩ := H
      go_wp2_with ((with_reducible refine gate_builtin (b := .append) (xs := #[.tmp 19, .tmp 21]) rfl ?_); at_builtin; refine Kd.R_append (Kd.int .i64) (w0 := w) w.heap.size rfl (.tmp 19) (.tmp 21) 28 3 (.int .i64 0) 8 rfl Try.underlying28 info3 rfl (by decide) (by omega) v q1 a1 [.int .i64 a1] (fun _ => True) (fun _ => False) rfl rfl ?aP (fun _ hk => hk.elim) ?aF ?aO ?aB ?aS ?aL ?_; (case aP => exact rfl); (case aB => exact (by repeat (first | exact HB2.out | apply below_alloc | apply pw_below_drewN | apply below_drew1))); (case aF => exact (fun _ _ => trivial)); (case aO => exact (by (with_reducible repeat (first | apply Kd.R_alloc | apply Kd.R_drewN | apply Kd.R_drew)); exact HRR.out)); (case aS => exact (below_size (by repeat (first | exact HB2.out | apply below_alloc | apply pw_below_drewN | apply below_drew1)))); (case aL => omega); intro v110 w22 ho hb hg hat; have HO := Aside0.mk ho; have HB3 := Aside0.mk hb; clear ho hb hg hat)
      go_ret2
      exact ⟨_, rfl, HO.out, HB3.out⟩
    · rw [if_neg c18] at H
      cases H
end Go.Proofs.Ytfnjbgggmddgpaa.Q
end
section
namespace Go.Proofs.Ytfnjbgggmddgpaa.Q
open Go.RowKit Go.Proofs.Fn Go.Proofs.YtfnjbgggmddgpaaW.PrintWords Go.Proofs.YtfnjbgggmddgpaaW.PrintLast Go.Proofs.YtfnjbgggmddgpaaW.PrintMore
attribute [local go_sem] max2_int min2_int max_two min_two max_three min_three max_four min_four
set_option linter.unusedVariables false
set_option linter.unusedSimpArgs false
mutual
def petrinetref16_follow.j0 : Nat → List (List (S80)) → Int → List Bool → Bool → Option (List Int × Bool)
 | 0, _, _, _, _ => none
 | k + 1, x0, x1, x2, x19 => if x19 = true then (some (([] : List Int), false)) else ((petrinetref16_distances.f k x0 x2).bind fun t101 => (if 0 ≤ x1 then (if x1 < (t101.length : Int) then (if (rd t101 x1) < 0 then (some (([] : List Int), false)) else (petrinetref16_follow.l0 k x0 t101 ([] : List Int) x1)) else (none)) else (none)))
def petrinetref16_follow.l0 : Nat → List (List (S80)) → List Int → List Int → Int → Option (List Int × Bool)
 | 0, _, _, _, _ => none
 | k + 1, x0, x8, x9, x10 => if 0 ≤ x10 then (if x10 < (x8.length : Int) then (if (rd x8 x10) > 0 then (petrinetref16_follow.l1 k x0 x8 x9 x10 0) else (some (x9, true))) else (none)) else (none)
def petrinetref16_follow.l1 : Nat → List (List (S80)) → List Int → List Int → Int → Int → Option (List Int × Bool)
 | 0, _, _, _, _, _ => none
 | k + 1, x0, x8, x9, x10, x11 => if 0 ≤ x10 then (if x10 < (x0.length : Int) then (if 0 ≤ x11 then (if x11 < ((rd_L80 x0 x10).length : Int) then (if 0 ≤ ((rd_T80 (rd_L80 x0 x10) x11).f2) then (if ((rd_T80 (rd_L80 x0 x10) x11).f2) < (x8.length : Int) then (if x10 < (x8.length : Int) then (if (rd x8 ((rd_T80 (rd_L80 x0 x10) x11).f2)) = (wrap64 ((rd x8 x10) - 1)) then (if x9.length < 17592186044416 then (petrinetref16_follow.l0 k x0 x8 (x9 ++ [(rd_T80 (rd_L80 x0 x10) x11).f1]) ((rd_T80 (rd_L80 x0 x10) x11).f2)) else (none)) else (petrinetref16_follow.l1 k x0 x8 x9 x10 (wrap64 (x11 + 1)))) else (none)) else (none)) else (none)) else (none)) else (none)) else (none)) else (none)
end
def petrinetref16_follow.f (k : Nat) (l0 : List (List (S80))) (a1 : Int) (l2 : List Bool) : Option (List Int × Bool) := if a1 < 0 then (petrinetref16_follow.j0 k l0 a1 l2 true) else (petrinetref16_follow.j0 k l0 a1 l2 (decide (a1 ≥ (l0.length : Int))))
set_option maxHeartbeats 8000000 in
set_option maxRecDepth 100000 in
theorem petrinetref16_follow.calls (k : Nat) (A0 : Option Addr) (c0 : Nat) (l0 : List (List (S80))) (a1 : Int) (A2 : Option Addr) (c2 : Nat) (l2 : List Bool) (r1 : List Int) (r2 : Bool) (w : World) (hr0 : Kd.C (Kd.slice 80 k80) w A0 l0.length l0) (hc0 : l0.length ≤ c0) (hr2 : Kd.C Kd.bool w A2 l2.length l2) (hc2 : l2.length ≤ c2) (h : petrinetref16_follow.f k l0 a1 l2 = some (r1, r2)) :
  Calls Try.prog 38 #[.slice A0 l0.length c0, .int .i64 a1, .slice A2 l2.length c2] w fun e w' => ∃ v0_ : Value, e = .returned (.tuple #[v0_, .bool r2]) ∧ Kd.R (Kd.int .i64) 3 w' w.heap.size (fun _ => True) v0_ r1 ∧ Below w.heap.size w w' := by
 have HR0 := Aside0.mk hr0
 have HC0 := Aside0.mk hc0
 clear hr0 hc0
 have HR2 := Aside0.mk hr2
 have HC2 := Aside0.mk hc2
 clear hr2 hc2
 have HB := Aside0.mk (Below.refl w.heap.size w)
 have H : (if a1 < 0 then (petrinetref16_follow.j0 k l0 a1 l2 true) else (petrinetref16_follow.j0 k l0 a1 l2 (decide (a1 ≥ (l0.length : Int))))) = some (r1, r2) := h
 clear h
 have HC4 := Aside0.mk H
 clear H
 go_enter Try.func38, Try.ntmps38
 go_upto_region 1 with (fail)
 repeat (go_quiet (fail); go_upto_region 1 with (fail))
 go_cut [19] (fun v19 wc => ∃ (kq : Nat) (x19_3 : Bool), v19 = .bool x19_3 ∧ Aside0 (petrinetref16_follow.j0 kq l0 a1 l2 x19_3 = some (r1, r2)) ∧ Aside0 (kq ≤ k) ∧ Aside0 (Below w.heap.size w wc))
 case first =>
  have H := HC4.out
  clear HC4
  by_cases c5 : a1 < 0
  ·rw [if_pos c5] at H
   have c5b0 : decide (a1 < 0) = true := decide_eq_true c5
   clear c5
   (first | rw [c5b0] | (simp only [i64_w, i32_w]; rw [c5b0]) | skip)
   have H' := Aside0.mk H
   clear H
   go_wp2
   repeat (go_quiet (fail); try go_wp2)
   go_meet
   case rel => exact ⟨_, (true), (by first | rfl | (simp; done) | (simp [*]; done)), H', ⟨by first | omega | exact Nat.le_refl _⟩, ⟨tB⟩⟩
  ·rw [if_neg c5] at H
   have c5b0 : decide (a1 < 0) = false := decide_eq_false c5
   clear c5
   (first | rw [c5b0] | (simp only [i64_w, i32_w]; rw [c5b0]) | skip)
   have H' := Aside0.mk H
   clear H
   go_wp2
   repeat (go_quiet (fail); try go_wp2)
   go_meet
   case rel => exact ⟨_, (decide (a1 ≥ (l0.length : Int))), (by first | rfl | (simp; done) | (simp [*]; done)), H', ⟨by first | omega | exact Nat.le_refl _⟩, ⟨tB⟩⟩
 case rest =>
  clear HC4
  try clear c2
  try clear p2
  try clear c3
  try clear c5
  try clear c5b0
  obtain ⟨kq, x19_3, rfl, HA, HJ3, HB⟩ := hcut
  cases kq with
  | zero => exact absurd HA.out (by simp [petrinetref16_follow.j0])
  | succ kj3 =>
   have H := HA.out
   clear HA
   simp only [petrinetref16_follow.j0] at H
   by_cases c6 : x19_3 = true
   ·subst c6
    have H1 : (some (([] : List Int), false)) = some (r1, r2) := by rw [if_pos rfl] at H; exact H
    clear H
    have H := H1
    clear H1
    simp only [Option.some.injEq, Prod.mk.injEq] at H
    obtain ⟨rfl, rfl⟩ := H
    go_wp2
    repeat (go_quiet (fail); try go_wp2)
    go_ret2
    exact ⟨_, tE, by first | exact Kd.R_nil _ _ _ _ _ | exact Kd.N_nil _ _ _ _ _ | exact Kd.V_nil _ _ _ _ _ | exact Kd.Q_nil _ _ _ _ _ | exact Kd.S_nil _ _ _ _ _, tB⟩
   ·replace c6 := Bool.eq_false_iff.mpr c6
    subst c6
    have H1 : ((petrinetref16_distances.f kj3 l0 l2).bind fun t101 => (if 0 ≤ a1 then (if a1 < (t101.length : Int) then (if (rd t101 a1) < 0 then (some (([] : List Int), false)) else (petrinetref16_follow.l0 kj3 l0 t101 ([] : List Int) a1)) else (none)) else (none))) = some (r1, r2) := by rw [if_neg (show ¬ (false = true) by decide)] at H; exact H
    clear H
    have H := H1
    clear H1
    replace H := Option.bind_eq_some_iff.mp H
    obtain ⟨t101, A70, H⟩ := H
    replace H : (if 0 ≤ a1 then (if a1 < (t101.length : Int) then (if (rd t101 a1) < 0 then (some (([] : List Int), false)) else (petrinetref16_follow.l0 kj3 l0 t101 ([] : List Int) a1)) else (none)) else (none)) = some (r1, r2) := H
    have A7 := Aside0.mk A70
    clear A70
    by_cases c8 : 0 ≤ a1
    ·rw [if_pos c8] at H
     have c8b0 : decide (0 ≤ a1) = true := decide_eq_true c8
     clear c8
     by_cases c9 : a1 < (t101.length : Int)
     ·rw [if_pos c9] at H
      have c9b0 : decide (a1 < (t101.length : Int)) = true := decide_eq_true c9
      clear c9
      by_cases c10 : (rd t101 a1) < 0
      ·rw [if_pos c10] at H
       have c10b0 : decide ((rd t101 a1) < 0) = true := decide_eq_true c10
       clear c10
       simp only [Option.some.injEq, Prod.mk.injEq] at H
       obtain ⟨rfl, rfl⟩ := H
       go_wp2_with (first | (go_at_call 56; (with_reducible refine (petrinetref16_distances.calls kj3 _ _ l0 _ _ l2 t101 _ ?side1 ?side2 ?side3 ?side4 A7.out).mono ?_); (case side1 => exact tC (Kd.C_below HR0.out HB.out)); (case side2 => exact HC0.out); (case side3 => exact tC (Kd.C_below HR2.out HB.out)); (case side4 => exact HC2.out); rintro e w11 ⟨v102, rfl, ho0, hb⟩; have n0_ := Aside0.mk (Kd.R_lower ho0 (below_size (tB))); have n1_ := Aside0.mk (below_step (tB) hb); clear HB; have HO103 := n0_; have HB := n1_; clear n0_ n1_; (try clear hb); (try clear hb2); (try clear hk); (try clear hi); (try clear ho0); obtain ⟨Ao12, co12, eo12⟩ := Kd.R_slice HO103.out; subst eo12; have p104 : 0 ≤ (a1 : Int) := tD; have q104 : a1 < (t101.length : Int) := tD; obtain ⟨ad104, e104, hx104_0⟩ := Kd.at_int (Kd.R_reads' HO103.out).2.2 a1 p104 q104; cases e104; replace p104 := eq_true p104; replace q104 := eq_true q104))
       repeat (go_quiet (first | (go_at_call 56; (with_reducible refine (petrinetref16_distances.calls kj3 _ _ l0 _ _ l2 t101 _ ?side1 ?side2 ?side3 ?side4 A7.out).mono ?_); (case side1 => exact tC (Kd.C_below HR0.out HB.out)); (case side2 => exact HC0.out); (case side3 => exact tC (Kd.C_below HR2.out HB.out)); (case side4 => exact HC2.out); rintro e w11 ⟨v102, rfl, ho0, hb⟩; have n0_ := Aside0.mk (Kd.R_lower ho0 (below_size (tB))); have n1_ := Aside0.mk (below_step (tB) hb); clear HB; have HO103 := n0_; have HB := n1_; clear n0_ n1_; (try clear hb); (try clear hb2); (try clear hk); (try clear hi); (try clear ho0); obtain ⟨Ao12, co12, eo12⟩ := Kd.R_slice HO103.out; subst eo12; have p104 : 0 ≤ (a1 : Int) := tD; have q104 : a1 < (t101.length : Int) := tD; obtain ⟨ad104, e104, hx104_0⟩ := Kd.at_int (Kd.R_reads' HO103.out).2.2 a1 p104 q104; cases e104; replace p104 := eq_true p104; replace q104 := eq_true q104)); try go_wp2_with (first | (go_at_call 56; (with_reducible refine (petrinetref16_distances.calls kj3 _ _ l0 _ _ l2 t101 _ ?side1 ?side2 ?side3 ?side4 A7.out).mono ?_); (case side1 => exact tC (Kd.C_below HR0.out HB.out)); (case side2 => exact HC0.out); (case side3 => exact tC (Kd.C_below HR2.out HB.out)); (case side4 => exact HC2.out); rintro e w11 ⟨v102, rfl, ho0, hb⟩; have n0_ := Aside0.mk (Kd.R_lower ho0 (below_size (tB))); have n1_ := Aside0.mk (below_step (tB) hb); clear HB; have HO103 := n0_; have HB := n1_; clear n0_ n1_; (try clear hb); (try clear hb2); (try clear hk); (try clear hi); (try clear ho0); obtain ⟨Ao12, co12, eo12⟩ := Kd.R_slice HO103.out; subst eo12; have p104 : 0 ≤ (a1 : Int) := tD; have q104 : a1 < (t101.length : Int) := tD; obtain ⟨ad104, e104, hx104_0⟩ := Kd.at_int (Kd.R_reads' HO103.out).2.2 a1 p104 q104; cases e104; replace p104 := eq_true p104; replace q104 := eq_true q104)))
       go_ret2
       exact ⟨_, tE, by first | exact Kd.R_nil _ _ _ _ _ | exact Kd.N_nil _ _ _ _ _ | exact Kd.V_nil _ _ _ _ _ | exact Kd.Q_nil _ _ _ _ _ | exact Kd.S_nil _ _ _ _ _, tB⟩
      ·rw [if_neg c10] at H
       have c10b0 : decide ((rd t101 a1) < 0) = false := decide_eq_false c10
       clear c10
       have H' := Aside0.mk H
       clear H
       go_wp2_with (first | (go_at_call 56; (with_reducible refine (petrinetref16_distances.calls kj3 _ _ l0 _ _ l2 t101 _ ?side1 ?side2 ?side3 ?side4 A7.out).mono ?_); (case side1 => exact tC (Kd.C_below HR0.out HB.out)); (case side2 => exact HC0.out); (case side3 => exact tC (Kd.C_below HR2.out HB.out)); (case side4 => exact HC2.out); rintro e w13 ⟨v102, rfl, ho0, hb⟩; have n0_ := Aside0.mk (Kd.R_lower ho0 (below_size (tB))); have n1_ := Aside0.mk (below_step (tB) hb); clear HB; have HO103 := n0_; have HB := n1_; clear n0_ n1_; (try clear hb); (try clear hb2); (try clear hk); (try clear hi); (try clear ho0); obtain ⟨Ao14, co14, eo14⟩ := Kd.R_slice HO103.out; subst eo14; have p104 : 0 ≤ (a1 : Int) := tD; have q104 : a1 < (t101.length : Int) := tD; obtain ⟨ad104, e104, hx104_0⟩ := Kd.at_int (Kd.R_reads' HO103.out).2.2 a1 p104 q104; cases e104; replace p104 := eq_true p104; replace q104 := eq_true q104))
       repeat (go_quiet (first | (go_at_call 56; (with_reducible refine (petrinetref16_distances.calls kj3 _ _ l0 _ _ l2 t101 _ ?side1 ?side2 ?side3 ?side4 A7.out).mono ?_); (case side1 => exact tC (Kd.C_below HR0.out HB.out)); (case side2 => exact HC0.out); (case side3 => exact tC (Kd.C_below HR2.out HB.out)); (case side4 => exact HC2.out); rintro e w13 ⟨v102, rfl, ho0, hb⟩; have n0_ := Aside0.mk (Kd.R_lower ho0 (below_size (tB))); have n1_ := Aside0.mk (below_step (tB) hb); clear HB; have HO103 := n0_; have HB := n1_; clear n0_ n1_; (try clear hb); (try clear hb2); (try clear hk); (try clear hi); (try clear ho0); obtain ⟨Ao14, co14, eo14⟩ := Kd.R_slice HO103.out; subst eo14; have p104 : 0 ≤ (a1 : Int) := tD; have q104 : a1 < (t101.length : Int) := tD; obtain ⟨ad104, e104, hx104_0⟩ := Kd.at_int (Kd.R_reads' HO103.out).2.2 a1 p104 q104; cases e104; replace p104 := eq_true p104; replace q104 := eq_true q104)); try go_wp2_with (first | (go_at_call 56; (with_reducible refine (petrinetref16_distances.calls kj3 _ _ l0 _ _ l2 t101 _ ?side1 ?side2 ?side3 ?side4 A7.out).mono ?_); (case side1 => exact tC (Kd.C_below HR0.out HB.out)); (case side2 => exact HC0.out); (case side3 => exact tC (Kd.C_below HR2.out HB.out)); (case side4 => exact HC2.out); rintro e w13 ⟨v102, rfl, ho0, hb⟩; have n0_ := Aside0.mk (Kd.R_lower ho0 (below_size (tB))); have n1_ := Aside0.mk (below_step (tB) hb); clear HB; have HO103 := n0_; have HB := n1_; clear n0_ n1_; (try clear hb); (try clear hb2); (try clear hk); (try clear hi); (try clear ho0); obtain ⟨Ao14, co14, eo14⟩ := Kd.R_slice HO103.out; subst eo14; have p104 : 0 ≤ (a1 : Int) := tD; have q104 : a1 < (t101.length : Int) := tD; obtain ⟨ad104, e104, hx104_0⟩ := Kd.at_int (Kd.R_reads' HO103.out).2.2 a1 p104 q104; cases e104; replace p104 := eq_true p104; replace q104 := eq_true q104)))
       go_loopg [9, 10] kj3 (fun kq v9 v10 w' => ∃ (x9_2 : List Int) (x10_2 : Int), v10 = .int .i64 x10_2 ∧ Aside0 (petrinetref16_follow.l0 kq l0 t101 x9_2 x10_2 = some (r1, r2)) ∧ Aside0 (kq ≤ kj3) ∧ Aside0 (Kd.R (Kd.int .i64) 3 w' w.heap.size (fun k_ => some k_ ≠ (v9 : Value).ownBlock) (.slice (some ad104) t101.length co14) t101) ∧ Aside0 (Kd.R (Kd.int .i64) 3 w' w.heap.size (fun k_ => some k_ ≠ ((.slice (some ad104) t101.length co14) : Value).ownBlock) v9 x9_2) ∧ Aside0 (Below w.heap.size w w'))
       case atStart => exact ⟨(([] : List Int)), (a1), (by first | rfl | (simp; done) | (simp [*]; done)), H', ⟨Nat.le_refl _⟩, ⟨by (with_reducible repeat (first | apply Kd.R_alloc | apply Kd.R_drewN | apply Kd.R_drew)); exact Kd.R_mono HO103.out (fun _ hk => (by simp [Value.ownBlock]))⟩, ⟨by first | exact Kd.R_nil _ _ _ _ _ | exact Kd.N_nil _ _ _ _ _ | exact Kd.V_nil _ _ _ _ _ | exact Kd.Q_nil _ _ _ _ _ | exact Kd.S_nil _ _ _ _ _⟩, ⟨tB⟩⟩
       case round =>
        clear H'
        try clear c1
        try clear p1
        try clear q1
        try clear hx1
        try clear c2
        try clear p2
        try clear c3
        try clear c5
        try clear c5b0
        try clear c6
        try clear c8
        try clear c8b0
        try clear c9
        try clear c9b0
        try clear c10
        try clear c10b0
        try clear p10
        try clear q10
        try clear hx10
        try clear hx104_0
        try clear p104
        try clear p2
        try clear q104
        obtain ⟨x9_2, x10_2, rfl, HA, HK2, HO_8, HO_9, HB⟩ := hrel
        cases gk with
        | zero => exact absurd HA.out (by simp [petrinetref16_follow.l0])
        | succ k2 =>
         have H := HA.out
         clear HA
         simp only [petrinetref16_follow.l0] at H
         by_cases c15 : 0 ≤ x10_2
         ·rw [if_pos c15] at H
          have c15b0 : decide (0 ≤ x10_2) = true := decide_eq_true c15
          clear c15
          by_cases c16 : x10_2 < (t101.length : Int)
          ·rw [if_pos c16] at H
           have c16b0 : decide (x10_2 < (t101.length : Int)) = true := decide_eq_true c16
           clear c16
           by_cases c17 : (rd t101 x10_2) > 0
           ·rw [if_pos c17] at H
            have c17b0 : decide (0 < (rd t101 x10_2)) = true := decide_eq_true c17
            clear c17
            have H' := Aside0.mk H
            clear H
            have p105 : 0 ≤ (x10_2 : Int) := tD
            have q105 : x10_2 < (t101.length : Int) := tD
            obtain ⟨ad105, e105, hx105_0⟩ := Kd.at_int (Kd.R_reads' HO_8.out).2.2 x10_2 p105 q105
            obtain rfl : ad104 = ad105 := (by injection e105)
            replace p105 := eq_true p105
            replace q105 := eq_true q105
            go_wp2
            repeat (go_quiet (fail); try go_wp2)
            go_loopg [11] k2 (fun kq v11 w' => ∃ (x11_3 : Int), v11 = .int .i64 x11_3 ∧ Aside0 (petrinetref16_follow.l1 kq l0 t101 x9_2 x10_2 x11_3 = some (r1, r2)) ∧ Aside0 (kq ≤ k2) ∧ Aside0 (Kd.R (Kd.int .i64) 3 w' w.heap.size (fun k_ => some k_ ≠ (u9 : Value).ownBlock) (.slice (some ad104) t101.length co14) t101) ∧ Aside0 (Kd.R (Kd.int .i64) 3 w' w.heap.size (fun k_ => some k_ ≠ ((.slice (some ad104) t101.length co14) : Value).ownBlock) u9 x9_2) ∧ Aside0 (Below w.heap.size w w'))
            case atStart => exact ⟨(0), (by first | rfl | (simp; done) | (simp [*]; done)), H', ⟨Nat.le_refl _⟩, ⟨tR HO_8⟩, ⟨tR HO_9⟩, ⟨tB⟩⟩
            case round =>
             clear H'
             try clear c1
             try clear p1
             try clear q1
             try clear hx1
             try clear c2
             try clear p2
             try clear c3
             try clear c5
             try clear c5b0
             try clear c6
             try clear c8
             try clear c8b0
             try clear c9
             try clear c9b0
             try clear c10
             try clear c10b0
             try clear p10
             try clear q10
             try clear hx10
             try clear c15
             try clear c15b0
             try clear c16
             try clear c16b0
             try clear c17
             try clear c17b0
             try clear hx104_0
             try clear hx105_0
             try clear p1
             try clear p10
             try clear p104
             try clear p105
             try clear p2
             try clear q1
             try clear q10
             try clear q104
             try clear q105
             obtain ⟨x11_3, rfl, HA, HK3, HO_8, HO_9, HB⟩ := hrel
             cases gk with
             | zero => exact absurd HA.out (by simp [petrinetref16_follow.l1])
             | succ k3 =>
              have H := HA.out
              clear HA
              simp only [petrinetref16_follow.l1] at H
              by_cases c18 : 0 ≤ x10_2
              ·rw [if_pos c18] at H
               have c18b0 : decide (0 ≤ x10_2) = true := decide_eq_true c18
               clear c18
               by_cases c19 : x10_2 < (l0.length : Int)
               ·rw [if_pos c19] at H
                have c19b0 : decide (x10_2 < (l0.length : Int)) = true := decide_eq_true c19
                clear c19
                by_cases c20 : 0 ≤ x11_3
                ·rw [if_pos c20] at H
                 have c20b0 : decide (0 ≤ x11_3) = true := decide_eq_true c20
                 clear c20
                 by_cases c21 : x11_3 < ((rd_L80 l0 x10_2).length : Int)
                 ·rw [if_pos c21] at H
                  have c21b0 : decide (x11_3 < ((rd_L80 l0 x10_2).length : Int)) = true := decide_eq_true c21
                  clear c21
                  by_cases c22 : 0 ≤ ((rd_T80 (rd_L80 l0 x10_2) x11_3).f2)
                  ·rw [if_pos c22] at H
                   have c22b0 : decide (0 ≤ ((rd_T80 (rd_L80 l0 x10_2) x11_3).f2)) = true := decide_eq_true c22
                   clear c22
                   by_cases c23 : ((rd_T80 (rd_L80 l0 x10_2) x11_3).f2) < (t101.length : Int)
                   ·rw [if_pos c23] at H
                    have c23b0 : decide (((rd_T80 (rd_L80 l0 x10_2) x11_3).f2) < (t101.length : Int)) = true := decide_eq_true c23
                    clear c23
                    by_cases c24 : x10_2 < (t101.length : Int)
                    ·rw [if_pos c24] at H
                     have c24b0 : decide (x10_2 < (t101.length : Int)) = true := decide_eq_true c24
                     clear c24
                     by_cases c25 : (rd t101 ((rd_T80 (rd_L80 l0 x10_2) x11_3).f2)) = (wrap64 ((rd t101 x10_2) - 1))
                     ·rw [if_pos c25] at H
                      have c25b0 : ((rd t101 ((rd_T80 (rd_L80 l0 x10_2) x11_3).f2)) == (wrap64 ((rd t101 x10_2) - 1))) = true := beq_iff_eq.mpr c25
                      have c25b1 : ((rd t101 ((rd_T80 (rd_L80 l0 x10_2) x11_3).f2)) != (wrap64 ((rd t101 x10_2) - 1))) = false := bne_eq_false_iff_eq.mpr c25
                      clear c25
                      by_cases c26 : x9_2.length < 17592186044416
                      ·rw [if_pos c26] at H
                       have LMc26 := Aside0.mk c26
                       clear c26
                       obtain ⟨y112, hy112⟩ : ∃ y_ : List Int, y_ = (x9_2 ++ [(rd_T80 (rd_L80 l0 x10_2) x11_3).f1]) := ⟨_, rfl⟩
                       replace H : (petrinetref16_follow.l0 k3 l0 t101 y112 ((rd_T80 (rd_L80 l0 x10_2) x11_3).f2)) = some (r1, r2) := by first | (rw [hy112]; with_reducible exact H) | (have H2_ := (Option.bind_some _ _).symm.trans H; rw [hy112]; with_reducible exact H2_) | (have H2_ := (Option.bind_some _ _).symm.trans H; with_reducible exact H2_) | with_reducible exact H | (rw [hy112]; exact H) | exact H
                       have Ny112 := Aside0.mk hy112
                       clear hy112
                       have H' := Aside0.mk H
                       clear H
                       have p106 : 0 ≤ (x10_2 : Int) := tD
                       have q106 : x10_2 < (l0.length : Int) := tD
                       obtain ⟨ad106, A106_0, c106_0, e106, hx106_0, hl106_0, hi106_0⟩ := at_L80 HR0.out x10_2 p106 q106
                       cases e106
                       replace hx106_0 := (HB.out.cell (World.block_lt_of_cell? w _ hx106_0)).trans hx106_0
                       have HR106_0 := Aside0.mk hi106_0
                       have HC106_0 := Aside0.mk hl106_0
                       clear hi106_0 hl106_0
                       replace p106 := eq_true p106
                       replace q106 := eq_true q106
                       have p107 : 0 ≤ (x11_3 : Int) := tD
                       have q107 : x11_3 < ((rd_L80 l0 x10_2).length : Int) := tD
                       obtain ⟨ad107, e107, hx107_0, hx107_1, hx107_2⟩ := at_T80 HR106_0.out x11_3 p107 q107
                       cases e107
                       replace hx107_0 := (HB.out.cell (World.block_lt_of_cell? w _ hx107_0)).trans hx107_0
                       replace hx107_1 := (HB.out.cell (World.block_lt_of_cell? w _ hx107_1)).trans hx107_1
                       replace hx107_2 := (HB.out.cell (World.block_lt_of_cell? w _ hx107_2)).trans hx107_2
                       replace p107 := eq_true p107
                       replace q107 := eq_true q107
                       have p108 : 0 ≤ (((rd_T80 (rd_L80 l0 x10_2) x11_3).f2) : Int) := tD
                       have q108 : ((rd_T80 (rd_L80 l0 x10_2) x11_3).f2) < (t101.length : Int) := tD
                       obtain ⟨ad108, e108, hx108_0⟩ := Kd.at_int (Kd.R_reads' HO_8.out).2.2 ((rd_T80 (rd_L80 l0 x10_2) x11_3).f2) p108 q108
                       obtain rfl : ad104 = ad108 := (by injection e108)
                       replace p108 := eq_true p108
                       replace q108 := eq_true q108
                       have p109 : 0 ≤ (x10_2 : Int) := tD
                       have q109 : x10_2 < (t101.length : Int) := tD
                       obtain ⟨ad109, e109, hx109_0⟩ := Kd.at_int (Kd.R_reads' HO_8.out).2.2 x10_2 p109 q109
                       obtain rfl : ad104 = ad109 := (by injection e109)
                       replace p109 := eq_true p109
                       replace q109 := eq_true q109
                       have p110 : 0 ≤ (x10_2 : Int) := tD
                       have q110 : x10_2 < (l0.length : Int) := tD
                       obtain ⟨ad110, A110_0, c110_0, e110, hx110_0, hl110_0, hi110_0⟩ := at_L80 HR0.out x10_2 p110 q110
                       obtain rfl : ad106 = ad110 := (by injection e110)
                       replace hx110_0 := (HB.out.cell (World.block_lt_of_cell? w _ hx110_0)).trans hx110_0
                       have HR110_0 := Aside0.mk hi110_0
                       have HC110_0 := Aside0.mk hl110_0
                       clear hi110_0 hl110_0
                       replace p110 := eq_true p110
                       replace q110 := eq_true q110
                       have ea_ := Option.some.inj (hx106_0.symm.trans hx110_0)
                       injection ea_ with ea_ en_ ec_
                       subst ea_
                       subst ec_
                       clear en_
                       have p111 : 0 ≤ (x11_3 : Int) := tD
                       have q111 : x11_3 < ((rd_L80 l0 x10_2).length : Int) := tD
                       obtain ⟨ad111, e111, hx111_0, hx111_1, hx111_2⟩ := at_T80 HR110_0.out x11_3 p111 q111
                       cases e111
                       replace hx111_0 := (HB.out.cell (World.block_lt_of_cell? w _ hx111_0)).trans hx111_0
                       replace hx111_1 := (HB.out.cell (World.block_lt_of_cell? w _ hx111_1)).trans hx111_1
                       replace hx111_2 := (HB.out.cell (World.block_lt_of_cell? w _ hx111_2)).trans hx111_2
                       replace p111 := eq_true p111
                       replace q111 := eq_true q111
                       go_wp2_with (first | ((with_reducible refine gate_builtin (b := .append) (xs := #[.tmp 53, .tmp 62]) rfl ?_); (try (refine gate_guard (by rfl) ?_; dsimp only)); at_builtin; refine Kd.R_append (Kd.int .i64) (w0 := w) w.heap.size rfl (.tmp 53) (.tmp 62) 28 3 (.int .i64 0) 8 rfl Try.underlying28 info3 rfl (by decide) (by omega) u9 x9_2 ((rd_T80 (rd_L80 l0 x10_2) x11_3).f1) [.int .i64 ((rd_T80 (rd_L80 l0 x10_2) x11_3).f1)] (fun k_ => some k_ ≠ (.slice (some ad104) t101.length co14 : Value).ownBlock) (fun _ => False) rfl rfl ?aP (fun _ hk => hk.elim) ?aF ?aO ?aB ?aS ?aL ?_; (case aP => exact rfl); (case aB => exact (tB)); (case aF => exact (fun k_ hk => Kd.fresh' (Kd.R_lt (tR HO_8)) k_ hk)); (case aO => exact (tR HO_9)); (case aS => exact (below_size (tB))); (case aL => have := LMc26.out; omega); intro v113 w27 ho hb hg hat; rw [← Ny112.out] at ho; have n0_ := Aside0.mk (Kd.R_after (ok := (fun _ => True)) (by (with_reducible repeat (first | apply Kd.R_alloc | apply Kd.R_drewN | apply Kd.R_drew)); exact Kd.R_mono HO_8.out (fun _ hk => ⟨trivial, hk⟩)) hg hat); have n1_ := Aside0.mk (hb); have n2_ := Aside0.mk (ho); clear HO_8; clear HB; clear HO_9; have HO_8 := n0_; have HB := n1_; have HO114 := n2_; clear n0_ n1_ n2_; clear ho hb hg hat; have p115 : 0 ≤ (x10_2 : Int) := tD; have q115 : x10_2 < (l0.length : Int) := tD; obtain ⟨ad115, A115_0, c115_0, e115, hx115_0, hl115_0, hi115_0⟩ := at_L80 HR0.out x10_2 p115 q115; obtain rfl : ad106 = ad115 := (by injection e115); replace hx115_0 := (HB.out.cell (World.block_lt_of_cell? w _ hx115_0)).trans hx115_0; have HR115_0 := Aside0.mk hi115_0; have HC115_0 := Aside0.mk hl115_0; clear hi115_0 hl115_0; replace p115 := eq_true p115; replace q115 := eq_true q115; have p116 : 0 ≤ (x11_3 : Int) := tD; have q116 : x11_3 < ((rd_L80 l0 x10_2).length : Int) := tD; obtain ⟨ad116, e116, hx116_0, hx116_1, hx116_2⟩ := at_T80 HR115_0.out x11_3 p116 q116; cases e116; replace hx116_0 := (HB.out.cell (World.block_lt_of_cell? w _ hx116_0)).trans hx116_0; replace hx116_1 := (HB.out.cell (World.block_lt_of_cell? w _ hx116_1)).trans hx116_1; replace hx116_2 := (HB.out.cell (World.block_lt_of_cell? w _ hx116_2)).trans hx116_2; replace p116 := eq_true p116; replace q116 := eq_true q116))
                       repeat (go_quiet (first | ((with_reducible refine gate_builtin (b := .append) (xs := #[.tmp 53, .tmp 62]) rfl ?_); (try (refine gate_guard (by rfl) ?_; dsimp only)); at_builtin; refine Kd.R_append (Kd.int .i64) (w0 := w) w.heap.size rfl (.tmp 53) (.tmp 62) 28 3 (.int .i64 0) 8 rfl Try.underlying28 info3 rfl (by decide) (by omega) u9 x9_2 ((rd_T80 (rd_L80 l0 x10_2) x11_3).f1) [.int .i64 ((rd_T80 (rd_L80 l0 x10_2) x11_3).f1)] (fun k_ => some k_ ≠ (.slice (some ad104) t101.length co14 : Value).ownBlock) (fun _ => False) rfl rfl ?aP (fun _ hk => hk.elim) ?aF ?aO ?aB ?aS ?aL ?_; (case aP => exact rfl); (case aB => exact (tB)); (case aF => exact (fun k_ hk => Kd.fresh' (Kd.R_lt (tR HO_8)) k_ hk)); (case aO => exact (tR HO_9)); (case aS => exact (below_size (tB))); (case aL => have := LMc26.out; omega); intro v113 w27 ho hb hg hat; rw [← Ny112.out] at ho; have n0_ := Aside0.mk (Kd.R_after (ok := (fun _ => True)) (by (with_reducible repeat (first | apply Kd.R_alloc | apply Kd.R_drewN | apply Kd.R_drew)); exact Kd.R_mono HO_8.out (fun _ hk => ⟨trivial, hk⟩)) hg hat); have n1_ := Aside0.mk (hb); have n2_ := Aside0.mk (ho); clear HO_8; clear HB; clear HO_9; have HO_8 := n0_; have HB := n1_; have HO114 := n2_; clear n0_ n1_ n2_; clear ho hb hg hat; have p115 : 0 ≤ (x10_2 : Int) := tD; have q115 : x10_2 < (l0.length : Int) := tD; obtain ⟨ad115, A115_0, c115_0, e115, hx115_0, hl115_0, hi115_0⟩ := at_L80 HR0.out x10_2 p115 q115; obtain rfl : ad106 = ad115 := (by injection e115); replace hx115_0 := (HB.out.cell (World.block_lt_of_cell? w _ hx115_0)).trans hx115_0; have HR115_0 := Aside0.mk hi115_0; have HC115_0 := Aside0.mk hl115_0; clear hi115_0 hl115_0; replace p115 := eq_true p115; replace q115 := eq_true q115; have p116 : 0 ≤ (x11_3 : Int) := tD; have q116 : x11_3 < ((rd_L80 l0 x10_2).length : Int) := tD; obtain ⟨ad116, e116, hx116_0, hx116_1, hx116_2⟩ := at_T80 HR115_0.out x11_3 p116 q116; cases e116; replace hx116_0 := (HB.out.cell (World.block_lt_of_cell? w _ hx116_0)).trans hx116_0; replace hx116_1 := (HB.out.cell (World.block_lt_of_cell? w _ hx116_1)).trans hx116_1; replace hx116_2 := (HB.out.cell (World.block_lt_of_cell? w _ hx116_2)).trans hx116_2; replace p116 := eq_true p116; replace q116 := eq_true q116)); try go_wp2_with (first | ((with_reducible refine gate_builtin (b := .append) (xs := #[.tmp 53, .tmp 62]) rfl ?_); (try (refine gate_guard (by rfl) ?_; dsimp only)); at_builtin; refine Kd.R_append (Kd.int .i64) (w0 := w) w.heap.size rfl (.tmp 53) (.tmp 62) 28 3 (.int .i64 0) 8 rfl Try.underlying28 info3 rfl (by decide) (by omega) u9 x9_2 ((rd_T80 (rd_L80 l0 x10_2) x11_3).f1) [.int .i64 ((rd_T80 (rd_L80 l0 x10_2) x11_3).f1)] (fun k_ => some k_ ≠ (.slice (some ad104) t101.length co14 : Value).ownBlock) (fun _ => False) rfl rfl ?aP (fun _ hk => hk.elim) ?aF ?aO ?aB ?aS ?aL ?_; (case aP => exact rfl); (case aB => exact (tB)); (case aF => exact (fun k_ hk => Kd.fresh' (Kd.R_lt (tR HO_8)) k_ hk)); (case aO => exact (tR HO_9)); (case aS => exact (below_size (tB))); (case aL => have := LMc26.out; omega); intro v113 w27 ho hb hg hat; rw [← Ny112.out] at ho; have n0_ := Aside0.mk (Kd.R_after (ok := (fun _ => True)) (by (with_reducible repeat (first | apply Kd.R_alloc | apply Kd.R_drewN | apply Kd.R_drew)); exact Kd.R_mono HO_8.out (fun _ hk => ⟨trivial, hk⟩)) hg hat); have n1_ := Aside0.mk (hb); have n2_ := Aside0.mk (ho); clear HO_8; clear HB; clear HO_9; have HO_8 := n0_; have HB := n1_; have HO114 := n2_; clear n0_ n1_ n2_; clear ho hb hg hat; have p115 : 0 ≤ (x10_2 : Int) := tD; have q115 : x10_2 < (l0.length : Int) := tD; obtain ⟨ad115, A115_0, c115_0, e115, hx115_0, hl115_0, hi115_0⟩ := at_L80 HR0.out x10_2 p115 q115; obtain rfl : ad106 = ad115 := (by injection e115); replace hx115_0 := (HB.out.cell (World.block_lt_of_cell? w _ hx115_0)).trans hx115_0; have HR115_0 := Aside0.mk hi115_0; have HC115_0 := Aside0.mk hl115_0; clear hi115_0 hl115_0; replace p115 := eq_true p115; replace q115 := eq_true q115; have p116 : 0 ≤ (x11_3 : Int) := tD; have q116 : x11_3 < ((rd_L80 l0 x10_2).length : Int) := tD; obtain ⟨ad116, e116, hx116_0, hx116_1, hx116_2⟩ := at_T80 HR115_0.out x11_3 p116 q116; cases e116; replace hx116_0 := (HB.out.cell (World.block_lt_of_cell? w _ hx116_0)).trans hx116_0; replace hx116_1 := (HB.out.cell (World.block_lt_of_cell? w _ hx116_1)).trans hx116_1; replace hx116_2 := (HB.out.cell (World.block_lt_of_cell? w _ hx116_2)).trans hx116_2; replace p116 := eq_true p116; replace q116 := eq_true q116)))
                       go_roundg k3
                       case measure => have := HJ3.out; have := HK2.out; have := HK3.out; omega
                       case rel => exact ⟨(y112), ((rd_T80 (rd_L80 l0 x10_2) x11_3).f2), (by first | rfl | (simp; done) | (simp [*]; done)), H', ⟨by have := HJ3.out; have := HK2.out; have := HK3.out; omega⟩, ⟨by (with_reducible repeat (first | apply Kd.R_alloc | apply Kd.R_drewN | apply Kd.R_drew)); exact Kd.R_mono HO_8.out (fun _ hk => hk.2)⟩, ⟨tR HO114⟩, ⟨tB⟩⟩
                      ·rw [if_neg c26] at H
                       exact absurd H (by simp)
                     ·rw [if_neg c25] at H
                      have c25b0 : ((rd t101 ((rd_T80 (rd_L80 l0 x10_2) x11_3).f2)) == (wrap64 ((rd t101 x10_2) - 1))) = false := beq_eq_false_iff_ne.mpr c25
                      have c25b1 : ((rd t101 ((rd_T80 (rd_L80 l0 x10_2) x11_3).f2)) != (wrap64 ((rd t101 x10_2) - 1))) = true := bne_iff_ne.mpr c25
                      have H' := Aside0.mk H
                      clear H
                      have p106 : 0 ≤ (x10_2 : Int) := tD
                      have q106 : x10_2 < (l0.length : Int) := tD
                      obtain ⟨ad106, A106_0, c106_0, e106, hx106_0, hl106_0, hi106_0⟩ := at_L80 HR0.out x10_2 p106 q106
                      cases e106
                      replace hx106_0 := (HB.out.cell (World.block_lt_of_cell? w _ hx106_0)).trans hx106_0
                      have HR106_0 := Aside0.mk hi106_0
                      have HC106_0 := Aside0.mk hl106_0
                      clear hi106_0 hl106_0
                      replace p106 := eq_true p106
                      replace q106 := eq_true q106
                      have p107 : 0 ≤ (x11_3 : Int) := tD
                      have q107 : x11_3 < ((rd_L80 l0 x10_2).length : Int) := tD
                      obtain ⟨ad107, e107, hx107_0, hx107_1, hx107_2⟩ := at_T80 HR106_0.out x11_3 p107 q107
                      cases e107
                      replace hx107_0 := (HB.out.cell (World.block_lt_of_cell? w _ hx107_0)).trans hx107_0
                      replace hx107_1 := (HB.out.cell (World.block_lt_of_cell? w _ hx107_1)).trans hx107_1
                      replace hx107_2 := (HB.out.cell (World.block_lt_of_cell? w _ hx107_2)).trans hx107_2
                      replace p107 := eq_true p107
                      replace q107 := eq_true q107
                      have p108 : 0 ≤ (((rd_T80 (rd_L80 l0 x10_2) x11_3).f2) : Int) := tD
                      have q108 : ((rd_T80 (rd_L80 l0 x10_2) x11_3).f2) < (t101.length : Int) := tD
                      obtain ⟨ad108, e108, hx108_0⟩ := Kd.at_int (Kd.R_reads' HO_8.out).2.2 ((rd_T80 (rd_L80 l0 x10_2) x11_3).f2) p108 q108
                      obtain rfl : ad104 = ad108 := (by injection e108)
                      replace p108 := eq_true p108
                      replace q108 := eq_true q108
                      have p109 : 0 ≤ (x10_2 : Int) := tD
                      have q109 : x10_2 < (t101.length : Int) := tD
                      obtain ⟨ad109, e109, hx109_0⟩ := Kd.at_int (Kd.R_reads' HO_8.out).2.2 x10_2 p109 q109
                      obtain rfl : ad104 = ad109 := (by injection e109)
                      replace p109 := eq_true p109
                      replace q109 := eq_true q109
                      go_wp2
                      repeat (go_quiet (fail); try go_wp2)
                      go_roundg k3
                      case measure => have := HJ3.out; have := HK2.out; have := HK3.out; omega
                      case rel => exact ⟨(wrap64 (x11_3 + 1)), (by first | rfl | (simp; done) | (simp [*]; done)), H', ⟨by have := HJ3.out; have := HK2.out; have := HK3.out; omega⟩, ⟨tR HO_8⟩, ⟨tR HO_9⟩, ⟨tB⟩⟩
                    ·rw [if_neg c24] at H
                     exact absurd H (by simp)
                   ·rw [if_neg c23] at H
                    exact absurd H (by simp)
                  ·rw [if_neg c22] at H
                   exact absurd H (by simp)
                 ·rw [if_neg c21] at H
                  exact absurd H (by simp)
                ·rw [if_neg c20] at H
                 exact absurd H (by simp)
               ·rw [if_neg c19] at H
                exact absurd H (by simp)
              ·rw [if_neg c18] at H
               exact absurd H (by simp)
           ·rw [if_neg c17] at H
            have c17b0 : decide (0 < (rd t101 x10_2)) = false := decide_eq_false c17
            clear c17
            simp only [Option.some.injEq, Prod.mk.injEq] at H
            obtain ⟨rfl, rfl⟩ := H
            have p105 : 0 ≤ (x10_2 : Int) := tD
            have q105 : x10_2 < (t101.length : Int) := tD
            obtain ⟨ad105, e105, hx105_0⟩ := Kd.at_int (Kd.R_reads' HO_8.out).2.2 x10_2 p105 q105
            obtain rfl : ad104 = ad105 := (by injection e105)
            replace p105 := eq_true p105
            replace q105 := eq_true q105
            go_wp2
            repeat (go_quiet (fail); try go_wp2)
            go_ret2
            exact ⟨_, tE, by (with_reducible repeat (first | apply Kd.R_alloc | apply Kd.R_drewN | apply Kd.R_drew)); exact Kd.R_mono HO_9.out (fun _ hk => trivial), tB⟩
          ·rw [if_neg c16] at H
           exact absurd H (by simp)
         ·rw [if_neg c15] at H
          exact absurd H (by simp)
     ·rw [if_neg c9] at H
      exact absurd H (by simp)
    ·rw [if_neg c8] at H
     exact absurd H (by simp)
end Go.Proofs.Ytfnjbgggmddgpaa.Q
end
