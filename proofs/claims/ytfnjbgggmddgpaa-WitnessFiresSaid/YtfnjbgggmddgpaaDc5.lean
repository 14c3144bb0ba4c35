/- Part 5 of a proof: Dc. Words and walks that a program printed for this claim stand here without what the claim does not use. -/
import Derived.Test.YtfnjbgggmddgpaaDc2
import Derived.Test.YtfnjbgggmddgpaaDc3
import Derived.Test.YtfnjbgggmddgpaaDc4
section
namespace Go.Proofs.Ytfnjbgggmddgpaa.Q
open Go.RowKit Go.Proofs.Fn Go.Proofs.YtfnjbgggmddgpaaW.PrintWords Go.Proofs.YtfnjbgggmddgpaaW.PrintLast Go.Proofs.YtfnjbgggmddgpaaW.PrintMore
attribute [local go_sem] max2_int min2_int max_two min_two max_three min_three max_four min_four
set_option linter.unusedVariables false
set_option linter.unusedSimpArgs false
mutual
def petrinetref16_Moves.l0 : Nat → Int → List (S80) → Int → List (List Int) → List (S80) → Bool → Option ((List (S80)))
 | 0, _, _, _, _, _, _ => none
 | k + 1, x1, x5, x6, x102000, x102001, x102002 => if x6 < (x102001.length : Int) then (if 0 ≤ x6 then ((petrinetref14_Sound.f x102000 x102001 x102002 ((rd_T80 x102001 x6).f0) ((rd_T80 x102001 x6).f1) ((rd_T80 x102001 x6).f2)).bind fun t104 => (if t104 = true then (petrinetref16_Moves.j1 k x1 x5 x6 (((rd_T80 x102001 x6).f0) == x1) x102000 x102001 x102002 ((rd_T80 x102001 x6).f0) ((rd_T80 x102001 x6).f1) ((rd_T80 x102001 x6).f2)) else (petrinetref16_Moves.j1 k x1 x5 x6 false x102000 x102001 x102002 ((rd_T80 x102001 x6).f0) ((rd_T80 x102001 x6).f1) ((rd_T80 x102001 x6).f2)))) else (none)) else (some x5)
def petrinetref16_Moves.j1 : Nat → Int → List (S80) → Int → Bool → List (List Int) → List (S80) → Bool → Int → Int → Int → Option ((List (S80)))
 | 0, _, _, _, _, _, _, _, _, _, _ => none
 | k + 1, x1, x5, x6, x8, x102000, x102001, x102002, x104000, x104001, x104002 => petrinetref16_Moves.l1 k x1 x5 x6 x8 0 x102000 x102001 x102002 x104000 x104001 x104002
def petrinetref16_Moves.l1 : Nat → Int → List (S80) → Int → Bool → Int → List (List Int) → List (S80) → Bool → Int → Int → Int → Option ((List (S80)))
 | 0, _, _, _, _, _, _, _, _, _, _, _ => none
 | k + 1, x1, x5, x6, x8, x9, x102000, x102001, x102002, x104000, x104001, x104002 => if x9 < (x5.length : Int) then (if x8 = true then (if 0 ≤ x9 then (petrinetref16_Moves.l1 k x1 x5 x6 (((rd_T80 x5 x9).f1) != x104001) (wrap64 (x9 + 1)) x102000 x102001 x102002 x104000 x104001 x104002) else (none)) else (petrinetref16_Moves.l1 k x1 x5 x6 false (wrap64 (x9 + 1)) x102000 x102001 x102002 x104000 x104001 x104002)) else (if x8 = true then (petrinetref16_Moves.l2 k x1 x5 x6 ([] : List (S80)) false 0 x102000 x102001 x102002 x104000 x104001 x104002) else (petrinetref16_Moves.l0 k x1 x5 (wrap64 (x6 + 1)) x102000 x102001 x102002))
def petrinetref16_Moves.l2 : Nat → Int → List (S80) → Int → List (S80) → Bool → Int → List (List Int) → List (S80) → Bool → Int → Int → Int → Option ((List (S80)))
 | 0, _, _, _, _, _, _, _, _, _, _, _, _ => none
 | k + 1, x1, x5, x6, x10, x11, x12, x102000, x102001, x102002, x104000, x104001, x104002 => if x12 < (x5.length : Int) then (if x11 = true then (if 0 ≤ x12 then (if x10.length < 5864062014805 then (petrinetref16_Moves.l2 k x1 x5 x6 (x10 ++ [(⟨(rd_T80 x5 x12).f0, (rd_T80 x5 x12).f1, (rd_T80 x5 x12).f2⟩ : S80)]) x11 (wrap64 (x12 + 1)) x102000 x102001 x102002 x104000 x104001 x104002) else (none)) else (none)) else (if 0 ≤ x12 then (if ((rd_T80 x5 x12).f1) > x104001 then (if x10.length < 5864062014805 then ((some (x10 ++ [(⟨x104000, x104001, x104002⟩ : S80)] : List (S80))).bind fun y111 => (if y111.length < 5864062014805 then (petrinetref16_Moves.l2 k x1 x5 x6 (y111 ++ [(⟨(rd_T80 x5 x12).f0, (rd_T80 x5 x12).f1, (rd_T80 x5 x12).f2⟩ : S80)]) true (wrap64 (x12 + 1)) x102000 x102001 x102002 x104000 x104001 x104002) else (none))) else (none)) else (if x10.length < 5864062014805 then (petrinetref16_Moves.l2 k x1 x5 x6 (x10 ++ [(⟨(rd_T80 x5 x12).f0, (rd_T80 x5 x12).f1, (rd_T80 x5 x12).f2⟩ : S80)]) x11 (wrap64 (x12 + 1)) x102000 x102001 x102002 x104000 x104001 x104002) else (none))) else (none))) else (if x11 = true then (petrinetref16_Moves.l0 k x1 x10 (wrap64 (x6 + 1)) x102000 x102001 x102002) else (if x10.length < 5864062014805 then (petrinetref16_Moves.l0 k x1 (x10 ++ [(⟨x104000, x104001, x104002⟩ : S80)]) (wrap64 (x6 + 1)) x102000 x102001 x102002) else (none)))
end
def petrinetref16_Moves.f (k : Nat) (l0_0 : List (List Int)) (l0_1 : List (S80)) (a0_2 : Bool) (a1 : Int) : Option ((List (S80))) := petrinetref16_Moves.l0 k a1 ([] : List (S80)) 0 l0_0 l0_1 a0_2
set_option maxHeartbeats 8000000 in
set_option maxRecDepth 100000 in
theorem petrinetref16_Moves.calls (k : Nat) (A0_0 : Option Addr) (c0_0 : Nat) (l0_0 : List (List Int)) (A0_1 : Option Addr) (c0_1 : Nat) (l0_1 : List (S80)) (a0_2 : Bool) (a1 : Int) (r : List (S80)) (w : World) (hr0_0 : Kd.C (Kd.slice 3 (Kd.int .i64)) w A0_0 l0_0.length l0_0) (hc0_0 : l0_0.length ≤ c0_0) (hr0_1 : Kd.C k80 w A0_1 l0_1.length l0_1) (hc0_1 : l0_1.length ≤ c0_1) (h : petrinetref16_Moves.f k l0_0 l0_1 a0_2 a1 = some r) :
  Calls Try.prog 58 #[.agg #[.slice A0_0 l0_0.length c0_0, .slice A0_1 l0_1.length c0_1, .bool a0_2], .int .i64 a1] w fun e w' => ∃ v0_ : Value, e = .returned (v0_) ∧ Kd.R k80 80 w' w.heap.size (fun _ => True) v0_ r ∧ Below w.heap.size w w' := by
 have hu25 := Try.underlying25
 have hu80 := Try.underlying80
 have HR0_0 := Aside0.mk hr0_0
 have HC0_0 := Aside0.mk hc0_0
 clear hr0_0 hc0_0
 have HR0_1 := Aside0.mk hr0_1
 have HC0_1 := Aside0.mk hc0_1
 clear hr0_1 hc0_1
 have HB := Aside0.mk (Below.refl w.heap.size w)
 have H : (petrinetref16_Moves.l0 k a1 ([] : List (S80)) 0 l0_0 l0_1 a0_2) = some r := h
 clear h
 have H' := Aside0.mk H
 clear H
 go_enter Try.func58, Try.ntmps58
 go_wp2_with (first | ((with_reducible refine gate_dst (N := 2) rfl ?_); refine box_event ?hg (N := 2) ?hd (cs := #[.slice A0_0 l0_0.length c0_0, .slice A0_1 l0_1.length c0_1, .bool a0_2]) (t := 25) ?hr ?_; (case hd => rfl); (case hg => rfl); (case hr => first | (go_simp; done) | (go_simp; rfl)); intro gb101 hg w3 hbox hb; have n0_ := Aside0.mk (below_step (tB) hb); have n1_ := Aside0.mk (hbox); have n2_ := Aside0.mk ((by rw [hg]; exact (below_size (tB)) : w.heap.size ≤ gb101)); have n3_ := Aside0.mk ((by rw [hg]; exact (below_size (tB)) : w.heap.size ≤ gb101)); clear HB; have HB := n0_; have BK101 := n1_; have GW101 := n2_; have GE101 := n3_; clear n0_ n1_ n2_ n3_; clear hb hbox hg))
 repeat (go_quiet (first | ((with_reducible refine gate_dst (N := 2) rfl ?_); refine box_event ?hg (N := 2) ?hd (cs := #[.slice A0_0 l0_0.length c0_0, .slice A0_1 l0_1.length c0_1, .bool a0_2]) (t := 25) ?hr ?_; (case hd => rfl); (case hg => rfl); (case hr => first | (go_simp; done) | (go_simp; rfl)); intro gb101 hg w3 hbox hb; have n0_ := Aside0.mk (below_step (tB) hb); have n1_ := Aside0.mk (hbox); have n2_ := Aside0.mk ((by rw [hg]; exact (below_size (tB)) : w.heap.size ≤ gb101)); have n3_ := Aside0.mk ((by rw [hg]; exact (below_size (tB)) : w.heap.size ≤ gb101)); clear HB; have HB := n0_; have BK101 := n1_; have GW101 := n2_; have GE101 := n3_; clear n0_ n1_ n2_ n3_; clear hb hbox hg)); try go_wp2_with (first | ((with_reducible refine gate_dst (N := 2) rfl ?_); refine box_event ?hg (N := 2) ?hd (cs := #[.slice A0_0 l0_0.length c0_0, .slice A0_1 l0_1.length c0_1, .bool a0_2]) (t := 25) ?hr ?_; (case hd => rfl); (case hg => rfl); (case hr => first | (go_simp; done) | (go_simp; rfl)); intro gb101 hg w3 hbox hb; have n0_ := Aside0.mk (below_step (tB) hb); have n1_ := Aside0.mk (hbox); have n2_ := Aside0.mk ((by rw [hg]; exact (below_size (tB)) : w.heap.size ≤ gb101)); have n3_ := Aside0.mk ((by rw [hg]; exact (below_size (tB)) : w.heap.size ≤ gb101)); clear HB; have HB := n0_; have BK101 := n1_; have GW101 := n2_; have GE101 := n3_; clear n0_ n1_ n2_ n3_; clear hb hbox hg)))
 go_loopg [5, 6] k (fun kq v5 v6 w' => ∃ (x5_1 : List (S80)) (x6_1 : Int), v6 = .int .i64 x6_1 ∧ Aside0 (petrinetref16_Moves.l0 kq a1 x5_1 x6_1 l0_0 l0_1 a0_2 = some r) ∧ Aside0 (kq ≤ k) ∧ Aside0 (Kd.R k80 80 w' w.heap.size (fun _ => True) v5 x5_1) ∧ Aside0 (w'.heap[gb101]? = some (.cells #[(.slice A0_0 l0_0.length c0_0), (.slice A0_1 l0_1.length c0_1), .bool a0_2] 25 (0, 0))) ∧ Aside0 (Below w.heap.size w w'))
 case atStart => exact ⟨(([] : List (S80))), (0), (by first | rfl | (simp; done) | (simp [*]; done)), H', ⟨Nat.le_refl _⟩, ⟨by first | exact Kd.R_nil _ _ _ _ _ | exact Kd.N_nil _ _ _ _ _ | exact Kd.V_nil _ _ _ _ _ | exact Kd.Q_nil _ _ _ _ _ | exact Kd.S_nil _ _ _ _ _⟩, ⟨tK BK101⟩, ⟨tB⟩⟩
 case round =>
  clear H'
  try clear p2
  obtain ⟨x5_1, x6_1, rfl, HA, HK1, HO_5, BK101, HB⟩ := hrel
  cases gk with
  | zero => exact absurd HA.out (by simp [petrinetref16_Moves.l0])
  | succ k1 =>
   have H := HA.out
   clear HA
   simp only [petrinetref16_Moves.l0] at H
   by_cases c4 : x6_1 < (l0_1.length : Int)
   ·rw [if_pos c4] at H
    have c4b0 : decide (x6_1 < (l0_1.length : Int)) = true := decide_eq_true c4
    clear c4
    by_cases c5 : 0 ≤ x6_1
    ·rw [if_pos c5] at H
     have c5b0 : decide (0 ≤ x6_1) = true := decide_eq_true c5
     clear c5
     have HC6 := Aside0.mk H
     clear H
     have hcz7_0 : wr.cell? ⟨gb101, 0, none⟩ = some (.slice A0_0 l0_0.length c0_0) := (blk_cell BK101.out 0).trans rfl
     have hcz7_1 : wr.cell? ⟨gb101, 1, none⟩ = some (.slice A0_1 l0_1.length c0_1) := (blk_cell BK101.out 1).trans rfl
     have hcz7_2 : wr.cell? ⟨gb101, 2, none⟩ = some (.bool a0_2) := (blk_cell BK101.out 2).trans rfl
     have hfz7_0 := blk_frozen BK101.out 0
     have hfz7_1 := blk_frozen BK101.out 1
     have hfz7_2 := blk_frozen BK101.out 2
     have p102 : 0 ≤ (x6_1 : Int) := tD
     have q102 : x6_1 < (l0_1.length : Int) := tD
     obtain ⟨ad102, e102, hx102_0, hx102_1, hx102_2⟩ := at_T80 HR0_1.out x6_1 p102 q102
     cases e102
     replace hx102_0 := (HB.out.cell (World.block_lt_of_cell? w _ hx102_0)).trans hx102_0
     replace hx102_1 := (HB.out.cell (World.block_lt_of_cell? w _ hx102_1)).trans hx102_1
     replace hx102_2 := (HB.out.cell (World.block_lt_of_cell? w _ hx102_2)).trans hx102_2
     replace p102 := eq_true p102
     replace q102 := eq_true q102
     go_upto_region 6 with (first | ((with_reducible refine gate_dst (N := 7) rfl ?_); refine box_event ?hg (N := 7) ?hd (cs := #[.int .i64 0, .int .i64 0, .int .i64 0]) (t := 80) ?hr ?_; (case hd => rfl); (case hg => rfl); (case hr => first | (go_simp; done) | (go_simp; rfl)); intro gb103 hg w8 hbox hb; have n0_ := Aside0.mk (Kd.R_below (Kd.R_elderB (tR HO_5) gb103 (Nat.le_of_eq hg.symm)) hb); have n1_ := Aside0.mk (blk_below (g := gb101) (o := .cells #[.slice A0_0 l0_0.length c0_0, .slice (some ad102) l0_1.length c0_1, .bool a0_2] 25 (0, 0)) (tK BK101) hb); have n2_ := Aside0.mk (below_step (tB) hb); have n3_ := Aside0.mk (hbox); have n4_ := Aside0.mk ((by rw [hg]; exact (below_size (tB)) : w.heap.size ≤ gb103)); have n5_ := Aside0.mk ((by rw [hg]; exact (below_size (tB)) : w.heap.size ≤ gb103)); have n6_ := Aside0.mk ((by rw [hg]; exact Nat.ne_of_lt (blk_lt (g := gb101) (o := .cells #[.slice A0_0 l0_0.length c0_0, .slice (some ad102) l0_1.length c0_1, .bool a0_2] 25 (0, 0)) (tK BK101)) : gb101 ≠ gb103)); have n7_ := Aside0.mk ((by rw [hg]; exact Nat.ne_of_gt (blk_lt (g := gb101) (o := .cells #[.slice A0_0 l0_0.length c0_0, .slice (some ad102) l0_1.length c0_1, .bool a0_2] 25 (0, 0)) (tK BK101)) : gb103 ≠ gb101)); clear HO_5; clear BK101; clear HB; have HO_5 := n0_; have BK101 := n1_; have HB := n2_; have BK103 := n3_; have GW103 := n4_; have GE103 := n5_; have NB101_103 := n6_; have NB103_101 := n7_; clear n0_ n1_ n2_ n3_ n4_ n5_ n6_ n7_; clear hb hbox hg; have hnb9 := NB103_101.out; have hnc9 := NB101_103.out; have hcz10_0 : w8.cell? ⟨gb103, 0, none⟩ = some (.int .i64 0) := (blk_cell BK103.out 0).trans rfl; have hcz10_1 : w8.cell? ⟨gb103, 1, none⟩ = some (.int .i64 0) := (blk_cell BK103.out 1).trans rfl; have hcz10_2 : w8.cell? ⟨gb103, 2, none⟩ = some (.int .i64 0) := (blk_cell BK103.out 2).trans rfl; have hfz10_0 := blk_frozen BK103.out 0; have hfz10_1 := blk_frozen BK103.out 1; have hfz10_2 := blk_frozen BK103.out 2))
     repeat (go_quiet (first | ((with_reducible refine gate_dst (N := 7) rfl ?_); refine box_event ?hg (N := 7) ?hd (cs := #[.int .i64 0, .int .i64 0, .int .i64 0]) (t := 80) ?hr ?_; (case hd => rfl); (case hg => rfl); (case hr => first | (go_simp; done) | (go_simp; rfl)); intro gb103 hg w8 hbox hb; have n0_ := Aside0.mk (Kd.R_below (Kd.R_elderB (tR HO_5) gb103 (Nat.le_of_eq hg.symm)) hb); have n1_ := Aside0.mk (blk_below (g := gb101) (o := .cells #[.slice A0_0 l0_0.length c0_0, .slice (some ad102) l0_1.length c0_1, .bool a0_2] 25 (0, 0)) (tK BK101) hb); have n2_ := Aside0.mk (below_step (tB) hb); have n3_ := Aside0.mk (hbox); have n4_ := Aside0.mk ((by rw [hg]; exact (below_size (tB)) : w.heap.size ≤ gb103)); have n5_ := Aside0.mk ((by rw [hg]; exact (below_size (tB)) : w.heap.size ≤ gb103)); have n6_ := Aside0.mk ((by rw [hg]; exact Nat.ne_of_lt (blk_lt (g := gb101) (o := .cells #[.slice A0_0 l0_0.length c0_0, .slice (some ad102) l0_1.length c0_1, .bool a0_2] 25 (0, 0)) (tK BK101)) : gb101 ≠ gb103)); have n7_ := Aside0.mk ((by rw [hg]; exact Nat.ne_of_gt (blk_lt (g := gb101) (o := .cells #[.slice A0_0 l0_0.length c0_0, .slice (some ad102) l0_1.length c0_1, .bool a0_2] 25 (0, 0)) (tK BK101)) : gb103 ≠ gb101)); clear HO_5; clear BK101; clear HB; have HO_5 := n0_; have BK101 := n1_; have HB := n2_; have BK103 := n3_; have GW103 := n4_; have GE103 := n5_; have NB101_103 := n6_; have NB103_101 := n7_; clear n0_ n1_ n2_ n3_ n4_ n5_ n6_ n7_; clear hb hbox hg; have hnb9 := NB103_101.out; have hnc9 := NB101_103.out; have hcz10_0 : w8.cell? ⟨gb103, 0, none⟩ = some (.int .i64 0) := (blk_cell BK103.out 0).trans rfl; have hcz10_1 : w8.cell? ⟨gb103, 1, none⟩ = some (.int .i64 0) := (blk_cell BK103.out 1).trans rfl; have hcz10_2 : w8.cell? ⟨gb103, 2, none⟩ = some (.int .i64 0) := (blk_cell BK103.out 2).trans rfl; have hfz10_0 := blk_frozen BK103.out 0; have hfz10_1 := blk_frozen BK103.out 1; have hfz10_2 := blk_frozen BK103.out 2)); go_upto_region 6 with (first | ((with_reducible refine gate_dst (N := 7) rfl ?_); refine box_event ?hg (N := 7) ?hd (cs := #[.int .i64 0, .int .i64 0, .int .i64 0]) (t := 80) ?hr ?_; (case hd => rfl); (case hg => rfl); (case hr => first | (go_simp; done) | (go_simp; rfl)); intro gb103 hg w8 hbox hb; have n0_ := Aside0.mk (Kd.R_below (Kd.R_elderB (tR HO_5) gb103 (Nat.le_of_eq hg.symm)) hb); have n1_ := Aside0.mk (blk_below (g := gb101) (o := .cells #[.slice A0_0 l0_0.length c0_0, .slice (some ad102) l0_1.length c0_1, .bool a0_2] 25 (0, 0)) (tK BK101) hb); have n2_ := Aside0.mk (below_step (tB) hb); have n3_ := Aside0.mk (hbox); have n4_ := Aside0.mk ((by rw [hg]; exact (below_size (tB)) : w.heap.size ≤ gb103)); have n5_ := Aside0.mk ((by rw [hg]; exact (below_size (tB)) : w.heap.size ≤ gb103)); have n6_ := Aside0.mk ((by rw [hg]; exact Nat.ne_of_lt (blk_lt (g := gb101) (o := .cells #[.slice A0_0 l0_0.length c0_0, .slice (some ad102) l0_1.length c0_1, .bool a0_2] 25 (0, 0)) (tK BK101)) : gb101 ≠ gb103)); have n7_ := Aside0.mk ((by rw [hg]; exact Nat.ne_of_gt (blk_lt (g := gb101) (o := .cells #[.slice A0_0 l0_0.length c0_0, .slice (some ad102) l0_1.length c0_1, .bool a0_2] 25 (0, 0)) (tK BK101)) : gb103 ≠ gb101)); clear HO_5; clear BK101; clear HB; have HO_5 := n0_; have BK101 := n1_; have HB := n2_; have BK103 := n3_; have GW103 := n4_; have GE103 := n5_; have NB101_103 := n6_; have NB103_101 := n7_; clear n0_ n1_ n2_ n3_ n4_ n5_ n6_ n7_; clear hb hbox hg; have hnb9 := NB103_101.out; have hnc9 := NB101_103.out; have hcz10_0 : w8.cell? ⟨gb103, 0, none⟩ = some (.int .i64 0) := (blk_cell BK103.out 0).trans rfl; have hcz10_1 : w8.cell? ⟨gb103, 1, none⟩ = some (.int .i64 0) := (blk_cell BK103.out 1).trans rfl; have hcz10_2 : w8.cell? ⟨gb103, 2, none⟩ = some (.int .i64 0) := (blk_cell BK103.out 2).trans rfl; have hfz10_0 := blk_frozen BK103.out 0; have hfz10_1 := blk_frozen BK103.out 1; have hfz10_2 := blk_frozen BK103.out 2)))
     (try simp only [Act.put, List.setIfInBounds_toArray, List.set_cons_zero, List.set_cons_succ])
     go_cut [8] (fun v8 wc => ∃ (kq : Nat) (x8_5 : Bool), v8 = .bool x8_5 ∧ Aside0 (petrinetref16_Moves.j1 kq a1 x5_1 x6_1 x8_5 l0_0 l0_1 a0_2 ((rd_T80 l0_1 x6_1).f0) ((rd_T80 l0_1 x6_1).f1) ((rd_T80 l0_1 x6_1).f2) = some r) ∧ Aside0 (kq ≤ k1) ∧ Aside0 (Kd.R k80 80 wc w.heap.size (fun k_ => k_ ≠ gb103) u5 x5_1) ∧ Aside0 (wc.heap[gb101]? = some (.cells #[(.slice A0_0 l0_0.length c0_0), (.slice (some ad102) l0_1.length c0_1), .bool a0_2] 25 (0, 0))) ∧ Aside0 (wc.heap[gb103]? = some (.cells #[.int .i64 ((rd_T80 l0_1 x6_1).f0), .int .i64 ((rd_T80 l0_1 x6_1).f1), .int .i64 ((rd_T80 l0_1 x6_1).f2)] 80 (0, 0))) ∧ Aside0 (Below w.heap.size w wc))
     case first =>
      have H := HC6.out
      clear HC6
      replace H := Option.bind_eq_some_iff.mp H
      obtain ⟨t104, A110, H⟩ := H
      replace H : (if t104 = true then (petrinetref16_Moves.j1 k1 a1 x5_1 x6_1 (((rd_T80 l0_1 x6_1).f0) == a1) l0_0 l0_1 a0_2 ((rd_T80 l0_1 x6_1).f0) ((rd_T80 l0_1 x6_1).f1) ((rd_T80 l0_1 x6_1).f2)) else (petrinetref16_Moves.j1 k1 a1 x5_1 x6_1 false l0_0 l0_1 a0_2 ((rd_T80 l0_1 x6_1).f0) ((rd_T80 l0_1 x6_1).f1) ((rd_T80 l0_1 x6_1).f2))) = some r := H
      have A11 := Aside0.mk A110
      clear A110
      by_cases c12 : t104 = true
      ·subst c12
       have H1 : (petrinetref16_Moves.j1 k1 a1 x5_1 x6_1 (((rd_T80 l0_1 x6_1).f0) == a1) l0_0 l0_1 a0_2 ((rd_T80 l0_1 x6_1).f0) ((rd_T80 l0_1 x6_1).f1) ((rd_T80 l0_1 x6_1).f2)) = some r := by rw [if_pos rfl] at H; exact H
       clear H
       have H := H1
       clear H1
       have H' := Aside0.mk H
       clear H
       have hnb13 := NB101_103.out
       have hnc13 := NB103_101.out
       have hcz14_0 : w8.cell? ⟨gb101, 0, none⟩ = some (.slice A0_0 l0_0.length c0_0) := (blk_cell BK101.out 0).trans rfl
       have hcz14_1 : w8.cell? ⟨gb101, 1, none⟩ = some (.slice (some ad102) l0_1.length c0_1) := (blk_cell BK101.out 1).trans rfl
       have hcz14_2 : w8.cell? ⟨gb101, 2, none⟩ = some (.bool a0_2) := (blk_cell BK101.out 2).trans rfl
       have hfz14_0 := blk_frozen BK101.out 0
       have hfz14_1 := blk_frozen BK101.out 1
       have hfz14_2 := blk_frozen BK101.out 2
       have hcz15_0 : w8.cell? ⟨gb103, 0, none⟩ = some (.int .i64 0) := (blk_cell BK103.out 0).trans rfl
       have hcz15_1 : w8.cell? ⟨gb103, 1, none⟩ = some (.int .i64 0) := (blk_cell BK103.out 1).trans rfl
       have hcz15_2 : w8.cell? ⟨gb103, 2, none⟩ = some (.int .i64 0) := (blk_cell BK103.out 2).trans rfl
       have hfz15_0 := blk_frozen BK103.out 0
       have hfz15_1 := blk_frozen BK103.out 1
       have hfz15_2 := blk_frozen BK103.out 2
       go_wp2_with (first | (go_at_call 67; (with_reducible refine (petrinetref14_Sound.calls _ _ l0_0 _ _ l0_1 a0_2 ((rd_T80 l0_1 x6_1).f0) ((rd_T80 l0_1 x6_1).f1) ((rd_T80 l0_1 x6_1).f2) true _ ?side1 ?side2 ?side3 ?side4 A11.out).mono ?_); (case side1 => exact Kd.C_below HR0_0.out (tB)); (case side2 => exact HC0_0.out); (case side3 => exact Kd.C_below HR0_1.out (tB)); (case side4 => exact HC0_1.out); rintro e w16 ⟨rfl, hb⟩; have n0_ := Aside0.mk (Kd.R_below (by (with_reducible repeat (first | apply Kd.R_alloc | apply Kd.R_drewN | apply Kd.R_drew)); exact (Kd.R_mono (Kd.R_far (p := ⟨gb103, 2, none⟩) (Kd.R_far (p := ⟨gb103, 1, none⟩) (Kd.R_far (p := ⟨gb103, 0, none⟩) (Kd.R_mono HO_5.out (fun k_ hk => (⟨hk, hk.2⟩ : _ ∧ k_ ≠ gb103))) (fun _ hk => hk.2) (.int .i64 ((rd_T80 l0_1 x6_1).f0))) (fun _ hk => hk.2) (.int .i64 ((rd_T80 l0_1 x6_1).f1))) (fun _ hk => hk.2) (.int .i64 ((rd_T80 l0_1 x6_1).f2))) (fun _ h_ => h_.1))) hb); have n1_ := Aside0.mk (blk_below (g := gb101) (o := .cells #[.slice A0_0 l0_0.length c0_0, .slice (some ad102) l0_1.length c0_1, .bool a0_2] 25 (0, 0)) (by (with_reducible repeat (first | refine blk_drewN ?_ _ | refine blk_drew ?_ | refine blk_alloc ?_ _)); refine blk_far ?_ NB101_103.out _; (with_reducible repeat (first | refine blk_drewN ?_ _ | refine blk_drew ?_ | refine blk_alloc ?_ _)); refine blk_far ?_ NB101_103.out _; (with_reducible repeat (first | refine blk_drewN ?_ _ | refine blk_drew ?_ | refine blk_alloc ?_ _)); refine blk_far ?_ NB101_103.out _; (with_reducible repeat (first | refine blk_drewN ?_ _ | refine blk_drew ?_ | refine blk_alloc ?_ _)); exact BK101.out) hb); have n2_ := Aside0.mk (blk_below (g := gb103) (o := .cells #[.int .i64 ((rd_T80 l0_1 x6_1).f0), .int .i64 ((rd_T80 l0_1 x6_1).f1), .int .i64 ((rd_T80 l0_1 x6_1).f2)] 80 (0, 0)) (by (with_reducible repeat (first | refine blk_drewN ?_ _ | refine blk_drew ?_ | refine blk_alloc ?_ _)); refine blk_put (cs := #[.int .i64 ((rd_T80 l0_1 x6_1).f0), .int .i64 ((rd_T80 l0_1 x6_1).f1), .int .i64 0]) ?_ 2 _ rfl; (with_reducible repeat (first | refine blk_drewN ?_ _ | refine blk_drew ?_ | refine blk_alloc ?_ _)); refine blk_put (cs := #[.int .i64 ((rd_T80 l0_1 x6_1).f0), .int .i64 0, .int .i64 0]) ?_ 1 _ rfl; (with_reducible repeat (first | refine blk_drewN ?_ _ | refine blk_drew ?_ | refine blk_alloc ?_ _)); refine blk_put (cs := #[.int .i64 0, .int .i64 0, .int .i64 0]) ?_ 0 _ rfl; (with_reducible repeat (first | refine blk_drewN ?_ _ | refine blk_drew ?_ | refine blk_alloc ?_ _)); exact BK103.out) hb); have n3_ := Aside0.mk (below_step (tB) hb); clear HO_5; clear BK101; clear BK103; clear HB; have HO_5 := n0_; have BK101 := n1_; have BK103 := n2_; have HB := n3_; clear n0_ n1_ n2_ n3_; (try clear hb); (try clear hb2); (try clear hk); (try clear hi); have hcz17_0 : w16.cell? ⟨gb103, 0, none⟩ = some (.int .i64 ((rd_T80 l0_1 x6_1).f0)) := (blk_cell BK103.out 0).trans rfl; have hcz17_1 : w16.cell? ⟨gb103, 1, none⟩ = some (.int .i64 ((rd_T80 l0_1 x6_1).f1)) := (blk_cell BK103.out 1).trans rfl; have hcz17_2 : w16.cell? ⟨gb103, 2, none⟩ = some (.int .i64 ((rd_T80 l0_1 x6_1).f2)) := (blk_cell BK103.out 2).trans rfl; have hfz17_0 := blk_frozen BK103.out 0; have hfz17_1 := blk_frozen BK103.out 1; have hfz17_2 := blk_frozen BK103.out 2))
       repeat (go_quiet (first | (go_at_call 67; (with_reducible refine (petrinetref14_Sound.calls _ _ l0_0 _ _ l0_1 a0_2 ((rd_T80 l0_1 x6_1).f0) ((rd_T80 l0_1 x6_1).f1) ((rd_T80 l0_1 x6_1).f2) true _ ?side1 ?side2 ?side3 ?side4 A11.out).mono ?_); (case side1 => exact Kd.C_below HR0_0.out (tB)); (case side2 => exact HC0_0.out); (case side3 => exact Kd.C_below HR0_1.out (tB)); (case side4 => exact HC0_1.out); rintro e w16 ⟨rfl, hb⟩; have n0_ := Aside0.mk (Kd.R_below (by (with_reducible repeat (first | apply Kd.R_alloc | apply Kd.R_drewN | apply Kd.R_drew)); exact (Kd.R_mono (Kd.R_far (p := ⟨gb103, 2, none⟩) (Kd.R_far (p := ⟨gb103, 1, none⟩) (Kd.R_far (p := ⟨gb103, 0, none⟩) (Kd.R_mono HO_5.out (fun k_ hk => (⟨hk, hk.2⟩ : _ ∧ k_ ≠ gb103))) (fun _ hk => hk.2) (.int .i64 ((rd_T80 l0_1 x6_1).f0))) (fun _ hk => hk.2) (.int .i64 ((rd_T80 l0_1 x6_1).f1))) (fun _ hk => hk.2) (.int .i64 ((rd_T80 l0_1 x6_1).f2))) (fun _ h_ => h_.1))) hb); have n1_ := Aside0.mk (blk_below (g := gb101) (o := .cells #[.slice A0_0 l0_0.length c0_0, .slice (some ad102) l0_1.length c0_1, .bool a0_2] 25 (0, 0)) (by (with_reducible repeat (first | refine blk_drewN ?_ _ | refine blk_drew ?_ | refine blk_alloc ?_ _)); refine blk_far ?_ NB101_103.out _; (with_reducible repeat (first | refine blk_drewN ?_ _ | refine blk_drew ?_ | refine blk_alloc ?_ _)); refine blk_far ?_ NB101_103.out _; (with_reducible repeat (first | refine blk_drewN ?_ _ | refine blk_drew ?_ | refine blk_alloc ?_ _)); refine blk_far ?_ NB101_103.out _; (with_reducible repeat (first | refine blk_drewN ?_ _ | refine blk_drew ?_ | refine blk_alloc ?_ _)); exact BK101.out) hb); have n2_ := Aside0.mk (blk_below (g := gb103) (o := .cells #[.int .i64 ((rd_T80 l0_1 x6_1).f0), .int .i64 ((rd_T80 l0_1 x6_1).f1), .int .i64 ((rd_T80 l0_1 x6_1).f2)] 80 (0, 0)) (by (with_reducible repeat (first | refine blk_drewN ?_ _ | refine blk_drew ?_ | refine blk_alloc ?_ _)); refine blk_put (cs := #[.int .i64 ((rd_T80 l0_1 x6_1).f0), .int .i64 ((rd_T80 l0_1 x6_1).f1), .int .i64 0]) ?_ 2 _ rfl; (with_reducible repeat (first | refine blk_drewN ?_ _ | refine blk_drew ?_ | refine blk_alloc ?_ _)); refine blk_put (cs := #[.int .i64 ((rd_T80 l0_1 x6_1).f0), .int .i64 0, .int .i64 0]) ?_ 1 _ rfl; (with_reducible repeat (first | refine blk_drewN ?_ _ | refine blk_drew ?_ | refine blk_alloc ?_ _)); refine blk_put (cs := #[.int .i64 0, .int .i64 0, .int .i64 0]) ?_ 0 _ rfl; (with_reducible repeat (first | refine blk_drewN ?_ _ | refine blk_drew ?_ | refine blk_alloc ?_ _)); exact BK103.out) hb); have n3_ := Aside0.mk (below_step (tB) hb); clear HO_5; clear BK101; clear BK103; clear HB; have HO_5 := n0_; have BK101 := n1_; have BK103 := n2_; have HB := n3_; clear n0_ n1_ n2_ n3_; (try clear hb); (try clear hb2); (try clear hk); (try clear hi); have hcz17_0 : w16.cell? ⟨gb103, 0, none⟩ = some (.int .i64 ((rd_T80 l0_1 x6_1).f0)) := (blk_cell BK103.out 0).trans rfl; have hcz17_1 : w16.cell? ⟨gb103, 1, none⟩ = some (.int .i64 ((rd_T80 l0_1 x6_1).f1)) := (blk_cell BK103.out 1).trans rfl; have hcz17_2 : w16.cell? ⟨gb103, 2, none⟩ = some (.int .i64 ((rd_T80 l0_1 x6_1).f2)) := (blk_cell BK103.out 2).trans rfl; have hfz17_0 := blk_frozen BK103.out 0; have hfz17_1 := blk_frozen BK103.out 1; have hfz17_2 := blk_frozen BK103.out 2)); try go_wp2_with (first | (go_at_call 67; (with_reducible refine (petrinetref14_Sound.calls _ _ l0_0 _ _ l0_1 a0_2 ((rd_T80 l0_1 x6_1).f0) ((rd_T80 l0_1 x6_1).f1) ((rd_T80 l0_1 x6_1).f2) true _ ?side1 ?side2 ?side3 ?side4 A11.out).mono ?_); (case side1 => exact Kd.C_below HR0_0.out (tB)); (case side2 => exact HC0_0.out); (case side3 => exact Kd.C_below HR0_1.out (tB)); (case side4 => exact HC0_1.out); rintro e w16 ⟨rfl, hb⟩; have n0_ := Aside0.mk (Kd.R_below (by (with_reducible repeat (first | apply Kd.R_alloc | apply Kd.R_drewN | apply Kd.R_drew)); exact (Kd.R_mono (Kd.R_far (p := ⟨gb103, 2, none⟩) (Kd.R_far (p := ⟨gb103, 1, none⟩) (Kd.R_far (p := ⟨gb103, 0, none⟩) (Kd.R_mono HO_5.out (fun k_ hk => (⟨hk, hk.2⟩ : _ ∧ k_ ≠ gb103))) (fun _ hk => hk.2) (.int .i64 ((rd_T80 l0_1 x6_1).f0))) (fun _ hk => hk.2) (.int .i64 ((rd_T80 l0_1 x6_1).f1))) (fun _ hk => hk.2) (.int .i64 ((rd_T80 l0_1 x6_1).f2))) (fun _ h_ => h_.1))) hb); have n1_ := Aside0.mk (blk_below (g := gb101) (o := .cells #[.slice A0_0 l0_0.length c0_0, .slice (some ad102) l0_1.length c0_1, .bool a0_2] 25 (0, 0)) (by (with_reducible repeat (first | refine blk_drewN ?_ _ | refine blk_drew ?_ | refine blk_alloc ?_ _)); refine blk_far ?_ NB101_103.out _; (with_reducible repeat (first | refine blk_drewN ?_ _ | refine blk_drew ?_ | refine blk_alloc ?_ _)); refine blk_far ?_ NB101_103.out _; (with_reducible repeat (first | refine blk_drewN ?_ _ | refine blk_drew ?_ | refine blk_alloc ?_ _)); refine blk_far ?_ NB101_103.out _; (with_reducible repeat (first | refine blk_drewN ?_ _ | refine blk_drew ?_ | refine blk_alloc ?_ _)); exact BK101.out) hb); have n2_ := Aside0.mk (blk_below (g := gb103) (o := .cells #[.int .i64 ((rd_T80 l0_1 x6_1).f0), .int .i64 ((rd_T80 l0_1 x6_1).f1), .int .i64 ((rd_T80 l0_1 x6_1).f2)] 80 (0, 0)) (by (with_reducible repeat (first | refine blk_drewN ?_ _ | refine blk_drew ?_ | refine blk_alloc ?_ _)); refine blk_put (cs := #[.int .i64 ((rd_T80 l0_1 x6_1).f0), .int .i64 ((rd_T80 l0_1 x6_1).f1), .int .i64 0]) ?_ 2 _ rfl; (with_reducible repeat (first | refine blk_drewN ?_ _ | refine blk_drew ?_ | refine blk_alloc ?_ _)); refine blk_put (cs := #[.int .i64 ((rd_T80 l0_1 x6_1).f0), .int .i64 0, .int .i64 0]) ?_ 1 _ rfl; (with_reducible repeat (first | refine blk_drewN ?_ _ | refine blk_drew ?_ | refine blk_alloc ?_ _)); refine blk_put (cs := #[.int .i64 0, .int .i64 0, .int .i64 0]) ?_ 0 _ rfl; (with_reducible repeat (first | refine blk_drewN ?_ _ | refine blk_drew ?_ | refine blk_alloc ?_ _)); exact BK103.out) hb); have n3_ := Aside0.mk (below_step (tB) hb); clear HO_5; clear BK101; clear BK103; clear HB; have HO_5 := n0_; have BK101 := n1_; have BK103 := n2_; have HB := n3_; clear n0_ n1_ n2_ n3_; (try clear hb); (try clear hb2); (try clear hk); (try clear hi); have hcz17_0 : w16.cell? ⟨gb103, 0, none⟩ = some (.int .i64 ((rd_T80 l0_1 x6_1).f0)) := (blk_cell BK103.out 0).trans rfl; have hcz17_1 : w16.cell? ⟨gb103, 1, none⟩ = some (.int .i64 ((rd_T80 l0_1 x6_1).f1)) := (blk_cell BK103.out 1).trans rfl; have hcz17_2 : w16.cell? ⟨gb103, 2, none⟩ = some (.int .i64 ((rd_T80 l0_1 x6_1).f2)) := (blk_cell BK103.out 2).trans rfl; have hfz17_0 := blk_frozen BK103.out 0; have hfz17_1 := blk_frozen BK103.out 1; have hfz17_2 := blk_frozen BK103.out 2)))
       go_meet
       case rel => exact ⟨_, ((((rd_T80 l0_1 x6_1).f0) == a1)), (by first | rfl | (simp; done) | (simp [*]; done)), H', ⟨by have := HK1.out; first | omega | exact Nat.le_refl _⟩, ⟨by (with_reducible repeat (first | apply Kd.R_alloc | apply Kd.R_drewN | apply Kd.R_drew)); exact Kd.R_mono HO_5.out (fun _ hk => hk.2)⟩, ⟨tK BK101⟩, ⟨tK BK103⟩, ⟨tB⟩⟩
      ·replace c12 := Bool.eq_false_iff.mpr c12
       subst c12
       have H1 : (petrinetref16_Moves.j1 k1 a1 x5_1 x6_1 false l0_0 l0_1 a0_2 ((rd_T80 l0_1 x6_1).f0) ((rd_T80 l0_1 x6_1).f1) ((rd_T80 l0_1 x6_1).f2)) = some r := by rw [if_neg (show ¬ (false = true) by decide)] at H; exact H
       clear H
       have H := H1
       clear H1
       have H' := Aside0.mk H
       clear H
       have hnb18 := NB101_103.out
       have hnc18 := NB103_101.out
       have hcz19_0 : w8.cell? ⟨gb101, 0, none⟩ = some (.slice A0_0 l0_0.length c0_0) := (blk_cell BK101.out 0).trans rfl
       have hcz19_1 : w8.cell? ⟨gb101, 1, none⟩ = some (.slice (some ad102) l0_1.length c0_1) := (blk_cell BK101.out 1).trans rfl
       have hcz19_2 : w8.cell? ⟨gb101, 2, none⟩ = some (.bool a0_2) := (blk_cell BK101.out 2).trans rfl
       have hfz19_0 := blk_frozen BK101.out 0
       have hfz19_1 := blk_frozen BK101.out 1
       have hfz19_2 := blk_frozen BK101.out 2
       have hcz20_0 : w8.cell? ⟨gb103, 0, none⟩ = some (.int .i64 0) := (blk_cell BK103.out 0).trans rfl
       have hcz20_1 : w8.cell? ⟨gb103, 1, none⟩ = some (.int .i64 0) := (blk_cell BK103.out 1).trans rfl
       have hcz20_2 : w8.cell? ⟨gb103, 2, none⟩ = some (.int .i64 0) := (blk_cell BK103.out 2).trans rfl
       have hfz20_0 := blk_frozen BK103.out 0
       have hfz20_1 := blk_frozen BK103.out 1
       have hfz20_2 := blk_frozen BK103.out 2
       go_wp2_with (first | (go_at_call 67; (with_reducible refine (petrinetref14_Sound.calls _ _ l0_0 _ _ l0_1 a0_2 ((rd_T80 l0_1 x6_1).f0) ((rd_T80 l0_1 x6_1).f1) ((rd_T80 l0_1 x6_1).f2) false _ ?side1 ?side2 ?side3 ?side4 A11.out).mono ?_); (case side1 => exact Kd.C_below HR0_0.out (tB)); (case side2 => exact HC0_0.out); (case side3 => exact Kd.C_below HR0_1.out (tB)); (case side4 => exact HC0_1.out); rintro e w21 ⟨rfl, hb⟩; have n0_ := Aside0.mk (Kd.R_below (by (with_reducible repeat (first | apply Kd.R_alloc | apply Kd.R_drewN | apply Kd.R_drew)); exact (Kd.R_mono (Kd.R_far (p := ⟨gb103, 2, none⟩) (Kd.R_far (p := ⟨gb103, 1, none⟩) (Kd.R_far (p := ⟨gb103, 0, none⟩) (Kd.R_mono HO_5.out (fun k_ hk => (⟨hk, hk.2⟩ : _ ∧ k_ ≠ gb103))) (fun _ hk => hk.2) (.int .i64 ((rd_T80 l0_1 x6_1).f0))) (fun _ hk => hk.2) (.int .i64 ((rd_T80 l0_1 x6_1).f1))) (fun _ hk => hk.2) (.int .i64 ((rd_T80 l0_1 x6_1).f2))) (fun _ h_ => h_.1))) hb); have n1_ := Aside0.mk (blk_below (g := gb101) (o := .cells #[.slice A0_0 l0_0.length c0_0, .slice (some ad102) l0_1.length c0_1, .bool a0_2] 25 (0, 0)) (by (with_reducible repeat (first | refine blk_drewN ?_ _ | refine blk_drew ?_ | refine blk_alloc ?_ _)); refine blk_far ?_ NB101_103.out _; (with_reducible repeat (first | refine blk_drewN ?_ _ | refine blk_drew ?_ | refine blk_alloc ?_ _)); refine blk_far ?_ NB101_103.out _; (with_reducible repeat (first | refine blk_drewN ?_ _ | refine blk_drew ?_ | refine blk_alloc ?_ _)); refine blk_far ?_ NB101_103.out _; (with_reducible repeat (first | refine blk_drewN ?_ _ | refine blk_drew ?_ | refine blk_alloc ?_ _)); exact BK101.out) hb); have n2_ := Aside0.mk (blk_below (g := gb103) (o := .cells #[.int .i64 ((rd_T80 l0_1 x6_1).f0), .int .i64 ((rd_T80 l0_1 x6_1).f1), .int .i64 ((rd_T80 l0_1 x6_1).f2)] 80 (0, 0)) (by (with_reducible repeat (first | refine blk_drewN ?_ _ | refine blk_drew ?_ | refine blk_alloc ?_ _)); refine blk_put (cs := #[.int .i64 ((rd_T80 l0_1 x6_1).f0), .int .i64 ((rd_T80 l0_1 x6_1).f1), .int .i64 0]) ?_ 2 _ rfl; (with_reducible repeat (first | refine blk_drewN ?_ _ | refine blk_drew ?_ | refine blk_alloc ?_ _)); refine blk_put (cs := #[.int .i64 ((rd_T80 l0_1 x6_1).f0), .int .i64 0, .int .i64 0]) ?_ 1 _ rfl; (with_reducible repeat (first | refine blk_drewN ?_ _ | refine blk_drew ?_ | refine blk_alloc ?_ _)); refine blk_put (cs := #[.int .i64 0, .int .i64 0, .int .i64 0]) ?_ 0 _ rfl; (with_reducible repeat (first | refine blk_drewN ?_ _ | refine blk_drew ?_ | refine blk_alloc ?_ _)); exact BK103.out) hb); have n3_ := Aside0.mk (below_step (tB) hb); clear HO_5; clear BK101; clear BK103; clear HB; have HO_5 := n0_; have BK101 := n1_; have BK103 := n2_; have HB := n3_; clear n0_ n1_ n2_ n3_; (try clear hb); (try clear hb2); (try clear hk); (try clear hi)))
       repeat (go_quiet (first | (go_at_call 67; (with_reducible refine (petrinetref14_Sound.calls _ _ l0_0 _ _ l0_1 a0_2 ((rd_T80 l0_1 x6_1).f0) ((rd_T80 l0_1 x6_1).f1) ((rd_T80 l0_1 x6_1).f2) false _ ?side1 ?side2 ?side3 ?side4 A11.out).mono ?_); (case side1 => exact Kd.C_below HR0_0.out (tB)); (case side2 => exact HC0_0.out); (case side3 => exact Kd.C_below HR0_1.out (tB)); (case side4 => exact HC0_1.out); rintro e w21 ⟨rfl, hb⟩; have n0_ := Aside0.mk (Kd.R_below (by (with_reducible repeat (first | apply Kd.R_alloc | apply Kd.R_drewN | apply Kd.R_drew)); exact (Kd.R_mono (Kd.R_far (p := ⟨gb103, 2, none⟩) (Kd.R_far (p := ⟨gb103, 1, none⟩) (Kd.R_far (p := ⟨gb103, 0, none⟩) (Kd.R_mono HO_5.out (fun k_ hk => (⟨hk, hk.2⟩ : _ ∧ k_ ≠ gb103))) (fun _ hk => hk.2) (.int .i64 ((rd_T80 l0_1 x6_1).f0))) (fun _ hk => hk.2) (.int .i64 ((rd_T80 l0_1 x6_1).f1))) (fun _ hk => hk.2) (.int .i64 ((rd_T80 l0_1 x6_1).f2))) (fun _ h_ => h_.1))) hb); have n1_ := Aside0.mk (blk_below (g := gb101) (o := .cells #[.slice A0_0 l0_0.length c0_0, .slice (some ad102) l0_1.length c0_1, .bool a0_2] 25 (0, 0)) (by (with_reducible repeat (first | refine blk_drewN ?_ _ | refine blk_drew ?_ | refine blk_alloc ?_ _)); refine blk_far ?_ NB101_103.out _; (with_reducible repeat (first | refine blk_drewN ?_ _ | refine blk_drew ?_ | refine blk_alloc ?_ _)); refine blk_far ?_ NB101_103.out _; (with_reducible repeat (first | refine blk_drewN ?_ _ | refine blk_drew ?_ | refine blk_alloc ?_ _)); refine blk_far ?_ NB101_103.out _; (with_reducible repeat (first | refine blk_drewN ?_ _ | refine blk_drew ?_ | refine blk_alloc ?_ _)); exact BK101.out) hb); have n2_ := Aside0.mk (blk_below (g := gb103) (o := .cells #[.int .i64 ((rd_T80 l0_1 x6_1).f0), .int .i64 ((rd_T80 l0_1 x6_1).f1), .int .i64 ((rd_T80 l0_1 x6_1).f2)] 80 (0, 0)) (by (with_reducible repeat (first | refine blk_drewN ?_ _ | refine blk_drew ?_ | refine blk_alloc ?_ _)); refine blk_put (cs := #[.int .i64 ((rd_T80 l0_1 x6_1).f0), .int .i64 ((rd_T80 l0_1 x6_1).f1), .int .i64 0]) ?_ 2 _ rfl; (with_reducible repeat (first | refine blk_drewN ?_ _ | refine blk_drew ?_ | refine blk_alloc ?_ _)); refine blk_put (cs := #[.int .i64 ((rd_T80 l0_1 x6_1).f0), .int .i64 0, .int .i64 0]) ?_ 1 _ rfl; (with_reducible repeat (first | refine blk_drewN ?_ _ | refine blk_drew ?_ | refine blk_alloc ?_ _)); refine blk_put (cs := #[.int .i64 0, .int .i64 0, .int .i64 0]) ?_ 0 _ rfl; (with_reducible repeat (first | refine blk_drewN ?_ _ | refine blk_drew ?_ | refine blk_alloc ?_ _)); exact BK103.out) hb); have n3_ := Aside0.mk (below_step (tB) hb); clear HO_5; clear BK101; clear BK103; clear HB; have HO_5 := n0_; have BK101 := n1_; have BK103 := n2_; have HB := n3_; clear n0_ n1_ n2_ n3_; (try clear hb); (try clear hb2); (try clear hk); (try clear hi))); try go_wp2_with (first | (go_at_call 67; (with_reducible refine (petrinetref14_Sound.calls _ _ l0_0 _ _ l0_1 a0_2 ((rd_T80 l0_1 x6_1).f0) ((rd_T80 l0_1 x6_1).f1) ((rd_T80 l0_1 x6_1).f2) false _ ?side1 ?side2 ?side3 ?side4 A11.out).mono ?_); (case side1 => exact Kd.C_below HR0_0.out (tB)); (case side2 => exact HC0_0.out); (case side3 => exact Kd.C_below HR0_1.out (tB)); (case side4 => exact HC0_1.out); rintro e w21 ⟨rfl, hb⟩; have n0_ := Aside0.mk (Kd.R_below (by (with_reducible repeat (first | apply Kd.R_alloc | apply Kd.R_drewN | apply Kd.R_drew)); exact (Kd.R_mono (Kd.R_far (p := ⟨gb103, 2, none⟩) (Kd.R_far (p := ⟨gb103, 1, none⟩) (Kd.R_far (p := ⟨gb103, 0, none⟩) (Kd.R_mono HO_5.out (fun k_ hk => (⟨hk, hk.2⟩ : _ ∧ k_ ≠ gb103))) (fun _ hk => hk.2) (.int .i64 ((rd_T80 l0_1 x6_1).f0))) (fun _ hk => hk.2) (.int .i64 ((rd_T80 l0_1 x6_1).f1))) (fun _ hk => hk.2) (.int .i64 ((rd_T80 l0_1 x6_1).f2))) (fun _ h_ => h_.1))) hb); have n1_ := Aside0.mk (blk_below (g := gb101) (o := .cells #[.slice A0_0 l0_0.length c0_0, .slice (some ad102) l0_1.length c0_1, .bool a0_2] 25 (0, 0)) (by (with_reducible repeat (first | refine blk_drewN ?_ _ | refine blk_drew ?_ | refine blk_alloc ?_ _)); refine blk_far ?_ NB101_103.out _; (with_reducible repeat (first | refine blk_drewN ?_ _ | refine blk_drew ?_ | refine blk_alloc ?_ _)); refine blk_far ?_ NB101_103.out _; (with_reducible repeat (first | refine blk_drewN ?_ _ | refine blk_drew ?_ | refine blk_alloc ?_ _)); refine blk_far ?_ NB101_103.out _; (with_reducible repeat (first | refine blk_drewN ?_ _ | refine blk_drew ?_ | refine blk_alloc ?_ _)); exact BK101.out) hb); have n2_ := Aside0.mk (blk_below (g := gb103) (o := .cells #[.int .i64 ((rd_T80 l0_1 x6_1).f0), .int .i64 ((rd_T80 l0_1 x6_1).f1), .int .i64 ((rd_T80 l0_1 x6_1).f2)] 80 (0, 0)) (by (with_reducible repeat (first | refine blk_drewN ?_ _ | refine blk_drew ?_ | refine blk_alloc ?_ _)); refine blk_put (cs := #[.int .i64 ((rd_T80 l0_1 x6_1).f0), .int .i64 ((rd_T80 l0_1 x6_1).f1), .int .i64 0]) ?_ 2 _ rfl; (with_reducible repeat (first | refine blk_drewN ?_ _ | refine blk_drew ?_ | refine blk_alloc ?_ _)); refine blk_put (cs := #[.int .i64 ((rd_T80 l0_1 x6_1).f0), .int .i64 0, .int .i64 0]) ?_ 1 _ rfl; (with_reducible repeat (first | refine blk_drewN ?_ _ | refine blk_drew ?_ | refine blk_alloc ?_ _)); refine blk_put (cs := #[.int .i64 0, .int .i64 0, .int .i64 0]) ?_ 0 _ rfl; (with_reducible repeat (first | refine blk_drewN ?_ _ | refine blk_drew ?_ | refine blk_alloc ?_ _)); exact BK103.out) hb); have n3_ := Aside0.mk (below_step (tB) hb); clear HO_5; clear BK101; clear BK103; clear HB; have HO_5 := n0_; have BK101 := n1_; have BK103 := n2_; have HB := n3_; clear n0_ n1_ n2_ n3_; (try clear hb); (try clear hb2); (try clear hk); (try clear hi))))
       go_meet
       case rel => exact ⟨_, (false), (by first | rfl | (simp; done) | (simp [*]; done)), H', ⟨by have := HK1.out; first | omega | exact Nat.le_refl _⟩, ⟨by (with_reducible repeat (first | apply Kd.R_alloc | apply Kd.R_drewN | apply Kd.R_drew)); exact Kd.R_mono HO_5.out (fun _ hk => hk.2)⟩, ⟨tK BK101⟩, ⟨tK BK103⟩, ⟨tB⟩⟩
     case rest =>
      clear HC6
      try clear c1
      try clear p1
      try clear q1
      try clear hx1
      try clear p2
      try clear c4
      try clear c4b0
      try clear c5
      try clear c5b0
      try clear c9
      try clear p10
      try clear q10
      try clear hx10
      try clear c12
      try clear c13
      try clear c18
      try clear hcz10_0
      try clear hcz10_1
      try clear hcz10_2
      try clear hcz14_0
      try clear hcz14_1
      try clear hcz14_2
      try clear hcz15_0
      try clear hcz15_1
      try clear hcz15_2
      try clear hcz17_0
      try clear hcz17_1
      try clear hcz17_2
      try clear hcz19_0
      try clear hcz19_1
      try clear hcz19_2
      try clear hcz20_0
      try clear hcz20_1
      try clear hcz20_2
      try clear hcz7_0
      try clear hcz7_1
      try clear hcz7_2
      try clear hfz10_0
      try clear hfz10_1
      try clear hfz10_2
      try clear hfz14_0
      try clear hfz14_1
      try clear hfz14_2
      try clear hfz15_0
      try clear hfz15_1
      try clear hfz15_2
      try clear hfz17_0
      try clear hfz17_1
      try clear hfz17_2
      try clear hfz19_0
      try clear hfz19_1
      try clear hfz19_2
      try clear hfz20_0
      try clear hfz20_1
      try clear hfz20_2
      try clear hfz7_0
      try clear hfz7_1
      try clear hfz7_2
      try clear hx102_0
      try clear hx102_1
      try clear hx102_2
      try clear p102
      try clear p2
      try clear q102
      obtain ⟨kq, x8_5, rfl, HA, HJ5, HO_5, BK101, BK103, HB⟩ := hcut
      cases kq with
      | zero => exact absurd HA.out (by simp [petrinetref16_Moves.j1])
      | succ kj5 =>
       have H := HA.out
       clear HA
       simp only [petrinetref16_Moves.j1] at H
       have H' := Aside0.mk H
       clear H
       go_wp2
       repeat (go_quiet (fail); try go_wp2)
       go_loopg [8, 9] kj5 (fun kq v8 v9 w' => ∃ (x8_3 : Bool) (x9_3 : Int), v8 = .bool x8_3 ∧ v9 = .int .i64 x9_3 ∧ Aside0 (petrinetref16_Moves.l1 kq a1 x5_1 x6_1 x8_3 x9_3 l0_0 l0_1 a0_2 ((rd_T80 l0_1 x6_1).f0) ((rd_T80 l0_1 x6_1).f1) ((rd_T80 l0_1 x6_1).f2) = some r) ∧ Aside0 (kq ≤ kj5) ∧ Aside0 (Kd.R k80 80 w' w.heap.size (fun k_ => k_ ≠ gb103) u5 x5_1) ∧ Aside0 (w'.heap[gb101]? = some (.cells #[(.slice A0_0 l0_0.length c0_0), (.slice (some ad102) l0_1.length c0_1), .bool a0_2] 25 (0, 0))) ∧ Aside0 (w'.heap[gb103]? = some (.cells #[.int .i64 ((rd_T80 l0_1 x6_1).f0), .int .i64 ((rd_T80 l0_1 x6_1).f1), .int .i64 ((rd_T80 l0_1 x6_1).f2)] 80 (0, 0))) ∧ Aside0 (Below w.heap.size w w'))
       case atStart => exact ⟨(x8_5), (0), (by first | rfl | (simp; done) | (simp [*]; done)), (by first | rfl | (simp; done) | (simp [*]; done)), H', ⟨Nat.le_refl _⟩, ⟨tR HO_5⟩, ⟨tK BK101⟩, ⟨tK BK103⟩, ⟨tB⟩⟩
       case round =>
        clear H'
        try clear c1
        try clear p1
        try clear q1
        try clear hx1
        try clear p2
        try clear c4
        try clear c4b0
        try clear c5
        try clear c5b0
        try clear c9
        try clear p10
        try clear q10
        try clear hx10
        try clear c12
        try clear c13
        try clear c18
        try clear hcz10_0
        try clear hcz10_1
        try clear hcz10_2
        try clear hcz14_0
        try clear hcz14_1
        try clear hcz14_2
        try clear hcz15_0
        try clear hcz15_1
        try clear hcz15_2
        try clear hcz17_0
        try clear hcz17_1
        try clear hcz17_2
        try clear hcz19_0
        try clear hcz19_1
        try clear hcz19_2
        try clear hcz20_0
        try clear hcz20_1
        try clear hcz20_2
        try clear hcz7_0
        try clear hcz7_1
        try clear hcz7_2
        try clear hfz10_0
        try clear hfz10_1
        try clear hfz10_2
        try clear hfz14_0
        try clear hfz14_1
        try clear hfz14_2
        try clear hfz15_0
        try clear hfz15_1
        try clear hfz15_2
        try clear hfz17_0
        try clear hfz17_1
        try clear hfz17_2
        try clear hfz19_0
        try clear hfz19_1
        try clear hfz19_2
        try clear hfz20_0
        try clear hfz20_1
        try clear hfz20_2
        try clear hfz7_0
        try clear hfz7_1
        try clear hfz7_2
        try clear hx102_0
        try clear hx102_1
        try clear hx102_2
        try clear p1
        try clear p10
        try clear p102
        try clear p2
        try clear q1
        try clear q10
        try clear q102
        obtain ⟨x8_3, x9_3, rfl, rfl, HA, HK3, HO_5, BK101, BK103, HB⟩ := hrel
        cases gk with
        | zero => exact absurd HA.out (by simp [petrinetref16_Moves.l1])
        | succ k3 =>
         have H := HA.out
         clear HA
         simp only [petrinetref16_Moves.l1] at H
         by_cases c22 : x9_3 < (x5_1.length : Int)
         ·rw [if_pos c22] at H
          have c22b0 : decide (x9_3 < (x5_1.length : Int)) = true := decide_eq_true c22
          clear c22
          by_cases c23 : x8_3 = true
          ·subst c23
           have H1 : (if 0 ≤ x9_3 then (petrinetref16_Moves.l1 k3 a1 x5_1 x6_1 (((rd_T80 x5_1 x9_3).f1) != ((rd_T80 l0_1 x6_1).f1)) (wrap64 (x9_3 + 1)) l0_0 l0_1 a0_2 ((rd_T80 l0_1 x6_1).f0) ((rd_T80 l0_1 x6_1).f1) ((rd_T80 l0_1 x6_1).f2)) else (none)) = some r := by rw [if_pos rfl] at H; exact H
           clear H
           have H := H1
           clear H1
           by_cases c24 : 0 ≤ x9_3
           ·rw [if_pos c24] at H
            have c24b0 : decide (0 ≤ x9_3) = true := decide_eq_true c24
            clear c24
            have H' := Aside0.mk H
            clear H
            obtain ⟨Ao25, co25, eo25⟩ := Kd.R_slice HO_5.out
            subst eo25
            have p105 : 0 ≤ (x9_3 : Int) := tD
            have q105 : x9_3 < (x5_1.length : Int) := tD
            obtain ⟨ad105, e105, hx105_0, hx105_1, hx105_2⟩ := at_T80 (Kd.R_reads' HO_5.out).2.2 x9_3 p105 q105
            cases e105
            replace p105 := eq_true p105
            replace q105 := eq_true q105
            have hnb26 := NB103_101.out
            have hnc26 := NB101_103.out
            have hcz27_0 : wr.cell? ⟨gb103, 0, none⟩ = some (.int .i64 ((rd_T80 l0_1 x6_1).f0)) := (blk_cell BK103.out 0).trans rfl
            have hcz27_1 : wr.cell? ⟨gb103, 1, none⟩ = some (.int .i64 ((rd_T80 l0_1 x6_1).f1)) := (blk_cell BK103.out 1).trans rfl
            have hcz27_2 : wr.cell? ⟨gb103, 2, none⟩ = some (.int .i64 ((rd_T80 l0_1 x6_1).f2)) := (blk_cell BK103.out 2).trans rfl
            have hfz27_0 := blk_frozen BK103.out 0
            have hfz27_1 := blk_frozen BK103.out 1
            have hfz27_2 := blk_frozen BK103.out 2
            go_wp2
            repeat (go_quiet (fail); try go_wp2)
            go_roundg k3
            case measure => have := HK1.out; have := HJ5.out; have := HK3.out; omega
            case rel => exact ⟨((((rd_T80 x5_1 x9_3).f1) != ((rd_T80 l0_1 x6_1).f1))), (wrap64 (x9_3 + 1)), (by first | rfl | (simp; done) | (simp [*]; done)), (by first | rfl | (simp; done) | (simp [*]; done)), H', ⟨by have := HK1.out; have := HJ5.out; have := HK3.out; omega⟩, ⟨tR HO_5⟩, ⟨tK BK101⟩, ⟨tK BK103⟩, ⟨tB⟩⟩
           ·rw [if_neg c24] at H
            exact absurd H (by simp)
          ·replace c23 := Bool.eq_false_iff.mpr c23
           subst c23
           have H1 : (petrinetref16_Moves.l1 k3 a1 x5_1 x6_1 false (wrap64 (x9_3 + 1)) l0_0 l0_1 a0_2 ((rd_T80 l0_1 x6_1).f0) ((rd_T80 l0_1 x6_1).f1) ((rd_T80 l0_1 x6_1).f2)) = some r := by rw [if_neg (show ¬ (false = true) by decide)] at H; exact H
           clear H
           have H := H1
           clear H1
           have H' := Aside0.mk H
           clear H
           obtain ⟨Ao28, co28, eo28⟩ := Kd.R_slice HO_5.out
           subst eo28
           go_wp2
           repeat (go_quiet (fail); try go_wp2)
           go_roundg k3
           case measure => have := HK1.out; have := HJ5.out; have := HK3.out; omega
           case rel => exact ⟨(false), (wrap64 (x9_3 + 1)), (by first | rfl | (simp; done) | (simp [*]; done)), (by first | rfl | (simp; done) | (simp [*]; done)), H', ⟨by have := HK1.out; have := HJ5.out; have := HK3.out; omega⟩, ⟨tR HO_5⟩, ⟨tK BK101⟩, ⟨tK BK103⟩, ⟨tB⟩⟩
         ·rw [if_neg c22] at H
          have c22b0 : decide (x9_3 < (x5_1.length : Int)) = false := decide_eq_false c22
          clear c22
          by_cases c29 : x8_3 = true
          ·subst c29
           have H1 : (petrinetref16_Moves.l2 k3 a1 x5_1 x6_1 ([] : List (S80)) false 0 l0_0 l0_1 a0_2 ((rd_T80 l0_1 x6_1).f0) ((rd_T80 l0_1 x6_1).f1) ((rd_T80 l0_1 x6_1).f2)) = some r := by rw [if_pos rfl] at H; exact H
           clear H
           have H := H1
           clear H1
           have H' := Aside0.mk H
           clear H
           obtain ⟨Ao30, co30, eo30⟩ := Kd.R_slice HO_5.out
           subst eo30
           go_wp2
           repeat (go_quiet (fail); try go_wp2)
           go_loopg [10, 11, 12] k3 (fun kq v10 v11 v12 w' => ∃ (x10_4 : List (S80)) (x11_4 : Bool) (x12_4 : Int), v11 = .bool x11_4 ∧ v12 = .int .i64 x12_4 ∧ Aside0 (petrinetref16_Moves.l2 kq a1 x5_1 x6_1 x10_4 x11_4 x12_4 l0_0 l0_1 a0_2 ((rd_T80 l0_1 x6_1).f0) ((rd_T80 l0_1 x6_1).f1) ((rd_T80 l0_1 x6_1).f2) = some r) ∧ Aside0 (kq ≤ k3) ∧ Aside0 (Kd.R k80 80 w' w.heap.size (fun k_ => some k_ ≠ (v10 : Value).ownBlock ∧ k_ ≠ gb103) (.slice Ao30 x5_1.length co30) x5_1) ∧ Aside0 (Kd.R k80 80 w' w.heap.size (fun k_ => some k_ ≠ ((.slice Ao30 x5_1.length co30) : Value).ownBlock ∧ k_ ≠ gb103) v10 x10_4) ∧ Aside0 (w'.heap[gb101]? = some (.cells #[(.slice A0_0 l0_0.length c0_0), (.slice (some ad102) l0_1.length c0_1), .bool a0_2] 25 (0, 0))) ∧ Aside0 (w'.heap[gb103]? = some (.cells #[.int .i64 ((rd_T80 l0_1 x6_1).f0), .int .i64 ((rd_T80 l0_1 x6_1).f1), .int .i64 ((rd_T80 l0_1 x6_1).f2)] 80 (0, 0))) ∧ Aside0 (Below w.heap.size w w'))
           case atStart => exact ⟨(([] : List (S80))), (false), (0), (by first | rfl | (simp; done) | (simp [*]; done)), (by first | rfl | (simp; done) | (simp [*]; done)), H', ⟨Nat.le_refl _⟩, ⟨by (with_reducible repeat (first | apply Kd.R_alloc | apply Kd.R_drewN | apply Kd.R_drew)); exact Kd.R_mono HO_5.out (fun _ hk => ⟨(by simp [Value.ownBlock]), hk⟩)⟩, ⟨by first | exact Kd.R_nil _ _ _ _ _ | exact Kd.N_nil _ _ _ _ _ | exact Kd.V_nil _ _ _ _ _ | exact Kd.Q_nil _ _ _ _ _ | exact Kd.S_nil _ _ _ _ _⟩, ⟨tK BK101⟩, ⟨tK BK103⟩, ⟨tB⟩⟩
           case round =>
            clear H'
            try clear c1
            try clear p1
            try clear q1
            try clear hx1
            try clear c2
            try clear p2
            try clear c4
            try clear c4b0
            try clear c5
            try clear c5b0
            try clear p6
            try clear c9
            try clear p10
            try clear q10
            try clear hx10
            try clear c12
            try clear c13
            try clear c18
            try clear c22
            try clear c22b0
            try clear c23
            try clear c24
            try clear c24b0
            try clear c26
            try clear c29
            try clear hcz10_0
            try clear hcz10_1
            try clear hcz10_2
            try clear hcz14_0
            try clear hcz14_1
            try clear hcz14_2
            try clear hcz15_0
            try clear hcz15_1
            try clear hcz15_2
            try clear hcz17_0
            try clear hcz17_1
            try clear hcz17_2
            try clear hcz19_0
            try clear hcz19_1
            try clear hcz19_2
            try clear hcz20_0
            try clear hcz20_1
            try clear hcz20_2
            try clear hcz27_0
            try clear hcz27_1
            try clear hcz27_2
            try clear hcz7_0
            try clear hcz7_1
            try clear hcz7_2
            try clear hfz10_0
            try clear hfz10_1
            try clear hfz10_2
            try clear hfz14_0
            try clear hfz14_1
            try clear hfz14_2
            try clear hfz15_0
            try clear hfz15_1
            try clear hfz15_2
            try clear hfz17_0
            try clear hfz17_1
            try clear hfz17_2
            try clear hfz19_0
            try clear hfz19_1
            try clear hfz19_2
            try clear hfz20_0
            try clear hfz20_1
            try clear hfz20_2
            try clear hfz27_0
            try clear hfz27_1
            try clear hfz27_2
            try clear hfz7_0
            try clear hfz7_1
            try clear hfz7_2
            try clear hx102_0
            try clear hx102_1
            try clear hx102_2
            try clear hx105_0
            try clear hx105_1
            try clear hx105_2
            try clear p1
            try clear p10
            try clear p102
            try clear p105
            try clear p2
            try clear q1
            try clear q10
            try clear q102
            try clear q105
            obtain ⟨x10_4, x11_4, x12_4, rfl, rfl, HA, HK4, HO_5, HO_10, BK101, BK103, HB⟩ := hrel
            cases gk with
            | zero => exact absurd HA.out (by simp [petrinetref16_Moves.l2])
            | succ k4 =>
             have H := HA.out
             clear HA
             simp only [petrinetref16_Moves.l2] at H
             by_cases c31 : x12_4 < (x5_1.length : Int)
             ·rw [if_pos c31] at H
              have c31b0 : decide (x12_4 < (x5_1.length : Int)) = true := decide_eq_true c31
              clear c31
              by_cases c32 : x11_4 = true
              ·subst c32
               have H1 : (if 0 ≤ x12_4 then (if x10_4.length < 5864062014805 then (petrinetref16_Moves.l2 k4 a1 x5_1 x6_1 (x10_4 ++ [(⟨(rd_T80 x5_1 x12_4).f0, (rd_T80 x5_1 x12_4).f1, (rd_T80 x5_1 x12_4).f2⟩ : S80)]) true (wrap64 (x12_4 + 1)) l0_0 l0_1 a0_2 ((rd_T80 l0_1 x6_1).f0) ((rd_T80 l0_1 x6_1).f1) ((rd_T80 l0_1 x6_1).f2)) else (none)) else (none)) = some r := by rw [if_pos rfl] at H; exact H
               clear H
               have H := H1
               clear H1
               by_cases c33 : 0 ≤ x12_4
               ·rw [if_pos c33] at H
                have c33b0 : decide (0 ≤ x12_4) = true := decide_eq_true c33
                clear c33
                by_cases c34 : x10_4.length < 5864062014805
                ·rw [if_pos c34] at H
                 have LMc34 := Aside0.mk c34
                 clear c34
                 obtain ⟨y107, hy107⟩ : ∃ y_ : List (S80), y_ = (x10_4 ++ [(⟨(rd_T80 x5_1 x12_4).f0, (rd_T80 x5_1 x12_4).f1, (rd_T80 x5_1 x12_4).f2⟩ : S80)]) := ⟨_, rfl⟩
                 replace H : (petrinetref16_Moves.l2 k4 a1 x5_1 x6_1 y107 true (wrap64 (x12_4 + 1)) l0_0 l0_1 a0_2 ((rd_T80 l0_1 x6_1).f0) ((rd_T80 l0_1 x6_1).f1) ((rd_T80 l0_1 x6_1).f2)) = some r := by first | (rw [hy107]; with_reducible exact H) | (have H2_ := (Option.bind_some _ _).symm.trans H; rw [hy107]; with_reducible exact H2_) | (have H2_ := (Option.bind_some _ _).symm.trans H; with_reducible exact H2_) | with_reducible exact H | (rw [hy107]; exact H) | exact H
                 have Ny107 := Aside0.mk hy107
                 clear hy107
                 have H' := Aside0.mk H
                 clear H
                 have p106 : 0 ≤ (x12_4 : Int) := tD
                 have q106 : x12_4 < (x5_1.length : Int) := tD
                 obtain ⟨ad106, e106, hx106_0, hx106_1, hx106_2⟩ := at_T80 (Kd.R_reads' HO_5.out).2.2 x12_4 p106 q106
                 cases e106
                 replace p106 := eq_true p106
                 replace q106 := eq_true q106
                 go_wp2_with (first | ((with_reducible refine gate_builtin (b := .append) (xs := #[.tmp 75, .tmp 80]) rfl ?_); at_builtin; refine Kd.R_append k80 (w0 := w) w.heap.size rfl (.tmp 75) (.tmp 80) 23 80 (.agg #[(.int .i64 0), (.int .i64 0), (.int .i64 0)]) 24 rfl Try.underlying23 info80 rfl (by decide) (by omega) u10 x10_4 (⟨(rd_T80 x5_1 x12_4).f0, (rd_T80 x5_1 x12_4).f1, (rd_T80 x5_1 x12_4).f2⟩ : S80) [.int .i64 ((rd_T80 x5_1 x12_4).f0), .int .i64 ((rd_T80 x5_1 x12_4).f1), .int .i64 ((rd_T80 x5_1 x12_4).f2)] (fun k_ => some k_ ≠ (.slice (some ad106) x5_1.length co30 : Value).ownBlock ∧ k_ ≠ gb103) (fun _ => False) rfl rfl ?aP (fun _ hk => hk.elim) ?aF ?aO ?aB ?aS ?aL ?_; (case aP => exact k80_mkM _ _ _ (⟨(rd_T80 x5_1 x12_4).f0, (rd_T80 x5_1 x12_4).f1, (rd_T80 x5_1 x12_4).f2⟩ : S80)); (case aB => exact (tB)); (case aF => exact (fun k_ hk => ⟨Kd.fresh' (Kd.R_lt (tR HO_5)) k_ hk, Kd.freshB (g := gb103) (o := .cells #[.int .i64 ((rd_T80 l0_1 x6_1).f0), .int .i64 ((rd_T80 l0_1 x6_1).f1), .int .i64 ((rd_T80 l0_1 x6_1).f2)] 80 (0, 0)) (tK BK103) k_ hk⟩)); (case aO => exact (tR HO_10)); (case aS => exact (below_size (tB))); (case aL => have := LMc34.out; omega); intro v108 w35 ho hb hg hat; rw [← Ny107.out] at ho; have n0_ := Aside0.mk (Kd.R_after (ok := (fun k_ => k_ ≠ gb103)) (by (with_reducible repeat (first | apply Kd.R_alloc | apply Kd.R_drewN | apply Kd.R_drew)); exact Kd.R_mono HO_5.out (fun _ hk => ⟨hk.2, hk.1⟩)) hg hat); have n1_ := Aside0.mk (blk_grown (g := gb101) (o := .cells #[.slice A0_0 l0_0.length c0_0, .slice (some ad102) l0_1.length c0_1, .bool a0_2] 25 (0, 0)) (tK BK101) hg (Kd.R_ne HO_10.out BK101.out (by decide))); have n2_ := Aside0.mk (blk_grown (g := gb103) (o := .cells #[.int .i64 ((rd_T80 l0_1 x6_1).f0), .int .i64 ((rd_T80 l0_1 x6_1).f1), .int .i64 ((rd_T80 l0_1 x6_1).f2)] 80 (0, 0)) (tK BK103) hg (Kd.R_away HO_10.out (fun _ hk => hk.2))); have n3_ := Aside0.mk (hb); have n4_ := Aside0.mk (ho); clear HO_5; clear BK101; clear BK103; clear HB; clear HO_10; have HO_5 := n0_; have BK101 := n1_; have BK103 := n2_; have HB := n3_; have HO109 := n4_; clear n0_ n1_ n2_ n3_ n4_; clear ho hb hg hat))
                 repeat (go_quiet (first | ((with_reducible refine gate_builtin (b := .append) (xs := #[.tmp 75, .tmp 80]) rfl ?_); at_builtin; refine Kd.R_append k80 (w0 := w) w.heap.size rfl (.tmp 75) (.tmp 80) 23 80 (.agg #[(.int .i64 0), (.int .i64 0), (.int .i64 0)]) 24 rfl Try.underlying23 info80 rfl (by decide) (by omega) u10 x10_4 (⟨(rd_T80 x5_1 x12_4).f0, (rd_T80 x5_1 x12_4).f1, (rd_T80 x5_1 x12_4).f2⟩ : S80) [.int .i64 ((rd_T80 x5_1 x12_4).f0), .int .i64 ((rd_T80 x5_1 x12_4).f1), .int .i64 ((rd_T80 x5_1 x12_4).f2)] (fun k_ => some k_ ≠ (.slice (some ad106) x5_1.length co30 : Value).ownBlock ∧ k_ ≠ gb103) (fun _ => False) rfl rfl ?aP (fun _ hk => hk.elim) ?aF ?aO ?aB ?aS ?aL ?_; (case aP => exact k80_mkM _ _ _ (⟨(rd_T80 x5_1 x12_4).f0, (rd_T80 x5_1 x12_4).f1, (rd_T80 x5_1 x12_4).f2⟩ : S80)); (case aB => exact (tB)); (case aF => exact (fun k_ hk => ⟨Kd.fresh' (Kd.R_lt (tR HO_5)) k_ hk, Kd.freshB (g := gb103) (o := .cells #[.int .i64 ((rd_T80 l0_1 x6_1).f0), .int .i64 ((rd_T80 l0_1 x6_1).f1), .int .i64 ((rd_T80 l0_1 x6_1).f2)] 80 (0, 0)) (tK BK103) k_ hk⟩)); (case aO => exact (tR HO_10)); (case aS => exact (below_size (tB))); (case aL => have := LMc34.out; omega); intro v108 w35 ho hb hg hat; rw [← Ny107.out] at ho; have n0_ := Aside0.mk (Kd.R_after (ok := (fun k_ => k_ ≠ gb103)) (by (with_reducible repeat (first | apply Kd.R_alloc | apply Kd.R_drewN | apply Kd.R_drew)); exact Kd.R_mono HO_5.out (fun _ hk => ⟨hk.2, hk.1⟩)) hg hat); have n1_ := Aside0.mk (blk_grown (g := gb101) (o := .cells #[.slice A0_0 l0_0.length c0_0, .slice (some ad102) l0_1.length c0_1, .bool a0_2] 25 (0, 0)) (tK BK101) hg (Kd.R_ne HO_10.out BK101.out (by decide))); have n2_ := Aside0.mk (blk_grown (g := gb103) (o := .cells #[.int .i64 ((rd_T80 l0_1 x6_1).f0), .int .i64 ((rd_T80 l0_1 x6_1).f1), .int .i64 ((rd_T80 l0_1 x6_1).f2)] 80 (0, 0)) (tK BK103) hg (Kd.R_away HO_10.out (fun _ hk => hk.2))); have n3_ := Aside0.mk (hb); have n4_ := Aside0.mk (ho); clear HO_5; clear BK101; clear BK103; clear HB; clear HO_10; have HO_5 := n0_; have BK101 := n1_; have BK103 := n2_; have HB := n3_; have HO109 := n4_; clear n0_ n1_ n2_ n3_ n4_; clear ho hb hg hat)); try go_wp2_with (first | ((with_reducible refine gate_builtin (b := .append) (xs := #[.tmp 75, .tmp 80]) rfl ?_); at_builtin; refine Kd.R_append k80 (w0 := w) w.heap.size rfl (.tmp 75) (.tmp 80) 23 80 (.agg #[(.int .i64 0), (.int .i64 0), (.int .i64 0)]) 24 rfl Try.underlying23 info80 rfl (by decide) (by omega) u10 x10_4 (⟨(rd_T80 x5_1 x12_4).f0, (rd_T80 x5_1 x12_4).f1, (rd_T80 x5_1 x12_4).f2⟩ : S80) [.int .i64 ((rd_T80 x5_1 x12_4).f0), .int .i64 ((rd_T80 x5_1 x12_4).f1), .int .i64 ((rd_T80 x5_1 x12_4).f2)] (fun k_ => some k_ ≠ (.slice (some ad106) x5_1.length co30 : Value).ownBlock ∧ k_ ≠ gb103) (fun _ => False) rfl rfl ?aP (fun _ hk => hk.elim) ?aF ?aO ?aB ?aS ?aL ?_; (case aP => exact k80_mkM _ _ _ (⟨(rd_T80 x5_1 x12_4).f0, (rd_T80 x5_1 x12_4).f1, (rd_T80 x5_1 x12_4).f2⟩ : S80)); (case aB => exact (tB)); (case aF => exact (fun k_ hk => ⟨Kd.fresh' (Kd.R_lt (tR HO_5)) k_ hk, Kd.freshB (g := gb103) (o := .cells #[.int .i64 ((rd_T80 l0_1 x6_1).f0), .int .i64 ((rd_T80 l0_1 x6_1).f1), .int .i64 ((rd_T80 l0_1 x6_1).f2)] 80 (0, 0)) (tK BK103) k_ hk⟩)); (case aO => exact (tR HO_10)); (case aS => exact (below_size (tB))); (case aL => have := LMc34.out; omega); intro v108 w35 ho hb hg hat; rw [← Ny107.out] at ho; have n0_ := Aside0.mk (Kd.R_after (ok := (fun k_ => k_ ≠ gb103)) (by (with_reducible repeat (first | apply Kd.R_alloc | apply Kd.R_drewN | apply Kd.R_drew)); exact Kd.R_mono HO_5.out (fun _ hk => ⟨hk.2, hk.1⟩)) hg hat); have n1_ := Aside0.mk (blk_grown (g := gb101) (o := .cells #[.slice A0_0 l0_0.length c0_0, .slice (some ad102) l0_1.length c0_1, .bool a0_2] 25 (0, 0)) (tK BK101) hg (Kd.R_ne HO_10.out BK101.out (by decide))); have n2_ := Aside0.mk (blk_grown (g := gb103) (o := .cells #[.int .i64 ((rd_T80 l0_1 x6_1).f0), .int .i64 ((rd_T80 l0_1 x6_1).f1), .int .i64 ((rd_T80 l0_1 x6_1).f2)] 80 (0, 0)) (tK BK103) hg (Kd.R_away HO_10.out (fun _ hk => hk.2))); have n3_ := Aside0.mk (hb); have n4_ := Aside0.mk (ho); clear HO_5; clear BK101; clear BK103; clear HB; clear HO_10; have HO_5 := n0_; have BK101 := n1_; have BK103 := n2_; have HB := n3_; have HO109 := n4_; clear n0_ n1_ n2_ n3_ n4_; clear ho hb hg hat)))
                 go_roundg k4
                 case measure => have := HK1.out; have := HJ5.out; have := HK3.out; have := HK4.out; omega
                 case rel => exact ⟨(y107), (true), (wrap64 (x12_4 + 1)), (by first | rfl | (simp; done) | (simp [*]; done)), (by first | rfl | (simp; done) | (simp [*]; done)), H', ⟨by have := HK1.out; have := HJ5.out; have := HK3.out; have := HK4.out; omega⟩, ⟨by (with_reducible repeat (first | apply Kd.R_alloc | apply Kd.R_drewN | apply Kd.R_drew)); exact Kd.R_mono HO_5.out (fun _ hk => ⟨hk.2, hk.1⟩)⟩, ⟨tR HO109⟩, ⟨tK BK101⟩, ⟨tK BK103⟩, ⟨tB⟩⟩
                ·rw [if_neg c34] at H
                 exact absurd H (by simp)
               ·rw [if_neg c33] at H
                exact absurd H (by simp)
              ·replace c32 := Bool.eq_false_iff.mpr c32
               subst c32
               have H1 : (if 0 ≤ x12_4 then (if ((rd_T80 x5_1 x12_4).f1) > ((rd_T80 l0_1 x6_1).f1) then (if x10_4.length < 5864062014805 then ((some (x10_4 ++ [(⟨((rd_T80 l0_1 x6_1).f0), ((rd_T80 l0_1 x6_1).f1), ((rd_T80 l0_1 x6_1).f2)⟩ : S80)] : List (S80))).bind fun y111 => (if y111.length < 5864062014805 then (petrinetref16_Moves.l2 k4 a1 x5_1 x6_1 (y111 ++ [(⟨(rd_T80 x5_1 x12_4).f0, (rd_T80 x5_1 x12_4).f1, (rd_T80 x5_1 x12_4).f2⟩ : S80)]) true (wrap64 (x12_4 + 1)) l0_0 l0_1 a0_2 ((rd_T80 l0_1 x6_1).f0) ((rd_T80 l0_1 x6_1).f1) ((rd_T80 l0_1 x6_1).f2)) else (none))) else (none)) else (if x10_4.length < 5864062014805 then (petrinetref16_Moves.l2 k4 a1 x5_1 x6_1 (x10_4 ++ [(⟨(rd_T80 x5_1 x12_4).f0, (rd_T80 x5_1 x12_4).f1, (rd_T80 x5_1 x12_4).f2⟩ : S80)]) false (wrap64 (x12_4 + 1)) l0_0 l0_1 a0_2 ((rd_T80 l0_1 x6_1).f0) ((rd_T80 l0_1 x6_1).f1) ((rd_T80 l0_1 x6_1).f2)) else (none))) else (none)) = some r := by rw [if_neg (show ¬ (false = true) by decide)] at H; exact H
               clear H
               have H := H1
               clear H1
               by_cases c36 : 0 ≤ x12_4
               ·rw [if_pos c36] at H
                have c36b0 : decide (0 ≤ x12_4) = true := decide_eq_true c36
                clear c36
                by_cases c37 : ((rd_T80 x5_1 x12_4).f1) > ((rd_T80 l0_1 x6_1).f1)
                ·rw [if_pos c37] at H
                 have c37b0 : decide (((rd_T80 l0_1 x6_1).f1) < ((rd_T80 x5_1 x12_4).f1)) = true := decide_eq_true c37
                 clear c37
                 by_cases c38 : x10_4.length < 5864062014805
                 ·rw [if_pos c38] at H
                  have LMc38 := Aside0.mk c38
                  clear c38
                  obtain ⟨y111, hy111⟩ : ∃ y_ : List (S80), y_ = (x10_4 ++ [(⟨((rd_T80 l0_1 x6_1).f0), ((rd_T80 l0_1 x6_1).f1), ((rd_T80 l0_1 x6_1).f2)⟩ : S80)]) := ⟨_, rfl⟩
                  replace H : (if y111.length < 5864062014805 then (petrinetref16_Moves.l2 k4 a1 x5_1 x6_1 (y111 ++ [(⟨(rd_T80 x5_1 x12_4).f0, (rd_T80 x5_1 x12_4).f1, (rd_T80 x5_1 x12_4).f2⟩ : S80)]) true (wrap64 (x12_4 + 1)) l0_0 l0_1 a0_2 ((rd_T80 l0_1 x6_1).f0) ((rd_T80 l0_1 x6_1).f1) ((rd_T80 l0_1 x6_1).f2)) else (none)) = some r := by first | (rw [hy111]; with_reducible exact H) | (have H2_ := (Option.bind_some _ _).symm.trans H; rw [hy111]; with_reducible exact H2_) | (have H2_ := (Option.bind_some _ _).symm.trans H; with_reducible exact H2_) | with_reducible exact H | (rw [hy111]; exact H) | exact H
                  have Ny111 := Aside0.mk hy111
                  clear hy111
                  by_cases c39 : y111.length < 5864062014805
                  ·rw [if_pos c39] at H
                   have LMc39 := Aside0.mk c39
                   clear c39
                   obtain ⟨y115, hy115⟩ : ∃ y_ : List (S80), y_ = (y111 ++ [(⟨(rd_T80 x5_1 x12_4).f0, (rd_T80 x5_1 x12_4).f1, (rd_T80 x5_1 x12_4).f2⟩ : S80)]) := ⟨_, rfl⟩
                   replace H : (petrinetref16_Moves.l2 k4 a1 x5_1 x6_1 y115 true (wrap64 (x12_4 + 1)) l0_0 l0_1 a0_2 ((rd_T80 l0_1 x6_1).f0) ((rd_T80 l0_1 x6_1).f1) ((rd_T80 l0_1 x6_1).f2)) = some r := by first | (rw [hy115]; with_reducible exact H) | (have H2_ := (Option.bind_some _ _).symm.trans H; rw [hy115]; with_reducible exact H2_) | (have H2_ := (Option.bind_some _ _).symm.trans H; with_reducible exact H2_) | with_reducible exact H | (rw [hy115]; exact H) | exact H
                   have Ny115 := Aside0.mk hy115
                   clear hy115
                   have H' := Aside0.mk H
                   clear H
                   have p110 : 0 ≤ (x12_4 : Int) := tD
                   have q110 : x12_4 < (x5_1.length : Int) := tD
                   obtain ⟨ad110, e110, hx110_0, hx110_1, hx110_2⟩ := at_T80 (Kd.R_reads' HO_5.out).2.2 x12_4 p110 q110
                   cases e110
                   replace p110 := eq_true p110
                   replace q110 := eq_true q110
                   have hnb40 := NB103_101.out
                   have hnc40 := NB101_103.out
                   have hcz41_0 : wr.cell? ⟨gb103, 0, none⟩ = some (.int .i64 ((rd_T80 l0_1 x6_1).f0)) := (blk_cell BK103.out 0).trans rfl
                   have hcz41_1 : wr.cell? ⟨gb103, 1, none⟩ = some (.int .i64 ((rd_T80 l0_1 x6_1).f1)) := (blk_cell BK103.out 1).trans rfl
                   have hcz41_2 : wr.cell? ⟨gb103, 2, none⟩ = some (.int .i64 ((rd_T80 l0_1 x6_1).f2)) := (blk_cell BK103.out 2).trans rfl
                   have hfz41_0 := blk_frozen BK103.out 0
                   have hfz41_1 := blk_frozen BK103.out 1
                   have hfz41_2 := blk_frozen BK103.out 2
                   go_wp2_with (first | ((with_reducible refine gate_builtin (b := .append) (xs := #[.tmp 71, .tmp 73]) rfl ?_); at_builtin; refine Kd.R_append k80 (w0 := w) w.heap.size rfl (.tmp 71) (.tmp 73) 23 80 (.agg #[(.int .i64 0), (.int .i64 0), (.int .i64 0)]) 24 rfl Try.underlying23 info80 rfl (by decide) (by omega) u10 x10_4 (⟨((rd_T80 l0_1 x6_1).f0), ((rd_T80 l0_1 x6_1).f1), ((rd_T80 l0_1 x6_1).f2)⟩ : S80) [.int .i64 ((rd_T80 l0_1 x6_1).f0), .int .i64 ((rd_T80 l0_1 x6_1).f1), .int .i64 ((rd_T80 l0_1 x6_1).f2)] (fun k_ => some k_ ≠ (.slice (some ad110) x5_1.length co30 : Value).ownBlock ∧ k_ ≠ gb103) (fun _ => False) rfl rfl ?aP (fun _ hk => hk.elim) ?aF ?aO ?aB ?aS ?aL ?_; (case aP => exact k80_mkM _ _ _ (⟨((rd_T80 l0_1 x6_1).f0), ((rd_T80 l0_1 x6_1).f1), ((rd_T80 l0_1 x6_1).f2)⟩ : S80)); (case aB => exact (tB)); (case aF => exact (fun k_ hk => ⟨Kd.fresh' (Kd.R_lt (tR HO_5)) k_ hk, Kd.freshB (g := gb103) (o := .cells #[.int .i64 ((rd_T80 l0_1 x6_1).f0), .int .i64 ((rd_T80 l0_1 x6_1).f1), .int .i64 ((rd_T80 l0_1 x6_1).f2)] 80 (0, 0)) (tK BK103) k_ hk⟩)); (case aO => exact (tR HO_10)); (case aS => exact (below_size (tB))); (case aL => have := LMc38.out; omega); intro v112 w42 ho hb hg hat; rw [← Ny111.out] at ho; have n0_ := Aside0.mk (Kd.R_after (ok := (fun k_ => k_ ≠ gb103)) (by (with_reducible repeat (first | apply Kd.R_alloc | apply Kd.R_drewN | apply Kd.R_drew)); exact Kd.R_mono HO_5.out (fun _ hk => ⟨hk.2, hk.1⟩)) hg hat); have n1_ := Aside0.mk (blk_grown (g := gb101) (o := .cells #[.slice A0_0 l0_0.length c0_0, .slice (some ad102) l0_1.length c0_1, .bool a0_2] 25 (0, 0)) (tK BK101) hg (Kd.R_ne HO_10.out BK101.out (by decide))); have n2_ := Aside0.mk (blk_grown (g := gb103) (o := .cells #[.int .i64 ((rd_T80 l0_1 x6_1).f0), .int .i64 ((rd_T80 l0_1 x6_1).f1), .int .i64 ((rd_T80 l0_1 x6_1).f2)] 80 (0, 0)) (tK BK103) hg (Kd.R_away HO_10.out (fun _ hk => hk.2))); have n3_ := Aside0.mk (hb); have n4_ := Aside0.mk (ho); clear HO_5; clear BK101; clear BK103; clear HB; clear HO_10; have HO_5 := n0_; have BK101 := n1_; have BK103 := n2_; have HB := n3_; have HO113 := n4_; clear n0_ n1_ n2_ n3_ n4_; clear ho hb hg hat; have p114 : 0 ≤ (x12_4 : Int) := tD; have q114 : x12_4 < (x5_1.length : Int) := tD; obtain ⟨ad114, e114, hx114_0, hx114_1, hx114_2⟩ := at_T80 (Kd.R_reads' HO_5.out).2.2 x12_4 p114 q114; obtain rfl : ad110 = ad114 := (by injection e114); replace p114 := eq_true p114; replace q114 := eq_true q114) | ((with_reducible refine gate_builtin (b := .append) (xs := #[.tmp 75, .tmp 80]) rfl ?_); at_builtin; refine Kd.R_append k80 (w0 := w) w.heap.size rfl (.tmp 75) (.tmp 80) 23 80 (.agg #[(.int .i64 0), (.int .i64 0), (.int .i64 0)]) 24 rfl Try.underlying23 info80 rfl (by decide) (by omega) v112 y111 (⟨(rd_T80 x5_1 x12_4).f0, (rd_T80 x5_1 x12_4).f1, (rd_T80 x5_1 x12_4).f2⟩ : S80) [.int .i64 ((rd_T80 x5_1 x12_4).f0), .int .i64 ((rd_T80 x5_1 x12_4).f1), .int .i64 ((rd_T80 x5_1 x12_4).f2)] (fun k_ => some k_ ≠ (.slice (some ad110) x5_1.length co30 : Value).ownBlock ∧ k_ ≠ gb103) (fun _ => False) rfl rfl ?aP (fun _ hk => hk.elim) ?aF ?aO ?aB ?aS ?aL ?_; (case aP => exact k80_mkM _ _ _ (⟨(rd_T80 x5_1 x12_4).f0, (rd_T80 x5_1 x12_4).f1, (rd_T80 x5_1 x12_4).f2⟩ : S80)); (case aB => exact (tB)); (case aF => exact (fun k_ hk => ⟨Kd.fresh' (Kd.R_lt (tR HO_5)) k_ hk, Kd.freshB (g := gb103) (o := .cells #[.int .i64 ((rd_T80 l0_1 x6_1).f0), .int .i64 ((rd_T80 l0_1 x6_1).f1), .int .i64 ((rd_T80 l0_1 x6_1).f2)] 80 (0, 0)) (tK BK103) k_ hk⟩)); (case aO => exact (tR HO113)); (case aS => exact (below_size (tB))); (case aL => have := LMc39.out; omega); intro v116 w43 ho hb hg hat; rw [← Ny115.out] at ho; have n0_ := Aside0.mk (Kd.R_after (ok := (fun k_ => k_ ≠ gb103)) (tR HO_5) hg hat); have n1_ := Aside0.mk (blk_grown (g := gb101) (o := .cells #[.slice A0_0 l0_0.length c0_0, .slice (some ad102) l0_1.length c0_1, .bool a0_2] 25 (0, 0)) (tK BK101) hg (Kd.R_ne HO113.out BK101.out (by decide))); have n2_ := Aside0.mk (blk_grown (g := gb103) (o := .cells #[.int .i64 ((rd_T80 l0_1 x6_1).f0), .int .i64 ((rd_T80 l0_1 x6_1).f1), .int .i64 ((rd_T80 l0_1 x6_1).f2)] 80 (0, 0)) (tK BK103) hg (Kd.R_away HO113.out (fun _ hk => hk.2))); have n3_ := Aside0.mk (hb); have n4_ := Aside0.mk (ho); clear HO_5; clear BK101; clear BK103; clear HB; clear HO113; have HO_5 := n0_; have BK101 := n1_; have BK103 := n2_; have HB := n3_; have HO117 := n4_; clear n0_ n1_ n2_ n3_ n4_; clear ho hb hg hat))
                   repeat (go_quiet (first | ((with_reducible refine gate_builtin (b := .append) (xs := #[.tmp 71, .tmp 73]) rfl ?_); at_builtin; refine Kd.R_append k80 (w0 := w) w.heap.size rfl (.tmp 71) (.tmp 73) 23 80 (.agg #[(.int .i64 0), (.int .i64 0), (.int .i64 0)]) 24 rfl Try.underlying23 info80 rfl (by decide) (by omega) u10 x10_4 (⟨((rd_T80 l0_1 x6_1).f0), ((rd_T80 l0_1 x6_1).f1), ((rd_T80 l0_1 x6_1).f2)⟩ : S80) [.int .i64 ((rd_T80 l0_1 x6_1).f0), .int .i64 ((rd_T80 l0_1 x6_1).f1), .int .i64 ((rd_T80 l0_1 x6_1).f2)] (fun k_ => some k_ ≠ (.slice (some ad110) x5_1.length co30 : Value).ownBlock ∧ k_ ≠ gb103) (fun _ => False) rfl rfl ?aP (fun _ hk => hk.elim) ?aF ?aO ?aB ?aS ?aL ?_; (case aP => exact k80_mkM _ _ _ (⟨((rd_T80 l0_1 x6_1).f0), ((rd_T80 l0_1 x6_1).f1), ((rd_T80 l0_1 x6_1).f2)⟩ : S80)); (case aB => exact (tB)); (case aF => exact (fun k_ hk => ⟨Kd.fresh' (Kd.R_lt (tR HO_5)) k_ hk, Kd.freshB (g := gb103) (o := .cells #[.int .i64 ((rd_T80 l0_1 x6_1).f0), .int .i64 ((rd_T80 l0_1 x6_1).f1), .int .i64 ((rd_T80 l0_1 x6_1).f2)] 80 (0, 0)) (tK BK103) k_ hk⟩)); (case aO => exact (tR HO_10)); (case aS => exact (below_size (tB))); (case aL => have := LMc38.out; omega); intro v112 w42 ho hb hg hat; rw [← Ny111.out] at ho; have n0_ := Aside0.mk (Kd.R_after (ok := (fun k_ => k_ ≠ gb103)) (by (with_reducible repeat (first | apply Kd.R_alloc | apply Kd.R_drewN | apply Kd.R_drew)); exact Kd.R_mono HO_5.out (fun _ hk => ⟨hk.2, hk.1⟩)) hg hat); have n1_ := Aside0.mk (blk_grown (g := gb101) (o := .cells #[.slice A0_0 l0_0.length c0_0, .slice (some ad102) l0_1.length c0_1, .bool a0_2] 25 (0, 0)) (tK BK101) hg (Kd.R_ne HO_10.out BK101.out (by decide))); have n2_ := Aside0.mk (blk_grown (g := gb103) (o := .cells #[.int .i64 ((rd_T80 l0_1 x6_1).f0), .int .i64 ((rd_T80 l0_1 x6_1).f1), .int .i64 ((rd_T80 l0_1 x6_1).f2)] 80 (0, 0)) (tK BK103) hg (Kd.R_away HO_10.out (fun _ hk => hk.2))); have n3_ := Aside0.mk (hb); have n4_ := Aside0.mk (ho); clear HO_5; clear BK101; clear BK103; clear HB; clear HO_10; have HO_5 := n0_; have BK101 := n1_; have BK103 := n2_; have HB := n3_; have HO113 := n4_; clear n0_ n1_ n2_ n3_ n4_; clear ho hb hg hat; have p114 : 0 ≤ (x12_4 : Int) := tD; have q114 : x12_4 < (x5_1.length : Int) := tD; obtain ⟨ad114, e114, hx114_0, hx114_1, hx114_2⟩ := at_T80 (Kd.R_reads' HO_5.out).2.2 x12_4 p114 q114; obtain rfl : ad110 = ad114 := (by injection e114); replace p114 := eq_true p114; replace q114 := eq_true q114) | ((with_reducible refine gate_builtin (b := .append) (xs := #[.tmp 75, .tmp 80]) rfl ?_); at_builtin; refine Kd.R_append k80 (w0 := w) w.heap.size rfl (.tmp 75) (.tmp 80) 23 80 (.agg #[(.int .i64 0), (.int .i64 0), (.int .i64 0)]) 24 rfl Try.underlying23 info80 rfl (by decide) (by omega) v112 y111 (⟨(rd_T80 x5_1 x12_4).f0, (rd_T80 x5_1 x12_4).f1, (rd_T80 x5_1 x12_4).f2⟩ : S80) [.int .i64 ((rd_T80 x5_1 x12_4).f0), .int .i64 ((rd_T80 x5_1 x12_4).f1), .int .i64 ((rd_T80 x5_1 x12_4).f2)] (fun k_ => some k_ ≠ (.slice (some ad110) x5_1.length co30 : Value).ownBlock ∧ k_ ≠ gb103) (fun _ => False) rfl rfl ?aP (fun _ hk => hk.elim) ?aF ?aO ?aB ?aS ?aL ?_; (case aP => exact k80_mkM _ _ _ (⟨(rd_T80 x5_1 x12_4).f0, (rd_T80 x5_1 x12_4).f1, (rd_T80 x5_1 x12_4).f2⟩ : S80)); (case aB => exact (tB)); (case aF => exact (fun k_ hk => ⟨Kd.fresh' (Kd.R_lt (tR HO_5)) k_ hk, Kd.freshB (g := gb103) (o := .cells #[.int .i64 ((rd_T80 l0_1 x6_1).f0), .int .i64 ((rd_T80 l0_1 x6_1).f1), .int .i64 ((rd_T80 l0_1 x6_1).f2)] 80 (0, 0)) (tK BK103) k_ hk⟩)); (case aO => exact (tR HO113)); (case aS => exact (below_size (tB))); (case aL => have := LMc39.out; omega); intro v116 w43 ho hb hg hat; rw [← Ny115.out] at ho; have n0_ := Aside0.mk (Kd.R_after (ok := (fun k_ => k_ ≠ gb103)) (tR HO_5) hg hat); have n1_ := Aside0.mk (blk_grown (g := gb101) (o := .cells #[.slice A0_0 l0_0.length c0_0, .slice (some ad102) l0_1.length c0_1, .bool a0_2] 25 (0, 0)) (tK BK101) hg (Kd.R_ne HO113.out BK101.out (by decide))); have n2_ := Aside0.mk (blk_grown (g := gb103) (o := .cells #[.int .i64 ((rd_T80 l0_1 x6_1).f0), .int .i64 ((rd_T80 l0_1 x6_1).f1), .int .i64 ((rd_T80 l0_1 x6_1).f2)] 80 (0, 0)) (tK BK103) hg (Kd.R_away HO113.out (fun _ hk => hk.2))); have n3_ := Aside0.mk (hb); have n4_ := Aside0.mk (ho); clear HO_5; clear BK101; clear BK103; clear HB; clear HO113; have HO_5 := n0_; have BK101 := n1_; have BK103 := n2_; have HB := n3_; have HO117 := n4_; clear n0_ n1_ n2_ n3_ n4_; clear ho hb hg hat)); try go_wp2_with (first | ((with_reducible refine gate_builtin (b := .append) (xs := #[.tmp 71, .tmp 73]) rfl ?_); at_builtin; refine Kd.R_append k80 (w0 := w) w.heap.size rfl (.tmp 71) (.tmp 73) 23 80 (.agg #[(.int .i64 0), (.int .i64 0), (.int .i64 0)]) 24 rfl Try.underlying23 info80 rfl (by decide) (by omega) u10 x10_4 (⟨((rd_T80 l0_1 x6_1).f0), ((rd_T80 l0_1 x6_1).f1), ((rd_T80 l0_1 x6_1).f2)⟩ : S80) [.int .i64 ((rd_T80 l0_1 x6_1).f0), .int .i64 ((rd_T80 l0_1 x6_1).f1), .int .i64 ((rd_T80 l0_1 x6_1).f2)] (fun k_ => some k_ ≠ (.slice (some ad110) x5_1.length co30 : Value).ownBlock ∧ k_ ≠ gb103) (fun _ => False) rfl rfl ?aP (fun _ hk => hk.elim) ?aF ?aO ?aB ?aS ?aL ?_; (case aP => exact k80_mkM _ _ _ (⟨((rd_T80 l0_1 x6_1).f0), ((rd_T80 l0_1 x6_1).f1), ((rd_T80 l0_1 x6_1).f2)⟩ : S80)); (case aB => exact (tB)); (case aF => exact (fun k_ hk => ⟨Kd.fresh' (Kd.R_lt (tR HO_5)) k_ hk, Kd.freshB (g := gb103) (o := .cells #[.int .i64 ((rd_T80 l0_1 x6_1).f0), .int .i64 ((rd_T80 l0_1 x6_1).f1), .int .i64 ((rd_T80 l0_1 x6_1).f2)] 80 (0, 0)) (tK BK103) k_ hk⟩)); (case aO => exact (tR HO_10)); (case aS => exact (below_size (tB))); (case aL => have := LMc38.out; omega); intro v112 w42 ho hb hg hat; rw [← Ny111.out] at ho; have n0_ := Aside0.mk (Kd.R_after (ok := (fun k_ => k_ ≠ gb103)) (by (with_reducible repeat (first | apply Kd.R_alloc | apply Kd.R_drewN | apply Kd.R_drew)); exact Kd.R_mono HO_5.out (fun _ hk => ⟨hk.2, hk.1⟩)) hg hat); have n1_ := Aside0.mk (blk_grown (g := gb101) (o := .cells #[.slice A0_0 l0_0.length c0_0, .slice (some ad102) l0_1.length c0_1, .bool a0_2] 25 (0, 0)) (tK BK101) hg (Kd.R_ne HO_10.out BK101.out (by decide))); have n2_ := Aside0.mk (blk_grown (g := gb103) (o := .cells #[.int .i64 ((rd_T80 l0_1 x6_1).f0), .int .i64 ((rd_T80 l0_1 x6_1).f1), .int .i64 ((rd_T80 l0_1 x6_1).f2)] 80 (0, 0)) (tK BK103) hg (Kd.R_away HO_10.out (fun _ hk => hk.2))); have n3_ := Aside0.mk (hb); have n4_ := Aside0.mk (ho); clear HO_5; clear BK101; clear BK103; clear HB; clear HO_10; have HO_5 := n0_; have BK101 := n1_; have BK103 := n2_; have HB := n3_; have HO113 := n4_; clear n0_ n1_ n2_ n3_ n4_; clear ho hb hg hat; have p114 : 0 ≤ (x12_4 : Int) := tD; have q114 : x12_4 < (x5_1.length : Int) := tD; obtain ⟨ad114, e114, hx114_0, hx114_1, hx114_2⟩ := at_T80 (Kd.R_reads' HO_5.out).2.2 x12_4 p114 q114; obtain rfl : ad110 = ad114 := (by injection e114); replace p114 := eq_true p114; replace q114 := eq_true q114) | ((with_reducible refine gate_builtin (b := .append) (xs := #[.tmp 75, .tmp 80]) rfl ?_); at_builtin; refine Kd.R_append k80 (w0 := w) w.heap.size rfl (.tmp 75) (.tmp 80) 23 80 (.agg #[(.int .i64 0), (.int .i64 0), (.int .i64 0)]) 24 rfl Try.underlying23 info80 rfl (by decide) (by omega) v112 y111 (⟨(rd_T80 x5_1 x12_4).f0, (rd_T80 x5_1 x12_4).f1, (rd_T80 x5_1 x12_4).f2⟩ : S80) [.int .i64 ((rd_T80 x5_1 x12_4).f0), .int .i64 ((rd_T80 x5_1 x12_4).f1), .int .i64 ((rd_T80 x5_1 x12_4).f2)] (fun k_ => some k_ ≠ (.slice (some ad110) x5_1.length co30 : Value).ownBlock ∧ k_ ≠ gb103) (fun _ => False) rfl rfl ?aP (fun _ hk => hk.elim) ?aF ?aO ?aB ?aS ?aL ?_; (case aP => exact k80_mkM _ _ _ (⟨(rd_T80 x5_1 x12_4).f0, (rd_T80 x5_1 x12_4).f1, (rd_T80 x5_1 x12_4).f2⟩ : S80)); (case aB => exact (tB)); (case aF => exact (fun k_ hk => ⟨Kd.fresh' (Kd.R_lt (tR HO_5)) k_ hk, Kd.freshB (g := gb103) (o := .cells #[.int .i64 ((rd_T80 l0_1 x6_1).f0), .int .i64 ((rd_T80 l0_1 x6_1).f1), .int .i64 ((rd_T80 l0_1 x6_1).f2)] 80 (0, 0)) (tK BK103) k_ hk⟩)); (case aO => exact (tR HO113)); (case aS => exact (below_size (tB))); (case aL => have := LMc39.out; omega); intro v116 w43 ho hb hg hat; rw [← Ny115.out] at ho; have n0_ := Aside0.mk (Kd.R_after (ok := (fun k_ => k_ ≠ gb103)) (tR HO_5) hg hat); have n1_ := Aside0.mk (blk_grown (g := gb101) (o := .cells #[.slice A0_0 l0_0.length c0_0, .slice (some ad102) l0_1.length c0_1, .bool a0_2] 25 (0, 0)) (tK BK101) hg (Kd.R_ne HO113.out BK101.out (by decide))); have n2_ := Aside0.mk (blk_grown (g := gb103) (o := .cells #[.int .i64 ((rd_T80 l0_1 x6_1).f0), .int .i64 ((rd_T80 l0_1 x6_1).f1), .int .i64 ((rd_T80 l0_1 x6_1).f2)] 80 (0, 0)) (tK BK103) hg (Kd.R_away HO113.out (fun _ hk => hk.2))); have n3_ := Aside0.mk (hb); have n4_ := Aside0.mk (ho); clear HO_5; clear BK101; clear BK103; clear HB; clear HO113; have HO_5 := n0_; have BK101 := n1_; have BK103 := n2_; have HB := n3_; have HO117 := n4_; clear n0_ n1_ n2_ n3_ n4_; clear ho hb hg hat)))
                   go_roundg k4
                   case measure => have := HK1.out; have := HJ5.out; have := HK3.out; have := HK4.out; omega
                   case rel => exact ⟨(y115), (true), (wrap64 (x12_4 + 1)), (by first | rfl | (simp; done) | (simp [*]; done)), (by first | rfl | (simp; done) | (simp [*]; done)), H', ⟨by have := HK1.out; have := HJ5.out; have := HK3.out; have := HK4.out; omega⟩, ⟨by (with_reducible repeat (first | apply Kd.R_alloc | apply Kd.R_drewN | apply Kd.R_drew)); exact Kd.R_mono HO_5.out (fun _ hk => ⟨hk.2, hk.1⟩)⟩, ⟨tR HO117⟩, ⟨tK BK101⟩, ⟨tK BK103⟩, ⟨tB⟩⟩
                  ·rw [if_neg c39] at H
                   exact absurd H (by simp)
                 ·rw [if_neg c38] at H
                  exact absurd H (by simp)
                ·rw [if_neg c37] at H
                 have c37b0 : decide (((rd_T80 l0_1 x6_1).f1) < ((rd_T80 x5_1 x12_4).f1)) = false := decide_eq_false c37
                 clear c37
                 by_cases c44 : x10_4.length < 5864062014805
                 ·rw [if_pos c44] at H
                  have LMc44 := Aside0.mk c44
                  clear c44
                  obtain ⟨y119, hy119⟩ : ∃ y_ : List (S80), y_ = (x10_4 ++ [(⟨(rd_T80 x5_1 x12_4).f0, (rd_T80 x5_1 x12_4).f1, (rd_T80 x5_1 x12_4).f2⟩ : S80)]) := ⟨_, rfl⟩
                  replace H : (petrinetref16_Moves.l2 k4 a1 x5_1 x6_1 y119 false (wrap64 (x12_4 + 1)) l0_0 l0_1 a0_2 ((rd_T80 l0_1 x6_1).f0) ((rd_T80 l0_1 x6_1).f1) ((rd_T80 l0_1 x6_1).f2)) = some r := by first | (rw [hy119]; with_reducible exact H) | (have H2_ := (Option.bind_some _ _).symm.trans H; rw [hy119]; with_reducible exact H2_) | (have H2_ := (Option.bind_some _ _).symm.trans H; with_reducible exact H2_) | with_reducible exact H | (rw [hy119]; exact H) | exact H
                  have Ny119 := Aside0.mk hy119
                  clear hy119
                  have H' := Aside0.mk H
                  clear H
                  have p110 : 0 ≤ (x12_4 : Int) := tD
                  have q110 : x12_4 < (x5_1.length : Int) := tD
                  obtain ⟨ad110, e110, hx110_0, hx110_1, hx110_2⟩ := at_T80 (Kd.R_reads' HO_5.out).2.2 x12_4 p110 q110
                  cases e110
                  replace p110 := eq_true p110
                  replace q110 := eq_true q110
                  have hnb45 := NB103_101.out
                  have hnc45 := NB101_103.out
                  have hcz46_0 : wr.cell? ⟨gb103, 0, none⟩ = some (.int .i64 ((rd_T80 l0_1 x6_1).f0)) := (blk_cell BK103.out 0).trans rfl
                  have hcz46_1 : wr.cell? ⟨gb103, 1, none⟩ = some (.int .i64 ((rd_T80 l0_1 x6_1).f1)) := (blk_cell BK103.out 1).trans rfl
                  have hcz46_2 : wr.cell? ⟨gb103, 2, none⟩ = some (.int .i64 ((rd_T80 l0_1 x6_1).f2)) := (blk_cell BK103.out 2).trans rfl
                  have hfz46_0 := blk_frozen BK103.out 0
                  have hfz46_1 := blk_frozen BK103.out 1
                  have hfz46_2 := blk_frozen BK103.out 2
                  have p118 : 0 ≤ (x12_4 : Int) := tD
                  have q118 : x12_4 < (x5_1.length : Int) := tD
                  obtain ⟨ad118, e118, hx118_0, hx118_1, hx118_2⟩ := at_T80 (Kd.R_reads' HO_5.out).2.2 x12_4 p118 q118
                  obtain rfl : ad110 = ad118 := (by injection e118)
                  replace p118 := eq_true p118
                  replace q118 := eq_true q118
                  go_wp2_with (first | ((with_reducible refine gate_builtin (b := .append) (xs := #[.tmp 75, .tmp 80]) rfl ?_); at_builtin; refine Kd.R_append k80 (w0 := w) w.heap.size rfl (.tmp 75) (.tmp 80) 23 80 (.agg #[(.int .i64 0), (.int .i64 0), (.int .i64 0)]) 24 rfl Try.underlying23 info80 rfl (by decide) (by omega) u10 x10_4 (⟨(rd_T80 x5_1 x12_4).f0, (rd_T80 x5_1 x12_4).f1, (rd_T80 x5_1 x12_4).f2⟩ : S80) [.int .i64 ((rd_T80 x5_1 x12_4).f0), .int .i64 ((rd_T80 x5_1 x12_4).f1), .int .i64 ((rd_T80 x5_1 x12_4).f2)] (fun k_ => some k_ ≠ (.slice (some ad110) x5_1.length co30 : Value).ownBlock ∧ k_ ≠ gb103) (fun _ => False) rfl rfl ?aP (fun _ hk => hk.elim) ?aF ?aO ?aB ?aS ?aL ?_; (case aP => exact k80_mkM _ _ _ (⟨(rd_T80 x5_1 x12_4).f0, (rd_T80 x5_1 x12_4).f1, (rd_T80 x5_1 x12_4).f2⟩ : S80)); (case aB => exact (tB)); (case aF => exact (fun k_ hk => ⟨Kd.fresh' (Kd.R_lt (tR HO_5)) k_ hk, Kd.freshB (g := gb103) (o := .cells #[.int .i64 ((rd_T80 l0_1 x6_1).f0), .int .i64 ((rd_T80 l0_1 x6_1).f1), .int .i64 ((rd_T80 l0_1 x6_1).f2)] 80 (0, 0)) (tK BK103) k_ hk⟩)); (case aO => exact (tR HO_10)); (case aS => exact (below_size (tB))); (case aL => have := LMc44.out; omega); intro v120 w47 ho hb hg hat; rw [← Ny119.out] at ho; have n0_ := Aside0.mk (Kd.R_after (ok := (fun k_ => k_ ≠ gb103)) (by (with_reducible repeat (first | apply Kd.R_alloc | apply Kd.R_drewN | apply Kd.R_drew)); exact Kd.R_mono HO_5.out (fun _ hk => ⟨hk.2, hk.1⟩)) hg hat); have n1_ := Aside0.mk (blk_grown (g := gb101) (o := .cells #[.slice A0_0 l0_0.length c0_0, .slice (some ad102) l0_1.length c0_1, .bool a0_2] 25 (0, 0)) (tK BK101) hg (Kd.R_ne HO_10.out BK101.out (by decide))); have n2_ := Aside0.mk (blk_grown (g := gb103) (o := .cells #[.int .i64 ((rd_T80 l0_1 x6_1).f0), .int .i64 ((rd_T80 l0_1 x6_1).f1), .int .i64 ((rd_T80 l0_1 x6_1).f2)] 80 (0, 0)) (tK BK103) hg (Kd.R_away HO_10.out (fun _ hk => hk.2))); have n3_ := Aside0.mk (hb); have n4_ := Aside0.mk (ho); clear HO_5; clear BK101; clear BK103; clear HB; clear HO_10; have HO_5 := n0_; have BK101 := n1_; have BK103 := n2_; have HB := n3_; have HO121 := n4_; clear n0_ n1_ n2_ n3_ n4_; clear ho hb hg hat))
                  repeat (go_quiet (first | ((with_reducible refine gate_builtin (b := .append) (xs := #[.tmp 75, .tmp 80]) rfl ?_); at_builtin; refine Kd.R_append k80 (w0 := w) w.heap.size rfl (.tmp 75) (.tmp 80) 23 80 (.agg #[(.int .i64 0), (.int .i64 0), (.int .i64 0)]) 24 rfl Try.underlying23 info80 rfl (by decide) (by omega) u10 x10_4 (⟨(rd_T80 x5_1 x12_4).f0, (rd_T80 x5_1 x12_4).f1, (rd_T80 x5_1 x12_4).f2⟩ : S80) [.int .i64 ((rd_T80 x5_1 x12_4).f0), .int .i64 ((rd_T80 x5_1 x12_4).f1), .int .i64 ((rd_T80 x5_1 x12_4).f2)] (fun k_ => some k_ ≠ (.slice (some ad110) x5_1.length co30 : Value).ownBlock ∧ k_ ≠ gb103) (fun _ => False) rfl rfl ?aP (fun _ hk => hk.elim) ?aF ?aO ?aB ?aS ?aL ?_; (case aP => exact k80_mkM _ _ _ (⟨(rd_T80 x5_1 x12_4).f0, (rd_T80 x5_1 x12_4).f1, (rd_T80 x5_1 x12_4).f2⟩ : S80)); (case aB => exact (tB)); (case aF => exact (fun k_ hk => ⟨Kd.fresh' (Kd.R_lt (tR HO_5)) k_ hk, Kd.freshB (g := gb103) (o := .cells #[.int .i64 ((rd_T80 l0_1 x6_1).f0), .int .i64 ((rd_T80 l0_1 x6_1).f1), .int .i64 ((rd_T80 l0_1 x6_1).f2)] 80 (0, 0)) (tK BK103) k_ hk⟩)); (case aO => exact (tR HO_10)); (case aS => exact (below_size (tB))); (case aL => have := LMc44.out; omega); intro v120 w47 ho hb hg hat; rw [← Ny119.out] at ho; have n0_ := Aside0.mk (Kd.R_after (ok := (fun k_ => k_ ≠ gb103)) (by (with_reducible repeat (first | apply Kd.R_alloc | apply Kd.R_drewN | apply Kd.R_drew)); exact Kd.R_mono HO_5.out (fun _ hk => ⟨hk.2, hk.1⟩)) hg hat); have n1_ := Aside0.mk (blk_grown (g := gb101) (o := .cells #[.slice A0_0 l0_0.length c0_0, .slice (some ad102) l0_1.length c0_1, .bool a0_2] 25 (0, 0)) (tK BK101) hg (Kd.R_ne HO_10.out BK101.out (by decide))); have n2_ := Aside0.mk (blk_grown (g := gb103) (o := .cells #[.int .i64 ((rd_T80 l0_1 x6_1).f0), .int .i64 ((rd_T80 l0_1 x6_1).f1), .int .i64 ((rd_T80 l0_1 x6_1).f2)] 80 (0, 0)) (tK BK103) hg (Kd.R_away HO_10.out (fun _ hk => hk.2))); have n3_ := Aside0.mk (hb); have n4_ := Aside0.mk (ho); clear HO_5; clear BK101; clear BK103; clear HB; clear HO_10; have HO_5 := n0_; have BK101 := n1_; have BK103 := n2_; have HB := n3_; have HO121 := n4_; clear n0_ n1_ n2_ n3_ n4_; clear ho hb hg hat)); try go_wp2_with (first | ((with_reducible refine gate_builtin (b := .append) (xs := #[.tmp 75, .tmp 80]) rfl ?_); at_builtin; refine Kd.R_append k80 (w0 := w) w.heap.size rfl (.tmp 75) (.tmp 80) 23 80 (.agg #[(.int .i64 0), (.int .i64 0), (.int .i64 0)]) 24 rfl Try.underlying23 info80 rfl (by decide) (by omega) u10 x10_4 (⟨(rd_T80 x5_1 x12_4).f0, (rd_T80 x5_1 x12_4).f1, (rd_T80 x5_1 x12_4).f2⟩ : S80) [.int .i64 ((rd_T80 x5_1 x12_4).f0), .int .i64 ((rd_T80 x5_1 x12_4).f1), .int .i64 ((rd_T80 x5_1 x12_4).f2)] (fun k_ => some k_ ≠ (.slice (some ad110) x5_1.length co30 : Value).ownBlock ∧ k_ ≠ gb103) (fun _ => False) rfl rfl ?aP (fun _ hk => hk.elim) ?aF ?aO ?aB ?aS ?aL ?_; (case aP => exact k80_mkM _ _ _ (⟨(rd_T80 x5_1 x12_4).f0, (rd_T80 x5_1 x12_4).f1, (rd_T80 x5_1 x12_4).f2⟩ : S80)); (case aB => exact (tB)); (case aF => exact (fun k_ hk => ⟨Kd.fresh' (Kd.R_lt (tR HO_5)) k_ hk, Kd.freshB (g := gb103) (o := .cells #[.int .i64 ((rd_T80 l0_1 x6_1).f0), .int .i64 ((rd_T80 l0_1 x6_1).f1), .int .i64 ((rd_T80 l0_1 x6_1).f2)] 80 (0, 0)) (tK BK103) k_ hk⟩)); (case aO => exact (tR HO_10)); (case aS => exact (below_size (tB))); (case aL => have := LMc44.out; omega); intro v120 w47 ho hb hg hat; rw [← Ny119.out] at ho; have n0_ := Aside0.mk (Kd.R_after (ok := (fun k_ => k_ ≠ gb103)) (by (with_reducible repeat (first | apply Kd.R_alloc | apply Kd.R_drewN | apply Kd.R_drew)); exact Kd.R_mono HO_5.out (fun _ hk => ⟨hk.2, hk.1⟩)) hg hat); have n1_ := Aside0.mk (blk_grown (g := gb101) (o := .cells #[.slice A0_0 l0_0.length c0_0, .slice (some ad102) l0_1.length c0_1, .bool a0_2] 25 (0, 0)) (tK BK101) hg (Kd.R_ne HO_10.out BK101.out (by decide))); have n2_ := Aside0.mk (blk_grown (g := gb103) (o := .cells #[.int .i64 ((rd_T80 l0_1 x6_1).f0), .int .i64 ((rd_T80 l0_1 x6_1).f1), .int .i64 ((rd_T80 l0_1 x6_1).f2)] 80 (0, 0)) (tK BK103) hg (Kd.R_away HO_10.out (fun _ hk => hk.2))); have n3_ := Aside0.mk (hb); have n4_ := Aside0.mk (ho); clear HO_5; clear BK101; clear BK103; clear HB; clear HO_10; have HO_5 := n0_; have BK101 := n1_; have BK103 := n2_; have HB := n3_; have HO121 := n4_; clear n0_ n1_ n2_ n3_ n4_; clear ho hb hg hat)))
                  go_roundg k4
                  case measure => have := HK1.out; have := HJ5.out; have := HK3.out; have := HK4.out; omega
                  case rel => exact ⟨(y119), (false), (wrap64 (x12_4 + 1)), (by first | rfl | (simp; done) | (simp [*]; done)), (by first | rfl | (simp; done) | (simp [*]; done)), H', ⟨by have := HK1.out; have := HJ5.out; have := HK3.out; have := HK4.out; omega⟩, ⟨by (with_reducible repeat (first | apply Kd.R_alloc | apply Kd.R_drewN | apply Kd.R_drew)); exact Kd.R_mono HO_5.out (fun _ hk => ⟨hk.2, hk.1⟩)⟩, ⟨tR HO121⟩, ⟨tK BK101⟩, ⟨tK BK103⟩, ⟨tB⟩⟩
                 ·rw [if_neg c44] at H
                  exact absurd H (by simp)
               ·rw [if_neg c36] at H
                exact absurd H (by simp)
             ·rw [if_neg c31] at H
              have c31b0 : decide (x12_4 < (x5_1.length : Int)) = false := decide_eq_false c31
              clear c31
              by_cases c48 : x11_4 = true
              ·subst c48
               have H1 : (petrinetref16_Moves.l0 k4 a1 x10_4 (wrap64 (x6_1 + 1)) l0_0 l0_1 a0_2) = some r := by rw [if_pos rfl] at H; exact H
               clear H
               have H := H1
               clear H1
               have H' := Aside0.mk H
               clear H
               go_wp2
               repeat (go_quiet (fail); try go_wp2)
               go_roundg k4
               case measure => have := HK1.out; have := HJ5.out; have := HK3.out; have := HK4.out; omega
               case rel => exact ⟨(x10_4), (wrap64 (x6_1 + 1)), (by first | rfl | (simp; done) | (simp [*]; done)), H', ⟨by have := HK1.out; have := HJ5.out; have := HK3.out; have := HK4.out; omega⟩, ⟨by (with_reducible repeat (first | apply Kd.R_alloc | apply Kd.R_drewN | apply Kd.R_drew)); exact Kd.R_mono HO_10.out (fun _ hk => trivial)⟩, ⟨tK BK101⟩, ⟨tB⟩⟩
              ·replace c48 := Bool.eq_false_iff.mpr c48
               subst c48
               have H1 : (if x10_4.length < 5864062014805 then (petrinetref16_Moves.l0 k4 a1 (x10_4 ++ [(⟨((rd_T80 l0_1 x6_1).f0), ((rd_T80 l0_1 x6_1).f1), ((rd_T80 l0_1 x6_1).f2)⟩ : S80)]) (wrap64 (x6_1 + 1)) l0_0 l0_1 a0_2) else (none)) = some r := by rw [if_neg (show ¬ (false = true) by decide)] at H; exact H
               clear H
               have H := H1
               clear H1
               by_cases c49 : x10_4.length < 5864062014805
               ·rw [if_pos c49] at H
                have LMc49 := Aside0.mk c49
                clear c49
                obtain ⟨y122, hy122⟩ : ∃ y_ : List (S80), y_ = (x10_4 ++ [(⟨((rd_T80 l0_1 x6_1).f0), ((rd_T80 l0_1 x6_1).f1), ((rd_T80 l0_1 x6_1).f2)⟩ : S80)]) := ⟨_, rfl⟩
                replace H : (petrinetref16_Moves.l0 k4 a1 y122 (wrap64 (x6_1 + 1)) l0_0 l0_1 a0_2) = some r := by first | (rw [hy122]; with_reducible exact H) | (have H2_ := (Option.bind_some _ _).symm.trans H; rw [hy122]; with_reducible exact H2_) | (have H2_ := (Option.bind_some _ _).symm.trans H; with_reducible exact H2_) | with_reducible exact H | (rw [hy122]; exact H) | exact H
                have Ny122 := Aside0.mk hy122
                clear hy122
                have H' := Aside0.mk H
                clear H
                have hnb50 := NB103_101.out
                have hnc50 := NB101_103.out
                have hcz51_0 : wr.cell? ⟨gb103, 0, none⟩ = some (.int .i64 ((rd_T80 l0_1 x6_1).f0)) := (blk_cell BK103.out 0).trans rfl
                have hcz51_1 : wr.cell? ⟨gb103, 1, none⟩ = some (.int .i64 ((rd_T80 l0_1 x6_1).f1)) := (blk_cell BK103.out 1).trans rfl
                have hcz51_2 : wr.cell? ⟨gb103, 2, none⟩ = some (.int .i64 ((rd_T80 l0_1 x6_1).f2)) := (blk_cell BK103.out 2).trans rfl
                have hfz51_0 := blk_frozen BK103.out 0
                have hfz51_1 := blk_frozen BK103.out 1
                have hfz51_2 := blk_frozen BK103.out 2
                go_wp2_with (first | ((with_reducible refine gate_builtin (b := .append) (xs := #[.tmp 84, .tmp 86]) rfl ?_); at_builtin; refine Kd.R_append k80 (w0 := w) w.heap.size rfl (.tmp 84) (.tmp 86) 23 80 (.agg #[(.int .i64 0), (.int .i64 0), (.int .i64 0)]) 24 rfl Try.underlying23 info80 rfl (by decide) (by omega) u10 x10_4 (⟨((rd_T80 l0_1 x6_1).f0), ((rd_T80 l0_1 x6_1).f1), ((rd_T80 l0_1 x6_1).f2)⟩ : S80) [.int .i64 ((rd_T80 l0_1 x6_1).f0), .int .i64 ((rd_T80 l0_1 x6_1).f1), .int .i64 ((rd_T80 l0_1 x6_1).f2)] (fun k_ => some k_ ≠ (.slice Ao30 x5_1.length co30 : Value).ownBlock ∧ k_ ≠ gb103) (fun _ => False) rfl rfl ?aP (fun _ hk => hk.elim) ?aF ?aO ?aB ?aS ?aL ?_; (case aP => exact k80_mkM _ _ _ (⟨((rd_T80 l0_1 x6_1).f0), ((rd_T80 l0_1 x6_1).f1), ((rd_T80 l0_1 x6_1).f2)⟩ : S80)); (case aB => exact (tB)); (case aF => exact (fun k_ hk => ⟨Kd.fresh' (Kd.R_lt (tR HO_5)) k_ hk, Kd.freshB (g := gb103) (o := .cells #[.int .i64 ((rd_T80 l0_1 x6_1).f0), .int .i64 ((rd_T80 l0_1 x6_1).f1), .int .i64 ((rd_T80 l0_1 x6_1).f2)] 80 (0, 0)) (tK BK103) k_ hk⟩)); (case aO => exact (tR HO_10)); (case aS => exact (below_size (tB))); (case aL => have := LMc49.out; omega); intro v123 w52 ho hb hg hat; rw [← Ny122.out] at ho; have n0_ := Aside0.mk (Kd.R_after (ok := (fun k_ => k_ ≠ gb103)) (by (with_reducible repeat (first | apply Kd.R_alloc | apply Kd.R_drewN | apply Kd.R_drew)); exact Kd.R_mono HO_5.out (fun _ hk => ⟨hk.2, hk.1⟩)) hg hat); have n1_ := Aside0.mk (blk_grown (g := gb101) (o := .cells #[.slice A0_0 l0_0.length c0_0, .slice (some ad102) l0_1.length c0_1, .bool a0_2] 25 (0, 0)) (tK BK101) hg (Kd.R_ne HO_10.out BK101.out (by decide))); have n2_ := Aside0.mk (blk_grown (g := gb103) (o := .cells #[.int .i64 ((rd_T80 l0_1 x6_1).f0), .int .i64 ((rd_T80 l0_1 x6_1).f1), .int .i64 ((rd_T80 l0_1 x6_1).f2)] 80 (0, 0)) (tK BK103) hg (Kd.R_away HO_10.out (fun _ hk => hk.2))); have n3_ := Aside0.mk (hb); have n4_ := Aside0.mk (ho); clear HO_5; clear BK101; clear BK103; clear HB; clear HO_10; have HO_5 := n0_; have BK101 := n1_; have BK103 := n2_; have HB := n3_; have HO124 := n4_; clear n0_ n1_ n2_ n3_ n4_; clear ho hb hg hat))
                repeat (go_quiet (first | ((with_reducible refine gate_builtin (b := .append) (xs := #[.tmp 84, .tmp 86]) rfl ?_); at_builtin; refine Kd.R_append k80 (w0 := w) w.heap.size rfl (.tmp 84) (.tmp 86) 23 80 (.agg #[(.int .i64 0), (.int .i64 0), (.int .i64 0)]) 24 rfl Try.underlying23 info80 rfl (by decide) (by omega) u10 x10_4 (⟨((rd_T80 l0_1 x6_1).f0), ((rd_T80 l0_1 x6_1).f1), ((rd_T80 l0_1 x6_1).f2)⟩ : S80) [.int .i64 ((rd_T80 l0_1 x6_1).f0), .int .i64 ((rd_T80 l0_1 x6_1).f1), .int .i64 ((rd_T80 l0_1 x6_1).f2)] (fun k_ => some k_ ≠ (.slice Ao30 x5_1.length co30 : Value).ownBlock ∧ k_ ≠ gb103) (fun _ => False) rfl rfl ?aP (fun _ hk => hk.elim) ?aF ?aO ?aB ?aS ?aL ?_; (case aP => exact k80_mkM _ _ _ (⟨((rd_T80 l0_1 x6_1).f0), ((rd_T80 l0_1 x6_1).f1), ((rd_T80 l0_1 x6_1).f2)⟩ : S80)); (case aB => exact (tB)); (case aF => exact (fun k_ hk => ⟨Kd.fresh' (Kd.R_lt (tR HO_5)) k_ hk, Kd.freshB (g := gb103) (o := .cells #[.int .i64 ((rd_T80 l0_1 x6_1).f0), .int .i64 ((rd_T80 l0_1 x6_1).f1), .int .i64 ((rd_T80 l0_1 x6_1).f2)] 80 (0, 0)) (tK BK103) k_ hk⟩)); (case aO => exact (tR HO_10)); (case aS => exact (below_size (tB))); (case aL => have := LMc49.out; omega); intro v123 w52 ho hb hg hat; rw [← Ny122.out] at ho; have n0_ := Aside0.mk (Kd.R_after (ok := (fun k_ => k_ ≠ gb103)) (by (with_reducible repeat (first | apply Kd.R_alloc | apply Kd.R_drewN | apply Kd.R_drew)); exact Kd.R_mono HO_5.out (fun _ hk => ⟨hk.2, hk.1⟩)) hg hat); have n1_ := Aside0.mk (blk_grown (g := gb101) (o := .cells #[.slice A0_0 l0_0.length c0_0, .slice (some ad102) l0_1.length c0_1, .bool a0_2] 25 (0, 0)) (tK BK101) hg (Kd.R_ne HO_10.out BK101.out (by decide))); have n2_ := Aside0.mk (blk_grown (g := gb103) (o := .cells #[.int .i64 ((rd_T80 l0_1 x6_1).f0), .int .i64 ((rd_T80 l0_1 x6_1).f1), .int .i64 ((rd_T80 l0_1 x6_1).f2)] 80 (0, 0)) (tK BK103) hg (Kd.R_away HO_10.out (fun _ hk => hk.2))); have n3_ := Aside0.mk (hb); have n4_ := Aside0.mk (ho); clear HO_5; clear BK101; clear BK103; clear HB; clear HO_10; have HO_5 := n0_; have BK101 := n1_; have BK103 := n2_; have HB := n3_; have HO124 := n4_; clear n0_ n1_ n2_ n3_ n4_; clear ho hb hg hat)); try go_wp2_with (first | ((with_reducible refine gate_builtin (b := .append) (xs := #[.tmp 84, .tmp 86]) rfl ?_); at_builtin; refine Kd.R_append k80 (w0 := w) w.heap.size rfl (.tmp 84) (.tmp 86) 23 80 (.agg #[(.int .i64 0), (.int .i64 0), (.int .i64 0)]) 24 rfl Try.underlying23 info80 rfl (by decide) (by omega) u10 x10_4 (⟨((rd_T80 l0_1 x6_1).f0), ((rd_T80 l0_1 x6_1).f1), ((rd_T80 l0_1 x6_1).f2)⟩ : S80) [.int .i64 ((rd_T80 l0_1 x6_1).f0), .int .i64 ((rd_T80 l0_1 x6_1).f1), .int .i64 ((rd_T80 l0_1 x6_1).f2)] (fun k_ => some k_ ≠ (.slice Ao30 x5_1.length co30 : Value).ownBlock ∧ k_ ≠ gb103) (fun _ => False) rfl rfl ?aP (fun _ hk => hk.elim) ?aF ?aO ?aB ?aS ?aL ?_; (case aP => exact k80_mkM _ _ _ (⟨((rd_T80 l0_1 x6_1).f0), ((rd_T80 l0_1 x6_1).f1), ((rd_T80 l0_1 x6_1).f2)⟩ : S80)); (case aB => exact (tB)); (case aF => exact (fun k_ hk => ⟨Kd.fresh' (Kd.R_lt (tR HO_5)) k_ hk, Kd.freshB (g := gb103) (o := .cells #[.int .i64 ((rd_T80 l0_1 x6_1).f0), .int .i64 ((rd_T80 l0_1 x6_1).f1), .int .i64 ((rd_T80 l0_1 x6_1).f2)] 80 (0, 0)) (tK BK103) k_ hk⟩)); (case aO => exact (tR HO_10)); (case aS => exact (below_size (tB))); (case aL => have := LMc49.out; omega); intro v123 w52 ho hb hg hat; rw [← Ny122.out] at ho; have n0_ := Aside0.mk (Kd.R_after (ok := (fun k_ => k_ ≠ gb103)) (by (with_reducible repeat (first | apply Kd.R_alloc | apply Kd.R_drewN | apply Kd.R_drew)); exact Kd.R_mono HO_5.out (fun _ hk => ⟨hk.2, hk.1⟩)) hg hat); have n1_ := Aside0.mk (blk_grown (g := gb101) (o := .cells #[.slice A0_0 l0_0.length c0_0, .slice (some ad102) l0_1.length c0_1, .bool a0_2] 25 (0, 0)) (tK BK101) hg (Kd.R_ne HO_10.out BK101.out (by decide))); have n2_ := Aside0.mk (blk_grown (g := gb103) (o := .cells #[.int .i64 ((rd_T80 l0_1 x6_1).f0), .int .i64 ((rd_T80 l0_1 x6_1).f1), .int .i64 ((rd_T80 l0_1 x6_1).f2)] 80 (0, 0)) (tK BK103) hg (Kd.R_away HO_10.out (fun _ hk => hk.2))); have n3_ := Aside0.mk (hb); have n4_ := Aside0.mk (ho); clear HO_5; clear BK101; clear BK103; clear HB; clear HO_10; have HO_5 := n0_; have BK101 := n1_; have BK103 := n2_; have HB := n3_; have HO124 := n4_; clear n0_ n1_ n2_ n3_ n4_; clear ho hb hg hat)))
                go_roundg k4
                case measure => have := HK1.out; have := HJ5.out; have := HK3.out; have := HK4.out; omega
                case rel => exact ⟨(y122), (wrap64 (x6_1 + 1)), (by first | rfl | (simp; done) | (simp [*]; done)), H', ⟨by have := HK1.out; have := HJ5.out; have := HK3.out; have := HK4.out; omega⟩, ⟨by (with_reducible repeat (first | apply Kd.R_alloc | apply Kd.R_drewN | apply Kd.R_drew)); exact Kd.R_mono HO124.out (fun _ hk => trivial)⟩, ⟨tK BK101⟩, ⟨tB⟩⟩
               ·rw [if_neg c49] at H
                exact absurd H (by simp)
          ·replace c29 := Bool.eq_false_iff.mpr c29
           subst c29
           have H1 : (petrinetref16_Moves.l0 k3 a1 x5_1 (wrap64 (x6_1 + 1)) l0_0 l0_1 a0_2) = some r := by rw [if_neg (show ¬ (false = true) by decide)] at H; exact H
           clear H
           have H := H1
           clear H1
           have H' := Aside0.mk H
           clear H
           obtain ⟨Ao53, co53, eo53⟩ := Kd.R_slice HO_5.out
           subst eo53
           go_wp2
           repeat (go_quiet (fail); try go_wp2)
           go_roundg k3
           case measure => have := HK1.out; have := HJ5.out; have := HK3.out; omega
           case rel => exact ⟨(x5_1), (wrap64 (x6_1 + 1)), (by first | rfl | (simp; done) | (simp [*]; done)), H', ⟨by have := HK1.out; have := HJ5.out; have := HK3.out; omega⟩, ⟨by (with_reducible repeat (first | apply Kd.R_alloc | apply Kd.R_drewN | apply Kd.R_drew)); exact Kd.R_mono HO_5.out (fun _ hk => trivial)⟩, ⟨tK BK101⟩, ⟨tB⟩⟩
    ·rw [if_neg c5] at H
     exact absurd H (by simp)
   ·rw [if_neg c4] at H
    have c4b0 : decide (x6_1 < (l0_1.length : Int)) = false := decide_eq_false c4
    clear c4
    obtain rfl := Option.some.inj H
    have hcz54_0 : wr.cell? ⟨gb101, 0, none⟩ = some (.slice A0_0 l0_0.length c0_0) := (blk_cell BK101.out 0).trans rfl
    have hcz54_1 : wr.cell? ⟨gb101, 1, none⟩ = some (.slice A0_1 l0_1.length c0_1) := (blk_cell BK101.out 1).trans rfl
    have hcz54_2 : wr.cell? ⟨gb101, 2, none⟩ = some (.bool a0_2) := (blk_cell BK101.out 2).trans rfl
    have hfz54_0 := blk_frozen BK101.out 0
    have hfz54_1 := blk_frozen BK101.out 1
    have hfz54_2 := blk_frozen BK101.out 2
    go_wp2
    repeat (go_quiet (fail); try go_wp2)
    go_ret
    exact ⟨_, tE, by (with_reducible repeat (first | apply Kd.R_alloc | apply Kd.R_drewN | apply Kd.R_drew)); exact HO_5.out, tB⟩
end Go.Proofs.Ytfnjbgggmddgpaa.Q
end
section
namespace Go.Proofs.Ytfnjbgggmddgpaa.Q
open Go.RowKit Go.Proofs.Fn Go.Proofs.YtfnjbgggmddgpaaW.PrintWords Go.Proofs.YtfnjbgggmddgpaaW.PrintLast Go.Proofs.YtfnjbgggmddgpaaW.PrintMore
attribute [local go_sem] max2_int min2_int max_two min_two max_three min_three max_four min_four
set_option linter.unusedVariables false
set_option linter.unusedSimpArgs false
def petrinetref16_Table.l0 : Nat → List (List (S80)) → Int → List (List Int) → List (S80) → Bool → Option ((List (List (S80))))
 | 0, _, _, _, _, _ => none
 | k + 1, x3, x4, x102000, x102001, x102002 => if x4 < (x102000.length : Int) then ((petrinetref16_Moves.f k x102000 x102001 x102002 x4).bind fun t102 => (if x3.length < 5864062014805 then (petrinetref16_Table.l0 k (x3 ++ [t102]) (wrap64 (x4 + 1)) x102000 x102001 x102002) else (none))) else (some x3)
def petrinetref16_Table.f (k : Nat) (l0_0 : List (List Int)) (l0_1 : List (S80)) (a0_2 : Bool) : Option ((List (List (S80)))) := petrinetref16_Table.l0 k ([] : List (List (S80))) 0 l0_0 l0_1 a0_2
set_option maxHeartbeats 8000000 in
set_option maxRecDepth 100000 in
theorem petrinetref16_Table.calls (k : Nat) (A0_0 : Option Addr) (c0_0 : Nat) (l0_0 : List (List Int)) (A0_1 : Option Addr) (c0_1 : Nat) (l0_1 : List (S80)) (a0_2 : Bool) (r : List (List (S80))) (w : World) (hr0_0 : Kd.C (Kd.slice 3 (Kd.int .i64)) w A0_0 l0_0.length l0_0) (hc0_0 : l0_0.length ≤ c0_0) (hr0_1 : Kd.C k80 w A0_1 l0_1.length l0_1) (hc0_1 : l0_1.length ≤ c0_1) (h : petrinetref16_Table.f k l0_0 l0_1 a0_2 = some r) :
  Calls Try.prog 37 #[.agg #[.slice A0_0 l0_0.length c0_0, .slice A0_1 l0_1.length c0_1, .bool a0_2]] w fun e w' => ∃ v0_ : Value, e = .returned (v0_) ∧ Kd.S (Kd.slice 80 k80) 23 w' w.heap.size (fun _ => True) v0_ r ∧ Below w.heap.size w w' := by
 have hu25 := Try.underlying25
 have HR0_0 := Aside0.mk hr0_0
 have HC0_0 := Aside0.mk hc0_0
 clear hr0_0 hc0_0
 have HR0_1 := Aside0.mk hr0_1
 have HC0_1 := Aside0.mk hc0_1
 clear hr0_1 hc0_1
 have HB := Aside0.mk (Below.refl w.heap.size w)
 have H : (petrinetref16_Table.l0 k ([] : List (List (S80))) 0 l0_0 l0_1 a0_2) = some r := h
 clear h
 have H' := Aside0.mk H
 clear H
 go_enter Try.func37, Try.ntmps37
 go_wp2_with (first | ((with_reducible refine gate_dst (N := 1) rfl ?_); refine box_event ?hg (N := 1) ?hd (cs := #[.slice A0_0 l0_0.length c0_0, .slice A0_1 l0_1.length c0_1, .bool a0_2]) (t := 25) ?hr ?_; (case hd => rfl); (case hg => rfl); (case hr => first | (go_simp; done) | (go_simp; rfl)); intro gb101 hg w2 hbox hb; have n0_ := Aside0.mk (below_step (tB) hb); have n1_ := Aside0.mk (hbox); have n2_ := Aside0.mk ((by rw [hg]; exact (below_size (tB)) : w.heap.size ≤ gb101)); have n3_ := Aside0.mk ((by rw [hg]; exact (below_size (tB)) : w.heap.size ≤ gb101)); clear HB; have HB := n0_; have BK101 := n1_; have GW101 := n2_; have GE101 := n3_; clear n0_ n1_ n2_ n3_; clear hb hbox hg))
 go_loopg [3, 4] k (fun kq v3 v4 w' => ∃ (x3_1 : List (List (S80))) (x4_1 : Int), v4 = .int .i64 x4_1 ∧ Aside0 (petrinetref16_Table.l0 kq x3_1 x4_1 l0_0 l0_1 a0_2 = some r) ∧ Aside0 (kq ≤ k) ∧ Aside0 (Kd.S (Kd.slice 80 k80) 23 w' w.heap.size (fun _ => True) v3 x3_1) ∧ Aside0 (w'.heap[gb101]? = some (.cells #[(.slice A0_0 l0_0.length c0_0), (.slice A0_1 l0_1.length c0_1), .bool a0_2] 25 (0, 0))) ∧ Aside0 (Below w.heap.size w w'))
 case atStart => exact ⟨(([] : List (List (S80)))), (0), (by first | rfl | (simp; done) | (simp [*]; done)), H', ⟨Nat.le_refl _⟩, ⟨by first | exact Kd.S_nil _ _ _ _ _ | exact Kd.N_nil _ _ _ _ _ | exact Kd.V_nil _ _ _ _ _ | exact Kd.Q_nil _ _ _ _ _ | exact Kd.R_nil _ _ _ _ _⟩, ⟨tK BK101⟩, ⟨tB⟩⟩
 case round =>
  clear H'
  try clear p2
  obtain ⟨x3_1, x4_1, rfl, HA, HK1, HO_3, BK101, HB⟩ := hrel
  cases gk with
  | zero => exact absurd HA.out (by simp [petrinetref16_Table.l0])
  | succ k1 =>
   have H := HA.out
   clear HA
   simp only [petrinetref16_Table.l0] at H
   by_cases c3 : x4_1 < (l0_0.length : Int)
   ·rw [if_pos c3] at H
    have c3b0 : decide (x4_1 < (l0_0.length : Int)) = true := decide_eq_true c3
    clear c3
    replace H := Option.bind_eq_some_iff.mp H
    obtain ⟨t102, A40, H⟩ := H
    replace H : (if x3_1.length < 5864062014805 then (petrinetref16_Table.l0 k1 (x3_1 ++ [t102]) (wrap64 (x4_1 + 1)) l0_0 l0_1 a0_2) else (none)) = some r := H
    have A4 := Aside0.mk A40
    clear A40
    by_cases c5 : x3_1.length < 5864062014805
    ·rw [if_pos c5] at H
     have LMc5 := Aside0.mk c5
     clear c5
     obtain ⟨y105, hy105⟩ : ∃ y_ : List (List (S80)), y_ = (x3_1 ++ [t102]) := ⟨_, rfl⟩
     replace H : (petrinetref16_Table.l0 k1 y105 (wrap64 (x4_1 + 1)) l0_0 l0_1 a0_2) = some r := by first | (rw [hy105]; with_reducible exact H) | (have H2_ := (Option.bind_some _ _).symm.trans H; rw [hy105]; with_reducible exact H2_) | (have H2_ := (Option.bind_some _ _).symm.trans H; with_reducible exact H2_) | with_reducible exact H | (rw [hy105]; exact H) | exact H
     have Ny105 := Aside0.mk hy105
     clear hy105
     have H' := Aside0.mk H
     clear H
     have hcz6_0 : wr.cell? ⟨gb101, 0, none⟩ = some (.slice A0_0 l0_0.length c0_0) := (blk_cell BK101.out 0).trans rfl
     have hcz6_1 : wr.cell? ⟨gb101, 1, none⟩ = some (.slice A0_1 l0_1.length c0_1) := (blk_cell BK101.out 1).trans rfl
     have hcz6_2 : wr.cell? ⟨gb101, 2, none⟩ = some (.bool a0_2) := (blk_cell BK101.out 2).trans rfl
     have hfz6_0 := blk_frozen BK101.out 0
     have hfz6_1 := blk_frozen BK101.out 1
     have hfz6_2 := blk_frozen BK101.out 2
     go_wp2_with (first | ((with_reducible refine gate_callee (f := 58) rfl ?_); refine goesL_ (some 15) rfl rfl Try.func58 (by kernel_rfl) rfl #[.agg #[.slice A0_0 l0_0.length c0_0, .slice A0_1 l0_1.length c0_1, .bool a0_2], .int .i64 x4_1] rfl (by (try simp only [List.map_toArray, List.map_cons, List.map_nil]); first | done | rfl | (simp only [List.length_drop, List.length_take]; rfl)) ?_; (with_reducible refine (petrinetref16_Moves.calls k1 _ _ l0_0 _ _ l0_1 a0_2 x4_1 t102 _ ?side1 ?side2 ?side3 ?side4 A4.out).mono ?_); (case side1 => exact tC (Kd.C_below HR0_0.out HB.out)); (case side2 => exact HC0_0.out); (case side3 => exact tC (Kd.C_below HR0_1.out HB.out)); (case side4 => exact HC0_1.out); rintro e w7 ⟨v103, rfl, ho0, hb⟩; refine ⟨_, rfl, ?_⟩; have n0_ := Aside0.mk (Kd.S_elder' (tR HO_3) (Kd.R_base ho0) hb); have n1_ := Aside0.mk (Kd.R_lower ho0 (below_size (tB))); have n2_ := Aside0.mk (blk_below (g := gb101) (o := .cells #[.slice A0_0 l0_0.length c0_0, .slice A0_1 l0_1.length c0_1, .bool a0_2] 25 (0, 0)) (tK BK101) hb); have n3_ := Aside0.mk (below_step (tB) hb); clear HO_3; clear BK101; clear HB; have HO_3 := n0_; have HO104 := n1_; have BK101 := n2_; have HB := n3_; clear n0_ n1_ n2_ n3_; (try clear hb); (try clear hb2); (try clear hk); (try clear hi); (try clear ho0); obtain ⟨Ao9, co9, eo9⟩ := Kd.R_slice HO104.out; subst eo9) | ((with_reducible refine gate_builtin (b := .append) (xs := #[.tmp 12, .tmp 16]) rfl ?_); at_builtin; refine Kd.S_append (Kd.slice 80 k80) (w0 := w) w.heap.size rfl (.tmp 12) (.tmp 16) 61 23 (.slice none 0 0) 24 rfl Try.underlying61 info23 rfl (by decide) (by omega) u3 x3_1 t102 [.slice Ao9 t102.length co9] (fun _ => True) (fun k_ => some k_ = (.slice Ao9 t102.length co9 : Value).ownBlock) rfl rfl ?aP (fun k_ hk_ => ((Kd.R_mono (ok' := fun k_ => ((fun _ => True)) k_ ∧ some k_ ≠ (u3 : Value).ownBlock) (Kd.R_apart' (HO104.out) (Kd.S_typed HO_3.out) (by decide)) (fun k_ hk => ⟨trivial, hk.2⟩))).1 k_ hk_.symm) ?aF ?aO ?aB ?aS ?aL ?_; (case aP => exact Kd.M_row (Kd.R_mono (Kd.R_tight rfl (Kd.R_mono (ok' := fun k_ => ((fun _ => True)) k_ ∧ some k_ ≠ (u3 : Value).ownBlock) (Kd.R_apart' (HO104.out) (Kd.S_typed HO_3.out) (by decide)) (fun k_ hk => ⟨trivial, hk.2⟩))) (fun _ h_ => h_))); (case aB => exact (tB)); (case aF => exact (fun _ _ => trivial)); (case aO => exact (by (with_reducible repeat (first | apply Kd.S_alloc | apply Kd.S_drewN | apply Kd.S_drew)); exact Kd.S_mono HO_3.out (fun k_ hk => ⟨trivial, fun e_ => hk.2 e_⟩))); (case aS => exact (below_size (tB))); (case aL => have := LMc5.out; omega); intro v106 w8 ho hb hg hat; rw [← Ny105.out] at ho; have n0_ := Aside0.mk (blk_grown (g := gb101) (o := .cells #[.slice A0_0 l0_0.length c0_0, .slice A0_1 l0_1.length c0_1, .bool a0_2] 25 (0, 0)) (tK BK101) hg (Kd.S_ne HO_3.out BK101.out (by decide))); have n1_ := Aside0.mk (hb); have n2_ := Aside0.mk (ho); clear BK101; clear HB; clear HO_3; clear HO104; have BK101 := n0_; have HB := n1_; have HO107 := n2_; clear n0_ n1_ n2_; clear ho hb hg hat))
     go_roundg k1
     case measure => have := HK1.out; omega
     case rel => exact ⟨(y105), (wrap64 (x4_1 + 1)), (by first | rfl | (simp; done) | (simp [*]; done)), H', ⟨by have := HK1.out; omega⟩, ⟨tR HO107⟩, ⟨tK BK101⟩, ⟨tB⟩⟩
    ·rw [if_neg c5] at H
     exact absurd H (by simp)
   ·rw [if_neg c3] at H
    have c3b0 : decide (x4_1 < (l0_0.length : Int)) = false := decide_eq_false c3
    clear c3
    obtain rfl := Option.some.inj H
    have hcz10_0 : wr.cell? ⟨gb101, 0, none⟩ = some (.slice A0_0 l0_0.length c0_0) := (blk_cell BK101.out 0).trans rfl
    have hcz10_1 : wr.cell? ⟨gb101, 1, none⟩ = some (.slice A0_1 l0_1.length c0_1) := (blk_cell BK101.out 1).trans rfl
    have hcz10_2 : wr.cell? ⟨gb101, 2, none⟩ = some (.bool a0_2) := (blk_cell BK101.out 2).trans rfl
    have hfz10_0 := blk_frozen BK101.out 0
    have hfz10_1 := blk_frozen BK101.out 1
    have hfz10_2 := blk_frozen BK101.out 2
    go_wp2
    go_ret
    exact ⟨_, tE, by (with_reducible repeat (first | apply Kd.S_alloc | apply Kd.S_drewN | apply Kd.S_drew)); exact HO_3.out, tB⟩
end Go.Proofs.Ytfnjbgggmddgpaa.Q
end
section
set_option linter.unusedVariables false
set_option linter.unusedSimpArgs false
namespace Go.Proofs.Ytfnjbgggmddgpaa.Q
open Go.RowKit Go.Proofs.Fn Go.Proofs.YtfnjbgggmddgpaaW.PrintWords Go.Proofs.Gr
def cnt (n : Nat) (s : Int) (e : S80) : Bool := decide (0 ≤ e.f0 ∧ e.f0 < (n : Int) ∧ 0 ≤ e.f2 ∧ e.f2 < (n : Int)) && decide (e.f0 = s)
def insE (e : S80) : List S80 → List S80
  | [] => [e]
  | p :: l => if p.f1 < e.f1 then p :: insE e l else if p.f1 = e.f1 then p :: l else e :: p :: l
def row (n : Nat) (es : List S80) (s : Int) : List S80 := (es.filter (cnt n s)).foldl (fun l e => insE e l) []
def tab (n : Nat) (es : List S80) : List (List S80) := (List.range n).map (fun (s : Nat) => row n es (s : Int))
def pr (e : S80) : S66 := ⟨e.f1, e.f2⟩
theorem rd80 {es : List S80} {j : Nat} (h : j < es.length) : rd_T80 es (j : Int) = es[j] := by simp [rd_T80, h]
theorem drop80 {es : List S80} {j : Nat} (h : j < es.length) : es.drop j = rd_T80 es (j : Int) :: es.drop (j + 1) := by
  rw [rd80 h]; exact List.drop_eq_getElem_cons h
theorem exists_eq (st : List (List Int)) (es : List S80) (b : Bool) (a c d : Int) : explore_exists.f st es b a c d = some (decide (0 ≤ a ∧ a < (st.length : Int) ∧ 0 ≤ d ∧ d < (st.length : Int))) := by
  unfold explore_exists.f
  have key : ∀ x y : Bool, (x = true ↔ y = true) → some x = some y := fun x y h => congrArg some (Bool.eq_iff_iff.2 h)
  split
  · split
    · split
      · refine key _ _ ?_; simp only [decide_eq_true_eq]; omega
      · refine key _ _ ?_; simp only [decide_eq_true_eq, Bool.false_eq_true, false_iff]; omega
    · refine key _ _ ?_; simp only [decide_eq_true_eq, Bool.false_eq_true, false_iff]; omega
  · refine key _ _ ?_; simp only [decide_eq_true_eq, Bool.false_eq_true, false_iff]; omega
theorem sound_eq (st : List (List Int)) (es : List S80) (b : Bool) (a c d : Int) : petrinetref14_Sound.f st es b a c d = some (decide (0 ≤ a ∧ a < (st.length : Int) ∧ 0 ≤ d ∧ d < (st.length : Int))) := exists_eq st es b a c d
theorem next_l0 (st : List (List Int)) (es : List S80) (b : Bool) (a : Int) (hes : es.length ≤ 1000000) : ∀ (m j : Nat) (acc : List S80), j + m = es.length → acc.length ≤ j → Evn (fun k => explore_Next.l0 k a acc es (es.length : Int) (j : Int) st es b) (acc ++ (es.drop j).filter (cnt st.length a)) := by
  intro m
  induction m with
  | zero =>
    intro j acc hj ha
    refine Evn.succ ?_
    simp only [explore_Next.l0]
    (first | refine Evn.pos (by first | assumption | omega | (simp; done) | (simp; omega)) ?_ | refine Evn.neg (by first | assumption | omega | (simp; done) | (simp; omega)) ?_)
    rw [List.drop_of_length_le (by omega)]
    simpa using Evn.const _
  | succ m ih =>
    intro j acc hj ha
    refine Evn.succ ?_
    simp only [explore_Next.l0, exists_eq, Option.bind_some, wrap_succ (show j < 9223372036854775807 by omega)]
    (first | refine Evn.pos (by first | assumption | omega | (simp; done) | (simp; omega)) ?_ | refine Evn.neg (by first | assumption | omega | (simp; done) | (simp; omega)) ?_); (first | refine Evn.pos (by first | assumption | omega | (simp; done) | (simp; omega)) ?_ | refine Evn.neg (by first | assumption | omega | (simp; done) | (simp; omega)) ?_); (first | refine Evn.pos (by first | assumption | omega | (simp; done) | (simp; omega)) ?_ | refine Evn.neg (by first | assumption | omega | (simp; done) | (simp; omega)) ?_)
    rw [drop80 (show j < es.length by omega)]
    generalize rd_T80 es (j : Int) = e
    by_cases c : e.f0 = a
    · refine Evn.pos c ?_
      by_cases c2 : 0 ≤ e.f0 ∧ e.f0 < (st.length : Int) ∧ 0 ≤ e.f2 ∧ e.f2 < (st.length : Int)
      · refine Evn.pos (by simpa using c2) ?_
        (first | refine Evn.pos (by first | assumption | omega | (simp; done) | (simp; omega)) ?_ | refine Evn.neg (by first | assumption | omega | (simp; done) | (simp; omega)) ?_)
        have := ih (j + 1) (acc ++ [e]) (by omega) (by simp; omega)
        have e1 : cnt st.length a e = true := by simp [cnt, c]; simp [c] at c2; omega
        rw [List.filter_cons_of_pos e1]
        simpa using this
      · refine Evn.neg (by simpa using c2) ?_
        have := ih (j + 1) acc (by omega) (by omega)
        rw [List.filter_cons_of_neg (by simp [cnt]; intro h1 h2 h3 h4; exact absurd ⟨h1, h2, h3, h4⟩ c2)]
        exact this
    · refine Evn.neg c ?_
      have := ih (j + 1) acc (by omega) (by omega)
      rw [List.filter_cons_of_neg (by simp [cnt, c])]
      exact this
theorem next_ev (st : List (List Int)) (es : List S80) (b : Bool) (a : Int) (hes : es.length ≤ 1000000) : Evn (fun k => explore_Next.f k st es b a) (es.filter (cnt st.length a)) := by
  have := next_l0 st es b a hes es.length 0 [] (by omega) (by simp)
  simpa [explore_Next.f] using this
def insS (e : S66) : List S66 → List S66
  | [] => [e]
  | p :: l => if p.f0 < e.f0 then p :: insS e l else if p.f0 = e.f0 then p :: l else e :: p :: l
theorem insS_pr (e : S80) (l : List S80) : (insE e l).map pr = insS (pr e) (l.map pr) := by
  induction l with
  | nil => rfl
  | cons p l ih =>
    simp only [insE, List.map_cons, insS]
    show _ = if p.f1 < e.f1 then _ else if p.f1 = e.f1 then _ else _
    split
    · rw [List.map_cons, ih]
    · split <;> simp
theorem insS_len (e : S66) (l : List S66) : (insS e l).length ≤ l.length + 1 := by
  induction l with
  | nil => simp [insS]
  | cons p l ih => simp only [insS]; repeat' split
                   all_goals simp <;> omega
theorem shift_set {α : Type} (l : List α) (i : Nat) (z x : α) (h : i ≤ l.length) : (shiftUp (l ++ [z]) i).set i x = l.take i ++ x :: l.drop i := by
  unfold shiftUp
  apply List.ext_getElem?
  intro j
  rw [List.getElem?_set]
  simp only [List.getElem?_append, List.getElem?_take, List.getElem?_drop, List.length_append, List.length_take, List.length_singleton, List.length_cons, List.length_nil, List.getElem?_cons]
  grind
theorem rd66 {l : List S66} {j : Nat} (h : j < l.length) : rd_T66 l (j : Int) = l[j] := by simp [rd_T66, h]
theorem rdL66 {x : List (List S66)} {s : Nat} : rd_L66 x (s : Int) = x.getD s [] := by simp [rd_L66]
theorem steps_l2 (st : List (List Int)) (es : List S80) (b : Bool) (lst : List S80) (r : List (List S66)) (n s : Nat) (q : Int) (e : S80) (hs : s < n) :
    ∀ (suf pre : List S66) (x : List (List S66)), x.length = n → x.getD s [] = pre ++ suf → (∀ p ∈ pre, p.f0 < e.f1) → (pre ++ suf).length ≤ 1000000 →
    Evn (fun k => witness_steps.l1 k (x.set s (pre ++ insS (pr e) suf)) s n s lst (lst.length : Int) (wrap64 (q + 1)) st es b) r →
    Evn (fun k => witness_steps.l2 k x s (pre.length : Int) n s lst (lst.length : Int) q st es b e.f0 e.f1 e.f2) r := by
  intro suf
  induction suf with
  | nil =>
    intro pre x hx hg hp hl hr
    rw [List.append_nil] at hg hl
    have e0 : ∀ (l : List S66), (x.set s l).getD s [] = l := fun z => by simp [hx, hs]
    have e1 : ∀ (z : S66), (shiftUp (pre ++ [z]) pre.length).length = pre.length + 1 := fun z => by simp [shiftUp]
    refine Evn.succ ?_
    simp only [witness_steps.l2, rdL66, hg, Option.bind_some, Int.toNat_natCast, shiftAt_, e0, List.length_set, List.set_set, hx, e1, shift_set _ _ _ _ (Nat.le_refl _), List.take_length, List.drop_length, List.length_append, List.length_singleton]
    iterate 7 (first | refine Evn.pos (by first | assumption | omega | (simp; done) | (simp; omega)) ?_ | refine Evn.neg (by first | assumption | omega | (simp; done) | (simp; omega)) ?_)
    exact hr
  | cons p suf ih =>
    intro pre x hx hg hp hl hr
    have e0 : ∀ (l : List S66), (x.set s l).getD s [] = l := fun z => by simp [hx, hs]
    have e1 : ∀ (z : S66), (shiftUp (pre ++ p :: suf ++ [z]) pre.length).length = (pre ++ p :: suf).length + 1 := fun z => by simp [shiftUp]; omega
    have ep : rd_T66 (pre ++ p :: suf) (pre.length : Int) = p := by rw [rd66 (by simp)]; simp
    have hl2 : (pre ++ p :: suf).length = pre.length + (suf.length + 1) := by simp
    have et : (pre ++ p :: suf).take pre.length = pre := by simp
    have ed : (pre ++ p :: suf).drop pre.length = p :: suf := by simp
    refine Evn.succ ?_
    simp only [witness_steps.l2, rdL66, hg, ep, Option.bind_some, Int.toNat_natCast, shiftAt_, e0, List.length_set, List.set_set, hx, e1, shift_set (pre ++ p :: suf) pre.length _ _ (by simp), et, ed, wrap_succ (show pre.length < 9223372036854775807 by omega)]
    rw [hl2] at hl
    iterate 4 (first | refine Evn.pos (by first | assumption | omega | (simp; done) | (simp; omega)) ?_ | refine Evn.neg (by first | assumption | omega | (simp; done) | (simp; omega)) ?_)
    by_cases c : p.f0 < e.f1
    · refine Evn.pos c ?_
      have := ih (pre ++ [p]) x hx (by rw [List.append_assoc]; exact hg) (by intro q hq; rcases List.mem_append.1 hq with hq | hq; exact hp q hq; rw [List.mem_singleton.1 hq]; exact c) (by simp; omega) (by
        rw [List.append_assoc]
        have e2 : insS (pr e) (p :: suf) = p :: insS (pr e) suf := by simp only [insS]; rw [if_pos (show p.f0 < (pr e).f0 from c)]
        rw [e2] at hr
        exact hr)
      simpa using this
    · refine Evn.neg c ?_
      by_cases c2 : p.f0 = e.f1
      · refine Evn.pos c2 ?_
        have e2 : insS (pr e) (p :: suf) = p :: suf := by simp only [insS]; rw [if_neg (show ¬ p.f0 < (pr e).f0 from c), if_pos (show p.f0 = (pr e).f0 from c2)]
        have e3 : x.set s (pre ++ p :: suf) = x := by
          apply List.ext_getElem?
          intro i
          rw [List.getElem?_set]
          have : s < x.length := by omega
          rw [List.getD_eq_getElem?_getD] at hg
          grind
        rw [e2, e3] at hr
        exact hr
      · refine Evn.neg c2 ?_
        have e2 : insS (pr e) (p :: suf) = pr e :: p :: suf := by simp only [insS]; rw [if_neg (show ¬ p.f0 < (pr e).f0 from c), if_neg (show ¬ p.f0 = (pr e).f0 from c2)]
        rw [e2] at hr
        iterate 3 (first | refine Evn.pos (by first | assumption | omega | (simp; done) | (simp; omega)) ?_ | refine Evn.neg (by first | assumption | omega | (simp; done) | (simp; omega)) ?_)
        exact hr
theorem steps_l1 (st : List (List Int)) (es : List S80) (b : Bool) (lst : List S80) (r : List (List S66)) (n s : Nat) (hs : s < n) (hl : lst.length ≤ 1000000) :
    ∀ (m q : Nat) (x : List (List S66)), q + m = lst.length → x.length = n → (x.getD s []).length ≤ q →
    Evn (fun k => witness_steps.l0 k (x.set s ((lst.drop q).foldl (fun l e => insS (pr e) l) (x.getD s []))) n (wrap64 ((s : Int) + 1)) st es b) r →
    Evn (fun k => witness_steps.l1 k x s n s lst (lst.length : Int) (q : Int) st es b) r := by
  intro m
  induction m with
  | zero =>
    intro q x hq hx hg hr
    refine Evn.succ ?_
    simp only [witness_steps.l1]
    (first | refine Evn.pos (by first | assumption | omega | (simp; done) | (simp; omega)) ?_ | refine Evn.neg (by first | assumption | omega | (simp; done) | (simp; omega)) ?_)
    rw [List.drop_of_length_le (by omega)] at hr
    have e3 : x.set s (x.getD s []) = x := by
      apply List.ext_getElem?
      intro i
      rw [List.getElem?_set]
      grind
    simpa only [List.foldl_nil, e3] using hr
  | succ m ih =>
    intro q x hq hx hg hr
    refine Evn.succ ?_
    simp only [witness_steps.l1]
    iterate 3 (first | refine Evn.pos (by first | assumption | omega | (simp; done) | (simp; omega)) ?_ | refine Evn.neg (by first | assumption | omega | (simp; done) | (simp; omega)) ?_)
    rw [drop80 (show q < lst.length by omega)] at hr
    revert hr
    generalize rd_T80 lst (q : Int) = e
    intro hr
    have := steps_l2 st es b lst r n s (q : Int) e hs (x.getD s []) [] x hx rfl (by simp) (by simp only [List.nil_append]; omega)
    refine this ?_
    rw [wrap_succ (by omega), List.nil_append]
    have e0 : (x.set s (insS (pr e) (x.getD s []))).getD s [] = insS (pr e) (x.getD s []) := by simp [hx, hs]
    refine ih (q + 1) _ (by omega) (by simpa using hx) (by rw [e0]; have := insS_len (pr e) (x.getD s []); omega) ?_
    rw [e0, List.set_set]
    exact hr
theorem fold_pr (l : List S80) : ∀ a : List S80, (l.foldl (fun l e => insE e l) a).map pr = l.foldl (fun l e => insS (pr e) l) (a.map pr) := by
  induction l with
  | nil => intro a; rfl
  | cons e l ih => intro a; simp only [List.foldl_cons]; rw [ih, insS_pr]
theorem steps_l0 (st : List (List Int)) (es : List S80) (b : Bool) (hn : st.length ≤ 1000000) (he : es.length ≤ 1000000) :
    ∀ (m s : Nat), s + m = st.length → Evn (fun k => witness_steps.l0 k ((List.range s).map (fun (i : Nat) => (row st.length es (i : Int)).map pr) ++ List.replicate m []) (st.length : Int) (s : Int) st es b) ((tab st.length es).map (List.map pr)) := by
  intro m
  induction m with
  | zero =>
    intro s hs
    refine Evn.succ ?_
    simp only [witness_steps.l0]
    (first | refine Evn.pos (by first | assumption | omega | (simp; done) | (simp; omega)) ?_ | refine Evn.neg (by first | assumption | omega | (simp; done) | (simp; omega)) ?_)
    obtain rfl : s = st.length := by omega
    simpa [tab, Function.comp_def] using Evn.const _
  | succ m ih =>
    intro s hs
    refine Evn.succ ?_
    simp only [witness_steps.l0]
    (first | refine Evn.pos (by first | assumption | omega | (simp; done) | (simp; omega)) ?_ | refine Evn.neg (by first | assumption | omega | (simp; done) | (simp; omega)) ?_)
    refine Evn.bind (next_ev st es b (s : Int) he) ?_
    have hg : ((List.range s).map (fun (i : Nat) => (row st.length es (i : Int)).map pr) ++ List.replicate (m + 1) []).getD s [] = ([] : List S66) := by simp [List.getElem?_append_right]
    have hlen : (es.filter (cnt st.length (s : Int))).length ≤ 1000000 := Nat.le_trans (List.length_filter_le _ _) he
    refine steps_l1 st es b _ _ st.length s (by omega) hlen _ 0 _ (by rw [Nat.zero_add]) (by simp; omega) (by rw [hg]; simp) ?_
    rw [wrap_succ (by omega), hg, List.drop_zero]
    have e1 : (es.filter (cnt st.length (s : Int))).foldl (fun l e => insS (pr e) l) [] = (row st.length es (s : Int)).map pr := by
      unfold row; rw [fold_pr]; rfl
    rw [e1]
    have e2 : ((List.range s).map (fun (i : Nat) => (row st.length es (i : Int)).map pr) ++ List.replicate (m + 1) []).set s ((row st.length es (s : Int)).map pr) = (List.range (s + 1)).map (fun (i : Nat) => (row st.length es (i : Int)).map pr) ++ List.replicate m [] := by
      rw [List.set_append_right _ _ (by simp)]
      simp [List.replicate_succ, List.range_succ]
    rw [e2]
    exact ih (s + 1) (by omega)
theorem steps_ev (st : List (List Int)) (es : List S80) (b : Bool) (hn : st.length ≤ 1000000) (he : es.length ≤ 1000000) : Evn (fun k => witness_steps.f k st es b) ((tab st.length es).map (List.map pr)) := by
  unfold witness_steps.f
  (first | refine Evn.pos (by first | assumption | omega | (simp; done) | (simp; omega)) ?_ | refine Evn.neg (by first | assumption | omega | (simp; done) | (simp; omega)) ?_); (first | refine Evn.pos (by first | assumption | omega | (simp; done) | (simp; omega)) ?_ | refine Evn.neg (by first | assumption | omega | (simp; done) | (simp; omega)) ?_)
  have := steps_l0 st es b hn he st.length 0 (by omega)
  simpa using this
theorem insE_len (e : S80) (l : List S80) : (insE e l).length ≤ l.length + 1 := by
  induction l with
  | nil => simp [insE]
  | cons p l ih => simp only [insE]; repeat' split
                   all_goals simp <;> omega
theorem mem_insE {e q : S80} {l : List S80} (h : q ∈ insE e l) : q = e ∨ q ∈ l := by
  induction l with
  | nil => simp only [insE, List.mem_singleton] at h; exact .inl h
  | cons p l ih =>
    simp only [insE] at h
    split at h
    · rcases List.mem_cons.1 h with h | h
      · exact .inr (by simp [h])
      · rcases ih h with h | h
        · exact .inl h
        · exact .inr (List.mem_cons_of_mem _ h)
    · split at h
      · exact .inr h
      · rcases List.mem_cons.1 h with h | h
        · exact .inl h
        · exact .inr h
theorem insE_sorted {e : S80} {l : List S80} (h : l.Pairwise (fun a b => a.f1 < b.f1)) : (insE e l).Pairwise (fun a b => a.f1 < b.f1) := by
  induction l with
  | nil => simp [insE]
  | cons p l ih =>
    rw [List.pairwise_cons] at h
    simp only [insE]
    split
    · rename_i c
      rw [List.pairwise_cons]
      refine ⟨fun q hq => ?_, ih h.2⟩
      rcases mem_insE hq with rfl | hq
      · exact c
      · exact h.1 q hq
    · split
      · rw [List.pairwise_cons]; exact h
      · rename_i c c2
        rw [List.pairwise_cons, List.pairwise_cons]
        refine ⟨fun q hq => ?_, h⟩
        rcases List.mem_cons.1 hq with rfl | hq
        · omega
        · have := h.1 q hq; omega
theorem insE_old {e : S80} {l : List S80} (h : l.Pairwise (fun a b => a.f1 < b.f1)) (hm : ∃ p ∈ l, p.f1 = e.f1) : insE e l = l := by
  induction l with
  | nil => obtain ⟨p, hp, _⟩ := hm; cases hp
  | cons p l ih =>
    rw [List.pairwise_cons] at h
    simp only [insE]
    split
    · rename_i c
      rw [ih h.2]
      obtain ⟨q, hq, e1⟩ := hm
      rcases List.mem_cons.1 hq with rfl | hq
      · omega
      · exact ⟨q, hq, e1⟩
    · rename_i c
      obtain ⟨q, hq, e1⟩ := hm
      rcases List.mem_cons.1 hq with rfl | hq
      · rw [if_pos e1]
      · have := h.1 q hq; omega
theorem moves_l1 (st : List (List Int)) (es : List S80) (b : Bool) (x1 x6 : Int) (x5 : List S80) (e : S80) (r : List S80) (h5 : x5.length ≤ 1000000) :
    ∀ (m j : Nat) (f : Bool), j + m = x5.length →
    ((f && (x5.drop j).all (fun p => p.f1 != e.f1)) = true → Evn (fun k => petrinetref16_Moves.l2 k x1 x5 x6 [] false 0 st es b e.f0 e.f1 e.f2) r) →
    ((f && (x5.drop j).all (fun p => p.f1 != e.f1)) = false → Evn (fun k => petrinetref16_Moves.l0 k x1 x5 (wrap64 (x6 + 1)) st es b) r) →
    Evn (fun k => petrinetref16_Moves.l1 k x1 x5 x6 f (j : Int) st es b e.f0 e.f1 e.f2) r := by
  intro m
  induction m with
  | zero =>
    intro j f hj h1 h2
    rw [List.drop_of_length_le (by omega)] at h1 h2
    refine Evn.succ ?_
    simp only [petrinetref16_Moves.l1]
    (first | refine Evn.pos (by first | assumption | omega | (simp; done) | (simp; omega)) ?_ | refine Evn.neg (by first | assumption | omega | (simp; done) | (simp; omega)) ?_)
    cases f with
    | true => refine Evn.pos rfl ?_; exact h1 (by simp)
    | false => refine Evn.neg (by simp) ?_; exact h2 (by simp)
  | succ m ih =>
    intro j f hj h1 h2
    rw [drop80 (show j < x5.length by omega)] at h1 h2
    refine Evn.succ ?_
    simp only [petrinetref16_Moves.l1, wrap_succ (show j < 9223372036854775807 by omega)]
    (first | refine Evn.pos (by first | assumption | omega | (simp; done) | (simp; omega)) ?_ | refine Evn.neg (by first | assumption | omega | (simp; done) | (simp; omega)) ?_)
    cases f with
    | true =>
      refine Evn.pos rfl ?_
      (first | refine Evn.pos (by first | assumption | omega | (simp; done) | (simp; omega)) ?_ | refine Evn.neg (by first | assumption | omega | (simp; done) | (simp; omega)) ?_)
      exact ih (j + 1) _ (by omega) (by simpa using h1) (by simpa using h2)
    | false =>
      refine Evn.neg (by simp) ?_
      exact ih (j + 1) _ (by omega) (by simp) (by simpa using h2)
theorem moves_l2t (st : List (List Int)) (es : List S80) (b : Bool) (x1 x6 : Int) (x5 : List S80) (e : S80) (r : List S80) (h5 : x5.length ≤ 1000000) :
    ∀ (m j : Nat) (x10 : List S80), j + m = x5.length → x10.length ≤ j + 1 →
    Evn (fun k => petrinetref16_Moves.l0 k x1 (x10 ++ x5.drop j) (wrap64 (x6 + 1)) st es b) r →
    Evn (fun k => petrinetref16_Moves.l2 k x1 x5 x6 x10 true (j : Int) st es b e.f0 e.f1 e.f2) r := by
  intro m
  induction m with
  | zero =>
    intro j x10 hj hl hr
    rw [List.drop_of_length_le (by omega), List.append_nil] at hr
    refine Evn.succ ?_
    simp only [petrinetref16_Moves.l2]
    (first | refine Evn.pos (by first | assumption | omega | (simp; done) | (simp; omega)) ?_ | refine Evn.neg (by first | assumption | omega | (simp; done) | (simp; omega)) ?_)
    refine Evn.pos (by simp) hr
  | succ m ih =>
    intro j x10 hj hl hr
    rw [drop80 (show j < x5.length by omega)] at hr
    refine Evn.succ ?_
    simp only [petrinetref16_Moves.l2, wrap_succ (show j < 9223372036854775807 by omega)]
    (first | refine Evn.pos (by first | assumption | omega | (simp; done) | (simp; omega)) ?_ | refine Evn.neg (by first | assumption | omega | (simp; done) | (simp; omega)) ?_)
    refine Evn.pos (by simp) ?_
    iterate 2 (first | refine Evn.pos (by first | assumption | omega | (simp; done) | (simp; omega)) ?_ | refine Evn.neg (by first | assumption | omega | (simp; done) | (simp; omega)) ?_)
    refine ih (j + 1) _ (by omega) (by simp; omega) ?_
    rw [List.append_assoc]
    exact hr
theorem moves_l2f (st : List (List Int)) (es : List S80) (b : Bool) (x1 x6 : Int) (x5 : List S80) (e : S80) (r : List S80) (h5 : x5.length ≤ 1000000) :
    ∀ (m j : Nat) (x10 : List S80), j + m = x5.length → x10.length ≤ j → (∀ p ∈ x5.drop j, p.f1 ≠ e.f1) →
    Evn (fun k => petrinetref16_Moves.l0 k x1 (x10 ++ insE e (x5.drop j)) (wrap64 (x6 + 1)) st es b) r →
    Evn (fun k => petrinetref16_Moves.l2 k x1 x5 x6 x10 false (j : Int) st es b e.f0 e.f1 e.f2) r := by
  intro m
  induction m with
  | zero =>
    intro j x10 hj hl hp hr
    rw [List.drop_of_length_le (by omega)] at hr
    refine Evn.succ ?_
    simp only [petrinetref16_Moves.l2]
    (first | refine Evn.pos (by first | assumption | omega | (simp; done) | (simp; omega)) ?_ | refine Evn.neg (by first | assumption | omega | (simp; done) | (simp; omega)) ?_)
    refine Evn.neg (by simp) ?_
    (first | refine Evn.pos (by first | assumption | omega | (simp; done) | (simp; omega)) ?_ | refine Evn.neg (by first | assumption | omega | (simp; done) | (simp; omega)) ?_)
    exact hr
  | succ m ih =>
    intro j x10 hj hl hp hr
    rw [drop80 (show j < x5.length by omega)] at hr hp
    refine Evn.succ ?_
    simp only [petrinetref16_Moves.l2, Option.bind_some, wrap_succ (show j < 9223372036854775807 by omega)]
    (first | refine Evn.pos (by first | assumption | omega | (simp; done) | (simp; omega)) ?_ | refine Evn.neg (by first | assumption | omega | (simp; done) | (simp; omega)) ?_)
    refine Evn.neg (by simp) ?_
    (first | refine Evn.pos (by first | assumption | omega | (simp; done) | (simp; omega)) ?_ | refine Evn.neg (by first | assumption | omega | (simp; done) | (simp; omega)) ?_)
    have hp0 := hp _ List.mem_cons_self
    have hp1 := fun q hq => hp q (List.mem_cons_of_mem _ hq)
    revert hr hp0
    generalize hpp : rd_T80 x5 (j : Int) = p
    intro hr hp0
    simp only [insE] at hr
    by_cases c : p.f1 > e.f1
    · refine Evn.pos c ?_
      rw [if_neg (show ¬ p.f1 < e.f1 by omega), if_neg hp0] at hr
      (first | refine Evn.pos (by first | assumption | omega | (simp; done) | (simp; omega)) ?_ | refine Evn.neg (by first | assumption | omega | (simp; done) | (simp; omega)) ?_)
      refine Evn.pos (by simp; omega) ?_
      refine moves_l2t st es b x1 x6 x5 e r h5 m (j + 1) _ (by omega) (by simp; omega) ?_
      simp only [List.append_assoc, List.singleton_append, List.cons_append, List.nil_append]
      exact hr
    · refine Evn.neg c ?_
      rw [if_pos (show p.f1 < e.f1 by omega)] at hr
      (first | refine Evn.pos (by first | assumption | omega | (simp; done) | (simp; omega)) ?_ | refine Evn.neg (by first | assumption | omega | (simp; done) | (simp; omega)) ?_)
      refine ih (j + 1) _ (by omega) (by simp; omega) hp1 ?_
      rw [List.append_assoc]
      exact hr
theorem moves_l0 (st : List (List Int)) (es : List S80) (b : Bool) (s : Int) (he : es.length ≤ 1000000) :
    ∀ (m j : Nat) (x5 : List S80), j + m = es.length → x5.length ≤ j → x5.Pairwise (fun a b => a.f1 < b.f1) →
    Evn (fun k => petrinetref16_Moves.l0 k s x5 (j : Int) st es b) (((es.drop j).filter (cnt st.length s)).foldl (fun l e => insE e l) x5) := by
  intro m
  induction m with
  | zero =>
    intro j x5 hj hl hp
    rw [List.drop_of_length_le (by omega)]
    refine Evn.succ ?_
    simp only [petrinetref16_Moves.l0]
    (first | refine Evn.pos (by first | assumption | omega | (simp; done) | (simp; omega)) ?_ | refine Evn.neg (by first | assumption | omega | (simp; done) | (simp; omega)) ?_)
    exact Evn.const _
  | succ m ih =>
    intro j x5 hj hl hp
    rw [drop80 (show j < es.length by omega)]
    refine Evn.succ ?_
    simp only [petrinetref16_Moves.l0, sound_eq, Option.bind_some]
    iterate 2 (first | refine Evn.pos (by first | assumption | omega | (simp; done) | (simp; omega)) ?_ | refine Evn.neg (by first | assumption | omega | (simp; done) | (simp; omega)) ?_)
    generalize rd_T80 es (j : Int) = e
    have same : ∀ f : Bool, f = false → Evn (fun k => petrinetref16_Moves.j1 k s x5 (j : Int) f st es b e.f0 e.f1 e.f2) (((es.drop (j + 1)).filter (cnt st.length s)).foldl (fun l e => insE e l) x5) := by
      intro f hf
      refine Evn.succ ?_
      simp only [petrinetref16_Moves.j1]
      refine moves_l1 st es b s (j : Int) x5 e _ (by omega) x5.length 0 f (by omega) (by simp [hf]) (fun _ => ?_)
      rw [wrap_succ (by omega)]
      exact ih (j + 1) x5 (by omega) (by omega) hp
    by_cases c2 : 0 ≤ e.f0 ∧ e.f0 < (st.length : Int) ∧ 0 ≤ e.f2 ∧ e.f2 < (st.length : Int)
    · refine Evn.pos (by simpa using c2) ?_
      by_cases c : e.f0 = s
      · have e1 : cnt st.length s e = true := by simp [cnt, c]; simp [c] at c2; omega
        rw [List.filter_cons_of_pos e1, List.foldl_cons]
        refine Evn.succ ?_
        simp only [petrinetref16_Moves.j1]
        have hb : (e.f0 == s) = true := by simp [c]
        rw [hb]
        refine moves_l1 st es b s (j : Int) x5 e _ (by omega) x5.length 0 true (by omega) (fun h => ?_) (fun h => ?_)
        · refine moves_l2f st es b s (j : Int) x5 e _ (by omega) x5.length 0 [] (by omega) (by simp) (by simpa using h) ?_
          rw [wrap_succ (by omega), List.nil_append, List.drop_zero]
          exact ih (j + 1) _ (by omega) (by have := insE_len e x5; omega) (insE_sorted hp)
        · have : ∃ p ∈ x5, p.f1 = e.f1 := by simpa using h
          rw [insE_old hp this, wrap_succ (by omega)]
          exact ih (j + 1) x5 (by omega) (by omega) hp
      · rw [List.filter_cons_of_neg (by simp [cnt, c])]
        exact same _ (by simp [c])
    · refine Evn.neg (by simpa using c2) ?_
      rw [List.filter_cons_of_neg (by simp [cnt]; intro h1 h2 h3 h4; exact absurd ⟨h1, h2, h3, h4⟩ c2)]
      exact same _ rfl
theorem moves_ev (st : List (List Int)) (es : List S80) (b : Bool) (s : Int) (he : es.length ≤ 1000000) : Evn (fun k => petrinetref16_Moves.f k st es b s) (row st.length es s) := by
  have := moves_l0 st es b s he es.length 0 [] (by omega) (by simp) (by simp)
  simpa [petrinetref16_Moves.f, row] using this
theorem table_ev (st : List (List Int)) (es : List S80) (b : Bool) (hn : st.length ≤ 1000000) (he : es.length ≤ 1000000) : Evn (fun k => petrinetref16_Table.f k st es b) (tab st.length es) := by
  have key : ∀ (m s : Nat), s + m = st.length → Evn (fun k => petrinetref16_Table.l0 k ((List.range s).map (fun (i : Nat) => row st.length es (i : Int))) (s : Int) st es b) (tab st.length es) := by
    intro m
    induction m with
    | zero =>
      intro s hs
      refine Evn.succ ?_
      simp only [petrinetref16_Table.l0]
      (first | refine Evn.pos (by first | assumption | omega | (simp; done) | (simp; omega)) ?_ | refine Evn.neg (by first | assumption | omega | (simp; done) | (simp; omega)) ?_)
      obtain rfl : s = st.length := by omega
      exact Evn.const _
    | succ m ih =>
      intro s hs
      refine Evn.succ ?_
      simp only [petrinetref16_Table.l0]
      (first | refine Evn.pos (by first | assumption | omega | (simp; done) | (simp; omega)) ?_ | refine Evn.neg (by first | assumption | omega | (simp; done) | (simp; omega)) ?_)
      refine Evn.bind (moves_ev st es b (s : Int) he) ?_
      refine Evn.pos (by simp; omega) ?_
      rw [wrap_succ (by omega)]
      have := ih (s + 1) (by omega)
      rw [List.range_succ, List.map_append] at this
      exact this
  exact key st.length 0 (by omega)
end Go.Proofs.Ytfnjbgggmddgpaa.Q
end
