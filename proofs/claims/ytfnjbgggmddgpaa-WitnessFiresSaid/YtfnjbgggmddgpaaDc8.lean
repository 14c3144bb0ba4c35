/- Part 8 of a proof: Dc. Words and walks that a program printed for this claim stand here without what the claim does not use. -/
import Derived.Test.YtfnjbgggmddgpaaDc2
import Derived.Test.YtfnjbgggmddgpaaDc3
import Derived.Test.YtfnjbgggmddgpaaDc5
import Derived.Test.YtfnjbgggmddgpaaDc6
import Derived.Test.YtfnjbgggmddgpaaDc7
section
namespace Go.Proofs.Ytfnjbgggmddgpaa.Q
open Go.RowKit Go.Proofs.Fn Go.Proofs.YtfnjbgggmddgpaaW.PrintWords Go.Proofs.YtfnjbgggmddgpaaW.PrintLast Go.Proofs.YtfnjbgggmddgpaaW.PrintMore
attribute [local go_sem] max2_int min2_int max_two min_two max_three min_three max_four min_four
set_option linter.unusedVariables false
set_option linter.unusedSimpArgs false
mutual
def witness_Diameter.l0 : Nat → List (List (S66)) → List Int → List Int → Int → Option (Int)
 | 0, _, _, _, _ => none
 | k + 1, x3, x4, x5, x6 => if (x5.length : Int) > 0 then (if 0 < (x5.length : Int) then (if 1 ≤ (x5.length : Int) then (if 0 ≤ (rd x5 0) then (if (rd x5 0) < (x4.length : Int) then (if (rd x5 0) < (x3.length : Int) then (witness_Diameter.l1 k x3 x4 (x5.drop (1 : Int).toNat) (mx x6 (rd x4 (rd x5 0))) (rd x5 0) (rd_L66 x3 (rd x5 0)) ((rd_L66 x3 (rd x5 0)).length : Int) 0) else (none)) else (none)) else (none)) else (none)) else (none)) else (some x6)
def witness_Diameter.l1 : Nat → List (List (S66)) → List Int → List Int → Int → Int → List (S66) → Int → Int → Option (Int)
 | 0, _, _, _, _, _, _, _, _ => none
 | k + 1, x3, x4, x5, x6, x7, x36, x37, x38 => if x38 < x37 then (if 0 ≤ x38 then (if x38 < (x36.length : Int) then (if ((rd_T66 x36 x38).f1) = 0 then (witness_Diameter.l1 k x3 x4 x5 x6 x7 x36 x37 (wrap64 (x38 + 1))) else (if 0 ≤ ((rd_T66 x36 x38).f1) then (if ((rd_T66 x36 x38).f1) < (x4.length : Int) then (if (rd x4 ((rd_T66 x36 x38).f1)) = 0 then (if 0 ≤ x7 then (if x7 < (x4.length : Int) then (if x5.length < 17592186044416 then (witness_Diameter.l1 k x3 (x4.set (((rd_T66 x36 x38).f1) : Int).toNat (wrap64 ((rd x4 x7) + 1))) (x5 ++ [(rd_T66 x36 x38).f1]) x6 x7 x36 x37 (wrap64 (x38 + 1))) else (none)) else (none)) else (none)) else (witness_Diameter.l1 k x3 x4 x5 x6 x7 x36 x37 (wrap64 (x38 + 1)))) else (none)) else (none))) else (none)) else (none)) else (witness_Diameter.l0 k x3 x4 x5 x6)
end
def witness_Diameter.f (k : Nat) (l0_0 : List (List Int)) (l0_1 : List (S80)) (a0_2 : Bool) : Option (Int) := (witness_steps.f k l0_0 l0_1 a0_2).bind fun t102 => (if (t102.length : Int) = 0 then (some (-1)) else (if 0 ≤ (t102.length : Int) then (if ((t102.length : Int) : Int).toNat ≤ 35184372088832 then (witness_Diameter.l0 k t102 (List.replicate ((t102.length : Int) : Int).toNat 0) (([0] : List Int)) 0) else (none)) else (none)))
theorem witness_Diameter.mono_l : ∀ k, (∀ y0 y1 y2 y3, LeO (witness_Diameter.l0 k y0 y1 y2 y3) (witness_Diameter.l0 (k + 1) y0 y1 y2 y3)) ∧ (∀ y0 y1 y2 y3 y4 y5 y6 y7, LeO (witness_Diameter.l1 k y0 y1 y2 y3 y4 y5 y6 y7) (witness_Diameter.l1 (k + 1) y0 y1 y2 y3 y4 y5 y6 y7))
 | 0 => ⟨fun _ _ _ _ r h => by simp [witness_Diameter.l0] at h, fun _ _ _ _ _ _ _ _ r h => by simp [witness_Diameter.l1] at h⟩
 | k + 1 => by
  obtain ⟨ih0, ih1⟩ := witness_Diameter.mono_l k
  refine ⟨?_, ?_⟩
  ·intro y0 y1 y2 y3
   unfold witness_Diameter.l0
   repeat' first
   | (with_reducible exact ih0 _ _ _ _)
   | (with_reducible exact ih1 _ _ _ _ _ _ _ _)
   | (with_reducible exact witness_steps.mono _ _ _ _)
   | (with_reducible exact LeO.refl _)
   | (with_reducible exact LeO.none _)
   | (with_reducible refine LeO.ite ?_ ?_)
   | (with_reducible refine LeO.bind ?_ (fun _ => ?_))
   | exact ih0 _ _ _ _
   | exact ih1 _ _ _ _ _ _ _ _
   | exact witness_steps.mono _ _ _ _
   | exact LeO.none _
   | refine LeO.ite ?_ ?_
   | refine LeO.bind ?_ (fun _ => ?_)
  ·intro y0 y1 y2 y3 y4 y5 y6 y7
   unfold witness_Diameter.l1
   repeat' first
   | (with_reducible exact ih0 _ _ _ _)
   | (with_reducible exact ih1 _ _ _ _ _ _ _ _)
   | (with_reducible exact witness_steps.mono _ _ _ _)
   | (with_reducible exact LeO.refl _)
   | (with_reducible exact LeO.none _)
   | (with_reducible refine LeO.ite ?_ ?_)
   | (with_reducible refine LeO.bind ?_ (fun _ => ?_))
   | exact ih0 _ _ _ _
   | exact ih1 _ _ _ _ _ _ _ _
   | exact witness_steps.mono _ _ _ _
   | exact LeO.none _
   | refine LeO.ite ?_ ?_
   | refine LeO.bind ?_ (fun _ => ?_)
theorem witness_Diameter.mono : ∀ a0 a1 a2 k, LeO (witness_Diameter.f k a0 a1 a2) (witness_Diameter.f (k + 1) a0 a1 a2) := by
 intro a0 a1 a2 k
 obtain ⟨ih0, ih1⟩ := witness_Diameter.mono_l k
 unfold witness_Diameter.f
 repeat' first
   | (with_reducible exact ih0 _ _ _ _)
   | (with_reducible exact ih1 _ _ _ _ _ _ _ _)
   | (with_reducible exact witness_steps.mono _ _ _ _)
   | (with_reducible exact LeO.refl _)
   | (with_reducible exact LeO.none _)
   | (with_reducible refine LeO.ite ?_ ?_)
   | (with_reducible refine LeO.bind ?_ (fun _ => ?_))
   | exact ih0 _ _ _ _
   | exact ih1 _ _ _ _ _ _ _ _
   | exact witness_steps.mono _ _ _ _
   | exact LeO.none _
   | refine LeO.ite ?_ ?_
   | refine LeO.bind ?_ (fun _ => ?_)
def witness_Diameter.T15 : Bool × List (List Nat × List Nat) := (true, [([], []), ([], []), ([1], [1]), ([], []), ([], []), ([3, 4], [3, 4]), ([5], [5]), ([6], [6]), ([0, 2, 0, 1, 2, 3, 4, 5, 6, 7], [0, 2]), ([8, 7, 0, 1, 2, 3, 4, 5, 6, 7], [7, 8])])
def witness_Diameter.B15 : List Nat := [0, 0, 2, 0, 0, 24, 56, 120, 255, 511]
theorem witness_Diameter.tab15 : rtab .any (opsOf Try.f14 15) = witness_Diameter.T15 := by kernel_rfl
theorem witness_Diameter.bits15 : waitsOk witness_Diameter.T15.2 witness_Diameter.B15 = true := by kernel_rfl
set_option maxHeartbeats 8000000 in
set_option maxRecDepth 100000 in
theorem witness_Diameter.calls (k : Nat) (A0_0 : Option Addr) (c0_0 : Nat) (l0_0 : List (List Int)) (A0_1 : Option Addr) (c0_1 : Nat) (l0_1 : List (S80)) (a0_2 : Bool) (r : Int) (w : World) (hr0_0 : Kd.C (Kd.slice 3 (Kd.int .i64)) w A0_0 l0_0.length l0_0) (hc0_0 : l0_0.length ≤ c0_0) (hr0_1 : Kd.C k80 w A0_1 l0_1.length l0_1) (hc0_1 : l0_1.length ≤ c0_1) (h : witness_Diameter.f k l0_0 l0_1 a0_2 = some r) :
  Calls Try.prog 14 #[.agg #[.slice A0_0 l0_0.length c0_0, .slice A0_1 l0_1.length c0_1, .bool a0_2]] w fun e w' => e = .returned (.int .i64 r) ∧ Below w.heap.size w w' := by
 have hu25 := Try.underlying25
 have hu66 := Try.underlying66
 have HR0_0 := Aside0.mk hr0_0
 have HC0_0 := Aside0.mk hc0_0
 clear hr0_0 hc0_0
 have HR0_1 := Aside0.mk hr0_1
 have HC0_1 := Aside0.mk hc0_1
 clear hr0_1 hc0_1
 have HB := Aside0.mk (Below.refl w.heap.size w)
 have H : ((witness_steps.f k l0_0 l0_1 a0_2).bind fun t102 => (if (t102.length : Int) = 0 then (some (-1)) else (if 0 ≤ (t102.length : Int) then (if ((t102.length : Int) : Int).toNat ≤ 35184372088832 then (witness_Diameter.l0 k t102 (List.replicate ((t102.length : Int) : Int).toNat 0) (([0] : List Int)) 0) else (none)) else (none)))) = some r := h
 clear h
 replace H := Option.bind_eq_some_iff.mp H
 obtain ⟨t102, A20, H⟩ := H
 replace H : (if (t102.length : Int) = 0 then (some (-1)) else (if 0 ≤ (t102.length : Int) then (if ((t102.length : Int) : Int).toNat ≤ 35184372088832 then (witness_Diameter.l0 k t102 (List.replicate ((t102.length : Int) : Int).toNat 0) (([0] : List Int)) 0) else (none)) else (none))) = some r := H
 have A2 := Aside0.mk A20
 clear A20
 by_cases c3 : (t102.length : Int) = 0
 ·rw [if_pos c3] at H
  have c3b0 : ((t102.length : Int) == 0) = true := beq_iff_eq.mpr c3
  have c3b1 : ((t102.length : Int) != 0) = false := bne_eq_false_iff_eq.mpr c3
  clear c3
  obtain rfl := Option.some.inj H
  go_enter Try.func14, Try.ntmps14
  go_wp2_with (first | ((with_reducible refine gate_dst (N := 1) rfl ?_); refine box_event ?hg (N := 1) ?hd (cs := #[.slice A0_0 l0_0.length c0_0, .slice A0_1 l0_1.length c0_1, .bool a0_2]) (t := 25) ?hr ?_; (case hd => rfl); (case hg => rfl); (case hr => first | (go_simp; done) | (go_simp; rfl)); intro gb101 hg w4 hbox hb; have n0_ := Aside0.mk (below_step (tB) hb); have n1_ := Aside0.mk (hbox); have n2_ := Aside0.mk ((by rw [hg]; exact (below_size (tB)) : w.heap.size ≤ gb101)); have n3_ := Aside0.mk ((by rw [hg]; exact (below_size (tB)) : w.heap.size ≤ gb101)); clear HB; have HB := n0_; have BK101 := n1_; have GW101 := n2_; have GE101 := n3_; clear n0_ n1_ n2_ n3_; clear hb hbox hg; have hcz5_0 : w4.cell? ⟨gb101, 0, none⟩ = some (.slice A0_0 l0_0.length c0_0) := (blk_cell BK101.out 0).trans rfl; have hcz5_1 : w4.cell? ⟨gb101, 1, none⟩ = some (.slice A0_1 l0_1.length c0_1) := (blk_cell BK101.out 1).trans rfl; have hcz5_2 : w4.cell? ⟨gb101, 2, none⟩ = some (.bool a0_2) := (blk_cell BK101.out 2).trans rfl; have hfz5_0 := blk_frozen BK101.out 0; have hfz5_1 := blk_frozen BK101.out 1; have hfz5_2 := blk_frozen BK101.out 2) | ((with_reducible refine gate_callee (f := 34) rfl ?_); refine goesL_ (some 11) rfl rfl Try.func34 (by kernel_rfl) rfl #[.agg #[.slice A0_0 l0_0.length c0_0, .slice A0_1 l0_1.length c0_1, .bool a0_2]] rfl (by (try simp only [List.map_toArray, List.map_cons, List.map_nil]); first | done | rfl | (simp only [List.length_drop, List.length_take]; rfl)) ?_; (with_reducible refine (witness_steps.calls k _ _ l0_0 _ _ l0_1 a0_2 t102 _ ?side1 ?side2 ?side3 ?side4 A2.out).mono ?_); (case side1 => exact tC (Kd.C_below HR0_0.out HB.out)); (case side2 => exact HC0_0.out); (case side3 => exact tC (Kd.C_below HR0_1.out HB.out)); (case side4 => exact HC0_1.out); rintro e w ⟨v103, rfl, ho0, hb⟩; refine ⟨_, rfl, ?_⟩; have n0_ := Aside0.mk (Kd.S_lower ho0 (below_size (tB))); have n1_ := Aside0.mk (blk_below (g := gb101) (o := .cells #[.slice A0_0 l0_0.length c0_0, .slice A0_1 l0_1.length c0_1, .bool a0_2] 25 (0, 0)) (tK BK101) hb); have n2_ := Aside0.mk (below_step (tB) hb); clear BK101; clear HB; have HO104 := n0_; have BK101 := n1_; have HB := n2_; clear n0_ n1_ n2_; (try clear hb); (try clear hb2); (try clear hk); (try clear hi); (try clear ho0); obtain ⟨As_t102, cs_t102, es_t102, hcs_t102, hCs_t102⟩ := Kd.S_reads HO104.out; subst es_t102; have HRs_t102 := Aside0.mk hCs_t102; have HCs_t102 := Aside0.mk hcs_t102; clear hCs_t102 hcs_t102 HO104; have HBS1 := HB; clear HB; have HB := Aside0.mk (Below.refl w.heap.size w); replace HR0_0 := Aside0.mk (Kd.C_below HR0_0.out HBS1.out); replace HR0_1 := Aside0.mk (Kd.C_below HR0_1.out HBS1.out)))
  go_ret
  (try refine reb0_ HBS1.out ?_)
  exact ⟨tE, tB⟩
 ·rw [if_neg c3] at H
  have c3b0 : ((t102.length : Int) == 0) = false := beq_eq_false_iff_ne.mpr c3
  have c3b1 : ((t102.length : Int) != 0) = true := bne_iff_ne.mpr c3
  have c3b2 : ¬ (t102 = []) := fun h_ => c3 (by rw [h_]; rfl)
  by_cases c6 : 0 ≤ (t102.length : Int)
  ·rw [if_pos c6] at H
   have c6b0 := eq_true c6
   have c6b1 : decide (0 ≤ (t102.length : Int)) = true := decide_eq_true c6
   clear c6
   by_cases c7 : ((t102.length : Int) : Int).toNat ≤ 35184372088832
   ·rw [if_pos c7] at H
    have c7b0 := eq_true c7
    have c7b1 : decide (((t102.length : Int) : Int).toNat ≤ 35184372088832) = true := decide_eq_true c7
    clear c7
    obtain ⟨y105, hy105⟩ : ∃ y_ : List Int, y_ = (List.replicate ((t102.length : Int) : Int).toNat 0) := ⟨_, rfl⟩
    replace H : (witness_Diameter.l0 k t102 y105 (([0] : List Int)) 0) = some r := by first | (rw [hy105]; with_reducible exact H) | (have H2_ := (Option.bind_some _ _).symm.trans H; rw [hy105]; with_reducible exact H2_) | (have H2_ := (Option.bind_some _ _).symm.trans H; with_reducible exact H2_) | with_reducible exact H | (rw [hy105]; exact H) | exact H
    have Ny105 := Aside0.mk hy105
    clear hy105
    obtain ⟨y108, hy108⟩ : ∃ y_ : List Int, y_ = (([0] : List Int)) := ⟨_, rfl⟩
    replace H : (witness_Diameter.l0 k t102 y105 y108 0) = some r := by first | (rw [hy108]; with_reducible exact H) | (have H2_ := (Option.bind_some _ _).symm.trans H; rw [hy108]; with_reducible exact H2_) | (have H2_ := (Option.bind_some _ _).symm.trans H; with_reducible exact H2_) | with_reducible exact H | (rw [hy108]; exact H) | exact H
    have Ny108 := Aside0.mk hy108
    clear hy108
    have H' := Aside0.mk H
    clear H
    go_enter Try.func14, Try.ntmps14
    go_wp2_with (first | ((with_reducible refine gate_dst (N := 1) rfl ?_); refine box_event ?hg (N := 1) ?hd (cs := #[.slice A0_0 l0_0.length c0_0, .slice A0_1 l0_1.length c0_1, .bool a0_2]) (t := 25) ?hr ?_; (case hd => rfl); (case hg => rfl); (case hr => first | (go_simp; done) | (go_simp; rfl)); intro gb101 hg w8 hbox hb; have n0_ := Aside0.mk (below_step (tB) hb); have n1_ := Aside0.mk (hbox); have n2_ := Aside0.mk ((by rw [hg]; exact (below_size (tB)) : w.heap.size ≤ gb101)); have n3_ := Aside0.mk ((by rw [hg]; exact (below_size (tB)) : w.heap.size ≤ gb101)); clear HB; have HB := n0_; have BK101 := n1_; have GW101 := n2_; have GE101 := n3_; clear n0_ n1_ n2_ n3_; clear hb hbox hg; have hcz9_0 : w8.cell? ⟨gb101, 0, none⟩ = some (.slice A0_0 l0_0.length c0_0) := (blk_cell BK101.out 0).trans rfl; have hcz9_1 : w8.cell? ⟨gb101, 1, none⟩ = some (.slice A0_1 l0_1.length c0_1) := (blk_cell BK101.out 1).trans rfl; have hcz9_2 : w8.cell? ⟨gb101, 2, none⟩ = some (.bool a0_2) := (blk_cell BK101.out 2).trans rfl; have hfz9_0 := blk_frozen BK101.out 0; have hfz9_1 := blk_frozen BK101.out 1; have hfz9_2 := blk_frozen BK101.out 2) | ((with_reducible refine gate_callee (f := 34) rfl ?_); refine goesL_ (some 11) rfl rfl Try.func34 (by kernel_rfl) rfl #[.agg #[.slice A0_0 l0_0.length c0_0, .slice A0_1 l0_1.length c0_1, .bool a0_2]] rfl (by (try simp only [List.map_toArray, List.map_cons, List.map_nil]); first | done | rfl | (simp only [List.length_drop, List.length_take]; rfl)) ?_; (with_reducible refine (witness_steps.calls k _ _ l0_0 _ _ l0_1 a0_2 t102 _ ?side1 ?side2 ?side3 ?side4 A2.out).mono ?_); (case side1 => exact tC (Kd.C_below HR0_0.out HB.out)); (case side2 => exact HC0_0.out); (case side3 => exact tC (Kd.C_below HR0_1.out HB.out)); (case side4 => exact HC0_1.out); rintro e w ⟨v103, rfl, ho0, hb⟩; refine ⟨_, rfl, ?_⟩; have n0_ := Aside0.mk (Kd.S_lower ho0 (below_size (tB))); have n1_ := Aside0.mk (blk_below (g := gb101) (o := .cells #[.slice A0_0 l0_0.length c0_0, .slice A0_1 l0_1.length c0_1, .bool a0_2] 25 (0, 0)) (tK BK101) hb); have n2_ := Aside0.mk (below_step (tB) hb); clear BK101; clear HB; have HO104 := n0_; have BK101 := n1_; have HB := n2_; clear n0_ n1_ n2_; (try clear hb); (try clear hb2); (try clear hk); (try clear hi); (try clear ho0); obtain ⟨As_t102, cs_t102, es_t102, hcs_t102, hCs_t102⟩ := Kd.S_reads HO104.out; subst es_t102; have HRs_t102 := Aside0.mk hCs_t102; have HCs_t102 := Aside0.mk hcs_t102; clear hCs_t102 hcs_t102 HO104; have HBS1 := HB; clear HB; have HB := Aside0.mk (Below.refl w.heap.size w); replace HR0_0 := Aside0.mk (Kd.C_below HR0_0.out HBS1.out); replace HR0_1 := Aside0.mk (Kd.C_below HR0_1.out HBS1.out)) | ((with_reducible refine gate_dst (N := 17) rfl ?_); refine Kd.R_make (Kd.int .i64) _ 3 rfl (N := 17) rfl 28 _ _ rfl (t102.length : Int) rfl rfl Try.underlying28 (.int .i64 0) 8 info3 rfl (by decide) (by omega) 0 (ok := fun _ => True) (okp := fun _ => True) rfl (fun _ hk => hk) trivial (tD) (Nat.le_trans (Nat.mul_le_mul_right _ (tD : (t102.length : Int).toNat ≤ 35184372088832)) (by omega)) (Below.refl _ _) (Nat.le_refl _) ?_; intro v106 w10 ho11 hb hg_ hnew_; clear hg_ hnew_; (first | rw [← Ny105.out] at ho11 | (simp only [Int.reduceToNat] at ho11; rw [← Ny105.out] at ho11)); have n0_ := Aside0.mk (Kd.R_lower ho11 (below_size (tB))); have n1_ := Aside0.mk (blk_below (g := gb101) (o := .cells #[.slice A0_0 l0_0.length c0_0, .slice A0_1 l0_1.length c0_1, .bool a0_2] 25 (0, 0)) (tK BK101) hb); have n2_ := Aside0.mk (below_step (tB) hb); clear BK101; clear HB; have HO107 := n0_; have BK101 := n1_; have HB := n2_; clear n0_ n1_ n2_; clear hb ho11) | ((with_reducible refine gate_dst (N := 18) rfl ?_); refine Kd.R_lit (Kd.int .i64) _ 3 ?hg (N := 18) ?hd (xs := ([0] : List Int)) (inner := [.int .i64 0]) (ok := fun _ => True) (okp := fun _ => True) ?hr ?hp (fun _ hk => hk) trivial (Below.refl _ _) (Nat.le_refl _) (by simp) ?_; (case hd => rfl); (case hg => rfl); (case hr => first | (go_simp; done) | (go_simp; rfl)); (case hp => exact (Reps.one (show Kd.M (Kd.int .i64) _ _ _ 0 [.int .i64 0] from rfl) (Reps.none _ _))); intro v109 w12 ho13 hb hg_ hnew_; clear hg_ hnew_; (first | rw [← Ny108.out] at ho13 | (simp only [Int.reduceToNat] at ho13; rw [← Ny108.out] at ho13)); have n0_ := Aside0.mk (Kd.R_elder' (tR HO107) (Kd.R_base ho13) hb); have n1_ := Aside0.mk (Kd.R_lower (Kd.R_new' ho13 (Kd.R_lt (tR HO107))) (below_size (tB))); have n2_ := Aside0.mk (blk_below (g := gb101) (o := .cells #[.slice A0_0 l0_0.length c0_0, .slice A0_1 l0_1.length c0_1, .bool a0_2] 25 (0, 0)) (tK BK101) hb); have n3_ := Aside0.mk (below_step (tB) hb); clear HO107; clear BK101; clear HB; have HO107 := n0_; have HO110 := n1_; have BK101 := n2_; have HB := n3_; clear n0_ n1_ n2_ n3_; clear hb ho13))
    go_loopg [5, 6] k (fun kq v5 v6 w' => ∃ (x4_1 : List Int) (x5_1 : List Int) (x6_1 : Int), v6 = .int .i64 x6_1 ∧ Aside0 (witness_Diameter.l0 kq t102 x4_1 x5_1 x6_1 = some r) ∧ Aside0 (kq ≤ k) ∧ Aside0 (Kd.R (Kd.int .i64) 3 w' w.heap.size (fun k_ => some k_ ≠ (v5 : Value).ownBlock) v106 x4_1) ∧ Aside0 (Kd.Q (Kd.int .i64) 3 w' w.heap.size (fun k_ => some k_ ≠ (v106 : Value).ownBlock) v5 x5_1) ∧ Aside0 (w'.heap[gb101]? = some (.cells #[(.slice A0_0 l0_0.length c0_0), (.slice A0_1 l0_1.length c0_1), .bool a0_2] 25 (0, 0))) ∧ Aside0 (Below w.heap.size w w'))
    case atStart => exact ⟨(y105), (y108), (0), (by first | rfl | (simp; done) | (simp [*]; done)), H', ⟨Nat.le_refl _⟩, ⟨by (with_reducible repeat (first | apply Kd.R_alloc | apply Kd.R_drewN | apply Kd.R_drew)); exact Kd.R_mono HO107.out (fun _ hk => hk.2)⟩, ⟨Kd.Q_of_R (by (with_reducible repeat (first | apply Kd.R_alloc | apply Kd.R_drewN | apply Kd.R_drew)); exact Kd.R_mono HO110.out (fun _ hk => hk.2))⟩, ⟨tK BK101⟩, ⟨tB⟩⟩
    case round =>
     clear H'
     try clear c1
     try clear p2
     try clear c3
     try clear c3b0
     try clear c3b1
     try clear c3b2
     try clear c6
     try clear c6b0
     try clear c6b1
     try clear c7
     try clear c7b0
     try clear c7b1
     try clear hcz5_0
     try clear hcz5_1
     try clear hcz5_2
     try clear hcz9_0
     try clear hcz9_1
     try clear hcz9_2
     try clear hfz5_0
     try clear hfz5_1
     try clear hfz5_2
     try clear hfz9_0
     try clear hfz9_1
     try clear hfz9_2
     obtain ⟨x4_1, x5_1, x6_1, rfl, HA, HK1, HO_4, HO_5, BK101, HB⟩ := hrel
     cases gk with
     | zero => exact absurd HA.out (by simp [witness_Diameter.l0])
     | succ k1 =>
      have H := HA.out
      clear HA
      simp only [witness_Diameter.l0] at H
      by_cases c14 : (x5_1.length : Int) > 0
      ·rw [if_pos c14] at H
       have c14b0 : decide (0 < (x5_1.length : Int)) = true := decide_eq_true c14
       have c14b1 : decide (0 < x5_1.length) = true := decide_eq_true (by omega)
       clear c14
       by_cases c15 : 0 < (x5_1.length : Int)
       ·rw [if_pos c15] at H
        have c15b0 : decide (0 < (x5_1.length : Int)) = true := decide_eq_true c15
        have c15b1 : decide (0 < x5_1.length) = true := decide_eq_true (by omega)
        clear c15
        by_cases c16 : 1 ≤ (x5_1.length : Int)
        ·rw [if_pos c16] at H
         have c16b0 := eq_true c16
         have c16b1 : decide (1 ≤ (x5_1.length : Int)) = true := decide_eq_true c16
         clear c16
         obtain ⟨y112, hy112⟩ : ∃ y_ : List Int, y_ = (x5_1.drop (1 : Int).toNat) := ⟨_, rfl⟩
         replace H : (if 0 ≤ (rd x5_1 0) then (if (rd x5_1 0) < (x4_1.length : Int) then (if (rd x5_1 0) < (t102.length : Int) then (witness_Diameter.l1 k1 t102 x4_1 y112 (mx x6_1 (rd x4_1 (rd x5_1 0))) (rd x5_1 0) (rd_L66 t102 (rd x5_1 0)) ((rd_L66 t102 (rd x5_1 0)).length : Int) 0) else (none)) else (none)) else (none)) = some r := by first | (rw [hy112]; with_reducible exact H) | (have H2_ := (Option.bind_some _ _).symm.trans H; rw [hy112]; with_reducible exact H2_) | (have H2_ := (Option.bind_some _ _).symm.trans H; with_reducible exact H2_) | with_reducible exact H | (rw [hy112]; exact H) | exact H
         have Ny112 := Aside0.mk hy112
         clear hy112
         by_cases c17 : 0 ≤ (rd x5_1 0)
         ·rw [if_pos c17] at H
          have c17b0 : decide (0 ≤ (rd x5_1 0)) = true := decide_eq_true c17
          clear c17
          by_cases c18 : (rd x5_1 0) < (x4_1.length : Int)
          ·rw [if_pos c18] at H
           have c18b0 : decide ((rd x5_1 0) < (x4_1.length : Int)) = true := decide_eq_true c18
           clear c18
           obtain ⟨ji19, hji19⟩ : ∃ j_ : Int, (mx x6_1 (rd x4_1 (rd x5_1 0))) = j_ := ⟨_, rfl⟩
           replace H : (if (rd x5_1 0) < (t102.length : Int) then (witness_Diameter.l1 k1 t102 x4_1 y112 ji19 (rd x5_1 0) (rd_L66 t102 (rd x5_1 0)) ((rd_L66 t102 (rd x5_1 0)).length : Int) 0) else (none)) = some r := by first | (rw [hji19] at H; exact H) | (simp only [hji19] at H ⊢; exact H)
           have hji19_ : (if x6_1 < (rd x4_1 (rd x5_1 0)) then (rd x4_1 (rd x5_1 0)) else x6_1) = ji19 := hji19
           by_cases c20 : (rd x5_1 0) < (t102.length : Int)
           ·rw [if_pos c20] at H
            have c20b0 : decide ((rd x5_1 0) < (t102.length : Int)) = true := decide_eq_true c20
            clear c20
            have H' := Aside0.mk H
            clear H
            obtain ⟨Ao21, co21, eo21, _⟩ := Kd.Q_slice HO_5.out
            subst eo21
            have p111 : 0 ≤ (0 : Int) := (by omega)
            have q111 : 0 < (x5_1.length : Int) := tD
            obtain ⟨ad111, e111, hx111_0⟩ := Kd.at_int (Kd.Q_reads' HO_5.out).2.2 0 p111 q111
            cases e111
            have qi111 : (0 < x5_1.length) = True := eq_true (by omega)
            (try rw [show ((0 : Int)).toNat = 0 from rfl] at hx111_0)
            (try rw [Addr.add_zero'] at hx111_0)
            replace p111 := eq_true p111
            replace q111 := eq_true q111
            have q22 : (1 : Int) ≤ ((x5_1.length : Int) : Int) := tD
            obtain ⟨i022, hi022, _, hsz22, _⟩ := info_parts info3
            have hcut22 := cut_from (P := Try.prog) 28 3 .i64 Try.underlying28 hi022 1 hsz22 (some ad111) x5_1.length co21 1 (by omega) q22
            have hr22 := Kd.Q_drop (k := (1 : Int).toNat) HO_5.out (by omega)
            obtain ⟨A22, hA22⟩ : ∃ A1, A1 = (if co21 = (1 : Int).toNat then (some ad111) else ((some ad111) : Option Addr).map (·.add ((1 : Int).toNat * 1))) := ⟨_, rfl⟩
            obtain ⟨c22, hc22⟩ : ∃ c1, c1 = co21 - (1 : Int).toNat := ⟨_, rfl⟩
            have hy22 : y112.length = x5_1.length - (1 : Int).toNat := (by rw [Ny112.out, List.length_drop])
            rw [← Ny112.out] at hr22
            rw [← hy22, ← hA22, ← hc22] at hcut22
            replace hr22 : Kd.Q (Kd.int .i64) 3 wr w.heap.size (fun k_ => some k_ ≠ (v106 : Value).ownBlock) (.slice A22 y112.length c22) y112 := (by rw [hA22, hc22, hy22]; exact hr22)
            have HE22 : Aside0 ((Value.slice A22 y112.length c22).ownBlock = (.slice (some ad111) x5_1.length co21 : Value).ownBlock) := ⟨by rw [hA22]; split <;> (cases ((some ad111) : Option Addr) <;> rfl)⟩
            clear hy22 hi022 hsz22 HO_5 hA22 hc22
            have HO114 := Aside0.mk hr22
            clear hr22
            replace q22 := eq_true q22
            have n_ := Aside0.mk (Kd.R_mono (ok' := fun k_ => some k_ ≠ (.slice A22 y112.length c22 : Value).ownBlock) HO_4.out (fun k_ hk => (by rw [HE22.out]; exact hk)))
            clear HO_4
            have HO_4 := n_
            clear n_
            obtain ⟨Ao23, co23, eo23⟩ := Kd.R_slice HO_4.out
            subst eo23
            have p115 : 0 ≤ ((rd x5_1 0) : Int) := tD
            have q115 : (rd x5_1 0) < (x4_1.length : Int) := tD
            obtain ⟨ad115, e115, hx115_0⟩ := Kd.at_int (Kd.R_reads' HO_4.out).2.2 (rd x5_1 0) p115 q115
            cases e115
            replace p115 := eq_true p115
            replace q115 := eq_true q115
            have p116 : 0 ≤ ((rd x5_1 0) : Int) := tD
            have q116 : (rd x5_1 0) < (t102.length : Int) := tD
            obtain ⟨ad116, A116_0, c116_0, e116, hx116_0, hl116_0, hi116_0⟩ := at_L66 HRs_t102.out (rd x5_1 0) p116 q116
            cases e116
            replace hx116_0 := (HB.out.cell (World.block_lt_of_cell? w _ hx116_0)).trans hx116_0
            have HR116_0 := Aside0.mk hi116_0
            have HC116_0 := Aside0.mk hl116_0
            clear hi116_0 hl116_0
            replace p116 := eq_true p116
            replace q116 := eq_true q116
            go_wp2
            go_loopg [5, 38] k1 (fun kq v5 v38 w' => ∃ (x4_2 : List Int) (x5_2 : List Int) (x38_2 : Int), v38 = .int .i64 x38_2 ∧ Aside0 (witness_Diameter.l1 kq t102 x4_2 x5_2 ji19 (rd x5_1 0) (rd_L66 t102 (rd x5_1 0)) ((rd_L66 t102 (rd x5_1 0)).length : Int) x38_2 = some r) ∧ Aside0 (kq ≤ k1) ∧ Aside0 (Kd.R (Kd.int .i64) 3 w' w.heap.size (fun k_ => some k_ ≠ (v5 : Value).ownBlock) (.slice (some ad115) x4_1.length co23) x4_2) ∧ Aside0 (Kd.Q (Kd.int .i64) 3 w' w.heap.size (fun k_ => some k_ ≠ ((.slice (some ad115) x4_1.length co23) : Value).ownBlock) v5 x5_2) ∧ Aside0 (w'.heap[gb101]? = some (.cells #[(.slice A0_0 l0_0.length c0_0), (.slice A0_1 l0_1.length c0_1), .bool a0_2] 25 (0, 0))) ∧ Aside0 (Below w.heap.size w w'))
            case atStart => exact ⟨(x4_1), (y112), (0), (by first | rfl | (simp; done) | (simp [*]; done)), H', ⟨Nat.le_refl _⟩, ⟨tR HO_4⟩, ⟨tR HO114⟩, ⟨tK BK101⟩, ⟨tB⟩⟩
            case round =>
             clear H'
             try clear c1
             try clear p1
             try clear q1
             try clear hx1
             try clear qi1
             try clear c2
             try clear p2
             try clear q2
             try clear c3
             try clear c3b0
             try clear c3b1
             try clear c3b2
             try clear c6
             try clear c6b0
             try clear c6b1
             try clear c7
             try clear c7b0
             try clear c7b1
             try clear c11
             try clear p11
             try clear q11
             try clear hx11
             try clear qi11
             try clear c14
             try clear c14b0
             try clear c14b1
             try clear c15
             try clear c15b0
             try clear c15b1
             try clear c16
             try clear c16b0
             try clear c16b1
             try clear c17
             try clear c17b0
             try clear c18
             try clear c18b0
             try clear c20
             try clear c20b0
             try clear c22
             try clear q22
             try clear hcz5_0
             try clear hcz5_1
             try clear hcz5_2
             try clear hcz9_0
             try clear hcz9_1
             try clear hcz9_2
             try clear hfz5_0
             try clear hfz5_1
             try clear hfz5_2
             try clear hfz9_0
             try clear hfz9_1
             try clear hfz9_2
             try clear hx111_0
             try clear hx115_0
             try clear hx116_0
             try clear p111
             try clear p115
             try clear p116
             try clear p2
             try clear q111
             try clear q115
             try clear q116
             try clear q22
             obtain ⟨x4_2, x5_2, x38_2, rfl, HA, HK2, HO_4, HO_5, BK101, HB⟩ := hrel
             have hl4_2 := (Kd.R_reads' HO_4.out).1
             rw [hl4_2] at HO_4
             (try simp only [hl4_2])
             (try simp only [hl4_2] at BK101)
             (try simp only [hl4_2] at HO_5)
             cases gk with
             | zero => exact absurd HA.out (by simp [witness_Diameter.l1])
             | succ k2 =>
              have H := HA.out
              clear HA
              simp only [witness_Diameter.l1] at H
              by_cases c24 : x38_2 < ((rd_L66 t102 (rd x5_1 0)).length : Int)
              ·rw [if_pos c24] at H
               have c24b0 : decide (x38_2 < ((rd_L66 t102 (rd x5_1 0)).length : Int)) = true := decide_eq_true c24
               clear c24
               by_cases c25 : 0 ≤ x38_2
               ·rw [if_pos c25] at H
                have c25b0 : decide (0 ≤ x38_2) = true := decide_eq_true c25
                clear c25
                by_cases c26 : x38_2 < ((rd_L66 t102 (rd x5_1 0)).length : Int)
                ·rw [if_pos c26] at H
                 have c26b0 : decide (x38_2 < ((rd_L66 t102 (rd x5_1 0)).length : Int)) = true := decide_eq_true c26
                 clear c26
                 by_cases c27 : ((rd_T66 (rd_L66 t102 (rd x5_1 0)) x38_2).f1) = 0
                 ·rw [if_pos c27] at H
                  have c27b0 : (((rd_T66 (rd_L66 t102 (rd x5_1 0)) x38_2).f1) == 0) = true := beq_iff_eq.mpr c27
                  have c27b1 : (((rd_T66 (rd_L66 t102 (rd x5_1 0)) x38_2).f1) != 0) = false := bne_eq_false_iff_eq.mpr c27
                  clear c27
                  have H' := Aside0.mk H
                  clear H
                  have p117 : 0 ≤ (x38_2 : Int) := tD
                  have q117 : x38_2 < ((rd_L66 t102 (rd x5_1 0)).length : Int) := tD
                  obtain ⟨ad117, e117, hx117_0, hx117_1⟩ := at_T66 HR116_0.out x38_2 p117 q117
                  cases e117
                  replace hx117_0 := (HB.out.cell (World.block_lt_of_cell? w _ hx117_0)).trans hx117_0
                  replace hx117_1 := (HB.out.cell (World.block_lt_of_cell? w _ hx117_1)).trans hx117_1
                  replace p117 := eq_true p117
                  replace q117 := eq_true q117
                  go_wp2_with (first | ((with_reducible refine gate_dst (N := 9) rfl ?_); refine box_event ?hg (N := 9) ?hd (cs := #[.int .i64 0, .int .i64 0]) (t := 66) ?hr ?_; (case hd => rfl); (case hg => rfl); (case hr => first | (go_simp; done) | (go_simp; rfl)); intro gb118 hg w28 hbox hb; have n0_ := Aside0.mk (Kd.R_below (tR HO_4) hb); have n1_ := Aside0.mk (Kd.Q_below (tR HO_5) hb); have n2_ := Aside0.mk (blk_below (g := gb101) (o := .cells #[.slice A0_0 l0_0.length c0_0, .slice A0_1 l0_1.length c0_1, .bool a0_2] 25 (0, 0)) (tK BK101) hb); have n3_ := Aside0.mk (below_step (tB) hb); have n4_ := Aside0.mk (hbox); have n5_ := Aside0.mk ((by rw [hg]; exact (below_size (tB)) : w.heap.size ≤ gb118)); have n6_ := Aside0.mk ((by rw [hg]; exact (below_size (tB)) : w.heap.size ≤ gb118)); have n7_ := Aside0.mk ((by rw [hg]; exact Nat.ne_of_lt (blk_lt (g := gb101) (o := .cells #[.slice A0_0 l0_0.length c0_0, .slice A0_1 l0_1.length c0_1, .bool a0_2] 25 (0, 0)) (tK BK101)) : gb101 ≠ gb118)); have n8_ := Aside0.mk ((by rw [hg]; exact Nat.ne_of_gt (blk_lt (g := gb101) (o := .cells #[.slice A0_0 l0_0.length c0_0, .slice A0_1 l0_1.length c0_1, .bool a0_2] 25 (0, 0)) (tK BK101)) : gb118 ≠ gb101)); clear HO_4; clear HO_5; clear BK101; clear HB; have HO_4 := n0_; have HO_5 := n1_; have BK101 := n2_; have HB := n3_; have BK118 := n4_; have GW118 := n5_; have GE118 := n6_; have NB101_118 := n7_; have NB118_101 := n8_; clear n0_ n1_ n2_ n3_ n4_ n5_ n6_ n7_ n8_; clear hb hbox hg; have hnb29 := NB118_101.out; have hnc29 := NB101_118.out; have hcz30_0 : w28.cell? ⟨gb118, 0, none⟩ = some (.int .i64 0) := (blk_cell BK118.out 0).trans rfl; have hcz30_1 : w28.cell? ⟨gb118, 1, none⟩ = some (.int .i64 0) := (blk_cell BK118.out 1).trans rfl; have hfz30_0 := blk_frozen BK118.out 0; have hfz30_1 := blk_frozen BK118.out 1))
                  (try simp only [← hl4_2])
                  (try rw [show (⟨go36, (rd x5_1 0).toNat, none⟩ : Addr) = (⟨go36, 0, none⟩ : Addr).add (rd x5_1 0).toNat from (add_plain _ _).symm])
                  go_roundg k2
                  case measure => have := HK1.out; have := HK2.out; omega
                  case rel => exact ⟨(x4_2), (x5_2), (wrap64 (x38_2 + 1)), (by first | rfl | (simp; done) | (simp [*]; done)), H', ⟨by have := HK1.out; have := HK2.out; omega⟩, ⟨by (try simp only [hl4_2]); (with_reducible repeat (first | apply Kd.R_alloc | apply Kd.R_drewN | apply Kd.R_drew)); exact Kd.R_mono (Kd.R_far (p := ⟨gb118, 1, none⟩) (Kd.R_far (p := ⟨gb118, 0, none⟩) (Kd.R_types HO_4.out BK118.out (by decide)) (fun _ hk => hk.2) (.int .i64 ((rd_T66 (rd_L66 t102 (rd x5_1 0)) x38_2).f0))) (fun _ hk => hk.2) (.int .i64 ((rd_T66 (rd_L66 t102 (rd x5_1 0)) x38_2).f1))) (fun _ hk => hk.1)⟩, ⟨by (try simp only [hl4_2]); (with_reducible repeat (first | apply Kd.Q_alloc | apply Kd.Q_drewN | apply Kd.Q_drew)); exact Kd.Q_mono (Kd.Q_far (p := ⟨gb118, 1, none⟩) (Kd.Q_far (p := ⟨gb118, 0, none⟩) (Kd.Q_types HO_5.out BK118.out (by decide)) (fun _ hk => hk.2) (.int .i64 ((rd_T66 (rd_L66 t102 (rd x5_1 0)) x38_2).f0))) (fun _ hk => hk.2) (.int .i64 ((rd_T66 (rd_L66 t102 (rd x5_1 0)) x38_2).f1))) (fun _ hk => hk.1)⟩, ⟨by (try simp only [hl4_2]); (with_reducible repeat (first | refine blk_drewN ?_ _ | refine blk_drew ?_ | refine blk_alloc ?_ _)); refine blk_far ?_ NB101_118.out _; (with_reducible repeat (first | refine blk_drewN ?_ _ | refine blk_drew ?_ | refine blk_alloc ?_ _)); refine blk_far ?_ NB101_118.out _; (with_reducible repeat (first | refine blk_drewN ?_ _ | refine blk_drew ?_ | refine blk_alloc ?_ _)); exact BK101.out⟩, ⟨tB⟩⟩
                 ·rw [if_neg c27] at H
                  have c27b0 : (((rd_T66 (rd_L66 t102 (rd x5_1 0)) x38_2).f1) == 0) = false := beq_eq_false_iff_ne.mpr c27
                  have c27b1 : (((rd_T66 (rd_L66 t102 (rd x5_1 0)) x38_2).f1) != 0) = true := bne_iff_ne.mpr c27
                  by_cases c31 : 0 ≤ ((rd_T66 (rd_L66 t102 (rd x5_1 0)) x38_2).f1)
                  ·rw [if_pos c31] at H
                   have c31b0 : decide (0 ≤ ((rd_T66 (rd_L66 t102 (rd x5_1 0)) x38_2).f1)) = true := decide_eq_true c31
                   clear c31
                   by_cases c32 : ((rd_T66 (rd_L66 t102 (rd x5_1 0)) x38_2).f1) < (x4_2.length : Int)
                   ·rw [if_pos c32] at H
                    have c32b0 : decide (((rd_T66 (rd_L66 t102 (rd x5_1 0)) x38_2).f1) < (x4_2.length : Int)) = true := decide_eq_true c32
                    clear c32
                    by_cases c33 : (rd x4_2 ((rd_T66 (rd_L66 t102 (rd x5_1 0)) x38_2).f1)) = 0
                    ·rw [if_pos c33] at H
                     have c33b0 : ((rd x4_2 ((rd_T66 (rd_L66 t102 (rd x5_1 0)) x38_2).f1)) == 0) = true := beq_iff_eq.mpr c33
                     have c33b1 : ((rd x4_2 ((rd_T66 (rd_L66 t102 (rd x5_1 0)) x38_2).f1)) != 0) = false := bne_eq_false_iff_eq.mpr c33
                     clear c33
                     by_cases c34 : 0 ≤ (rd x5_1 0)
                     ·rw [if_pos c34] at H
                      have c34b0 : decide (0 ≤ (rd x5_1 0)) = true := decide_eq_true c34
                      clear c34
                      by_cases c35 : (rd x5_1 0) < (x4_2.length : Int)
                      ·rw [if_pos c35] at H
                       have c35b0 : decide ((rd x5_1 0) < (x4_2.length : Int)) = true := decide_eq_true c35
                       clear c35
                       obtain ⟨y121, hy121⟩ : ∃ y_ : List Int, y_ = (x4_2.set (((rd_T66 (rd_L66 t102 (rd x5_1 0)) x38_2).f1) : Int).toNat (wrap64 ((rd x4_2 (rd x5_1 0)) + 1))) := ⟨_, rfl⟩
                       replace H : (if x5_2.length < 17592186044416 then (witness_Diameter.l1 k2 t102 y121 (x5_2 ++ [(rd_T66 (rd_L66 t102 (rd x5_1 0)) x38_2).f1]) ji19 (rd x5_1 0) (rd_L66 t102 (rd x5_1 0)) ((rd_L66 t102 (rd x5_1 0)).length : Int) (wrap64 (x38_2 + 1))) else (none)) = some r := by first | (rw [hy121]; with_reducible exact H) | (have H2_ := (Option.bind_some _ _).symm.trans H; rw [hy121]; with_reducible exact H2_) | (have H2_ := (Option.bind_some _ _).symm.trans H; with_reducible exact H2_) | with_reducible exact H | (rw [hy121]; exact H) | exact H
                       have Ny121 := Aside0.mk hy121
                       clear hy121
                       by_cases c37 : x5_2.length < 17592186044416
                       ·rw [if_pos c37] at H
                        have LMc37 := Aside0.mk c37
                        clear c37
                        obtain ⟨y122, hy122⟩ : ∃ y_ : List Int, y_ = (x5_2 ++ [(rd_T66 (rd_L66 t102 (rd x5_1 0)) x38_2).f1]) := ⟨_, rfl⟩
                        replace H : (witness_Diameter.l1 k2 t102 y121 y122 ji19 (rd x5_1 0) (rd_L66 t102 (rd x5_1 0)) ((rd_L66 t102 (rd x5_1 0)).length : Int) (wrap64 (x38_2 + 1))) = some r := by first | (rw [hy122]; with_reducible exact H) | (have H2_ := (Option.bind_some _ _).symm.trans H; rw [hy122]; with_reducible exact H2_) | (have H2_ := (Option.bind_some _ _).symm.trans H; with_reducible exact H2_) | with_reducible exact H | (rw [hy122]; exact H) | exact H
                        have Ny122 := Aside0.mk hy122
                        clear hy122
                        have H' := Aside0.mk H
                        clear H
                        have p117 : 0 ≤ (x38_2 : Int) := tD
                        have q117 : x38_2 < ((rd_L66 t102 (rd x5_1 0)).length : Int) := tD
                        obtain ⟨ad117, e117, hx117_0, hx117_1⟩ := at_T66 HR116_0.out x38_2 p117 q117
                        cases e117
                        replace hx117_0 := (HB.out.cell (World.block_lt_of_cell? w _ hx117_0)).trans hx117_0
                        replace hx117_1 := (HB.out.cell (World.block_lt_of_cell? w _ hx117_1)).trans hx117_1
                        replace p117 := eq_true p117
                        replace q117 := eq_true q117
                        try go_wp2_with (first | ((with_reducible refine gate_dst (N := 9) rfl ?_); refine box_event ?hg (N := 9) ?hd (cs := #[.int .i64 0, .int .i64 0]) (t := 66) ?hr ?_; (case hd => rfl); (case hg => rfl); (case hr => first | (go_simp; done) | (go_simp; rfl)); intro gb118 hg w38 hbox hb; have n0_ := Aside0.mk (Kd.R_below (tR HO_4) hb); have n1_ := Aside0.mk (Kd.Q_below (tR HO_5) hb); have n2_ := Aside0.mk (blk_below (g := gb101) (o := .cells #[.slice A0_0 l0_0.length c0_0, .slice A0_1 l0_1.length c0_1, .bool a0_2] 25 (0, 0)) (tK BK101) hb); have n3_ := Aside0.mk (below_step (tB) hb); have n4_ := Aside0.mk (hbox); have n5_ := Aside0.mk ((by rw [hg]; exact (below_size (tB)) : w.heap.size ≤ gb118)); have n6_ := Aside0.mk ((by rw [hg]; exact (below_size (tB)) : w.heap.size ≤ gb118)); have n7_ := Aside0.mk ((by rw [hg]; exact Nat.ne_of_lt (blk_lt (g := gb101) (o := .cells #[.slice A0_0 l0_0.length c0_0, .slice A0_1 l0_1.length c0_1, .bool a0_2] 25 (0, 0)) (tK BK101)) : gb101 ≠ gb118)); have n8_ := Aside0.mk ((by rw [hg]; exact Nat.ne_of_gt (blk_lt (g := gb101) (o := .cells #[.slice A0_0 l0_0.length c0_0, .slice A0_1 l0_1.length c0_1, .bool a0_2] 25 (0, 0)) (tK BK101)) : gb118 ≠ gb101)); clear HO_4; clear HO_5; clear BK101; clear HB; have HO_4 := n0_; have HO_5 := n1_; have BK101 := n2_; have HB := n3_; have BK118 := n4_; have GW118 := n5_; have GE118 := n6_; have NB101_118 := n7_; have NB118_101 := n8_; clear n0_ n1_ n2_ n3_ n4_ n5_ n6_ n7_ n8_; clear hb hbox hg; have hnb39 := NB118_101.out; have hnc39 := NB101_118.out; have hcz40_0 : w38.cell? ⟨gb118, 0, none⟩ = some (.int .i64 0) := (blk_cell BK118.out 0).trans rfl; have hcz40_1 : w38.cell? ⟨gb118, 1, none⟩ = some (.int .i64 0) := (blk_cell BK118.out 1).trans rfl; have hfz40_0 := blk_frozen BK118.out 0; have hfz40_1 := blk_frozen BK118.out 1; have p119 : 0 ≤ (((rd_T66 (rd_L66 t102 (rd x5_1 0)) x38_2).f1) : Int) := tD; have q119 : ((rd_T66 (rd_L66 t102 (rd x5_1 0)) x38_2).f1) < (x4_2.length : Int) := tD; obtain ⟨ad119, e119, hx119_0⟩ := Kd.at_int (Kd.R_reads' HO_4.out).2.2 ((rd_T66 (rd_L66 t102 (rd x5_1 0)) x38_2).f1) p119 q119; obtain rfl : ad115 = ad119 := (by injection e119); have hn119_0 : ad115.block ≠ gb118 := Kd.own_blk (Kd.R_ne HO_4.out BK118.out (by decide)); have hn119_1 : ad115.block ≠ gb118 := Kd.own_blk (Kd.R_ne HO_4.out BK118.out (by decide)); replace hx119_0 := (cell_far (p := ⟨gb118, 0, none⟩) (by first | (rw [add_block]; exact hn119_0) | (show (Addr.add _ _).block ≠ _; rw [add_block]; exact hn119_0) | exact hn119_0) (.int .i64 ((rd_T66 (rd_L66 t102 (rd x5_1 0)) x38_2).f0))).trans hx119_0; replace hx119_0 := (cell_far (p := ⟨gb118, 1, none⟩) (by first | (rw [add_block]; exact hn119_1) | (show (Addr.add _ _).block ≠ _; rw [add_block]; exact hn119_1) | exact hn119_1) (.int .i64 ((rd_T66 (rd_L66 t102 (rd x5_1 0)) x38_2).f1))).trans hx119_0; clear hn119_0; clear hn119_1; replace p119 := eq_true p119; replace q119 := eq_true q119))
                        have n0_ : Aside0 (Kd.R (Kd.int .i64) 3 ((w38.setCell ⟨gb118, 0, none⟩ (.int .i64 ((rd_T66 (rd_L66 t102 (rd x5_1 0)) x38_2).f0))).setCell ⟨gb118, 1, none⟩ (.int .i64 ((rd_T66 (rd_L66 t102 (rd x5_1 0)) x38_2).f1))) w.heap.size (fun k_ => some k_ ≠ (u5 : Value).ownBlock) (.slice (some ad115) x4_2.length co23) x4_2) := ⟨by (with_reducible repeat (first | apply Kd.R_alloc | apply Kd.R_drewN | apply Kd.R_drew)); exact Kd.R_mono (Kd.R_far (p := ⟨gb118, 1, none⟩) (Kd.R_far (p := ⟨gb118, 0, none⟩) (Kd.R_types HO_4.out BK118.out (by decide)) (fun _ hk => hk.2) (.int .i64 ((rd_T66 (rd_L66 t102 (rd x5_1 0)) x38_2).f0))) (fun _ hk => hk.2) (.int .i64 ((rd_T66 (rd_L66 t102 (rd x5_1 0)) x38_2).f1))) (fun _ hk => hk.1)⟩
                        have n1_ : Aside0 (Kd.Q (Kd.int .i64) 3 ((w38.setCell ⟨gb118, 0, none⟩ (.int .i64 ((rd_T66 (rd_L66 t102 (rd x5_1 0)) x38_2).f0))).setCell ⟨gb118, 1, none⟩ (.int .i64 ((rd_T66 (rd_L66 t102 (rd x5_1 0)) x38_2).f1))) w.heap.size (fun k_ => some k_ ≠ (.slice (some ad115) x4_2.length co23 : Value).ownBlock) u5 x5_2) := ⟨by (with_reducible repeat (first | apply Kd.Q_alloc | apply Kd.Q_drewN | apply Kd.Q_drew)); exact Kd.Q_mono (Kd.Q_far (p := ⟨gb118, 1, none⟩) (Kd.Q_far (p := ⟨gb118, 0, none⟩) (Kd.Q_types HO_5.out BK118.out (by decide)) (fun _ hk => hk.2) (.int .i64 ((rd_T66 (rd_L66 t102 (rd x5_1 0)) x38_2).f0))) (fun _ hk => hk.2) (.int .i64 ((rd_T66 (rd_L66 t102 (rd x5_1 0)) x38_2).f1))) (fun _ hk => hk.1)⟩
                        have n2_ : Aside0 (((w38.setCell ⟨gb118, 0, none⟩ (.int .i64 ((rd_T66 (rd_L66 t102 (rd x5_1 0)) x38_2).f0))).setCell ⟨gb118, 1, none⟩ (.int .i64 ((rd_T66 (rd_L66 t102 (rd x5_1 0)) x38_2).f1))).heap[gb101]? = some (.cells #[.slice A0_0 l0_0.length c0_0, .slice A0_1 l0_1.length c0_1, .bool a0_2] 25 (0, 0))) := ⟨by (with_reducible repeat (first | refine blk_drewN ?_ _ | refine blk_drew ?_ | refine blk_alloc ?_ _)); refine blk_far ?_ NB101_118.out _; (with_reducible repeat (first | refine blk_drewN ?_ _ | refine blk_drew ?_ | refine blk_alloc ?_ _)); refine blk_far ?_ NB101_118.out _; (with_reducible repeat (first | refine blk_drewN ?_ _ | refine blk_drew ?_ | refine blk_alloc ?_ _)); exact BK101.out⟩
                        have n3_ : Aside0 (((w38.setCell ⟨gb118, 0, none⟩ (.int .i64 ((rd_T66 (rd_L66 t102 (rd x5_1 0)) x38_2).f0))).setCell ⟨gb118, 1, none⟩ (.int .i64 ((rd_T66 (rd_L66 t102 (rd x5_1 0)) x38_2).f1))).heap[gb118]? = some (.cells #[.int .i64 ((rd_T66 (rd_L66 t102 (rd x5_1 0)) x38_2).f0), .int .i64 ((rd_T66 (rd_L66 t102 (rd x5_1 0)) x38_2).f1)] 66 (0, 0))) := ⟨by (with_reducible repeat (first | refine blk_drewN ?_ _ | refine blk_drew ?_ | refine blk_alloc ?_ _)); refine blk_put (cs := #[.int .i64 ((rd_T66 (rd_L66 t102 (rd x5_1 0)) x38_2).f0), .int .i64 0]) ?_ 1 _ rfl; (with_reducible repeat (first | refine blk_drewN ?_ _ | refine blk_drew ?_ | refine blk_alloc ?_ _)); refine blk_put (cs := #[.int .i64 0, .int .i64 0]) ?_ 0 _ rfl; (with_reducible repeat (first | refine blk_drewN ?_ _ | refine blk_drew ?_ | refine blk_alloc ?_ _)); exact BK118.out⟩
                        have n4_ : Aside0 (Below w.heap.size w ((w38.setCell ⟨gb118, 0, none⟩ (.int .i64 ((rd_T66 (rd_L66 t102 (rd x5_1 0)) x38_2).f0))).setCell ⟨gb118, 1, none⟩ (.int .i64 ((rd_T66 (rd_L66 t102 (rd x5_1 0)) x38_2).f1)))) := ⟨tB⟩
                        (try clear HO_4)
                        (try clear HO_5)
                        (try clear BK101)
                        (try clear BK118)
                        (try clear HB)
                        generalize ((w38.setCell ⟨gb118, 0, none⟩ (.int .i64 ((rd_T66 (rd_L66 t102 (rd x5_1 0)) x38_2).f0))).setCell ⟨gb118, 1, none⟩ (.int .i64 ((rd_T66 (rd_L66 t102 (rd x5_1 0)) x38_2).f1))) = w41 at n0_ n1_ n2_ n3_ n4_ ⊢
                        have HO_4 := n0_
                        have HO_5 := n1_
                        have BK101 := n2_
                        have BK118 := n3_
                        have HB := n4_
                        clear n0_ n1_ n2_ n3_ n4_
                        have n0_ := Aside0.mk (Kd.R_drew HO_4.out)
                        have n1_ := Aside0.mk (Kd.Q_drew HO_5.out)
                        have n2_ := Aside0.mk (blk_drew BK101.out)
                        have n3_ := Aside0.mk (blk_drew BK118.out)
                        have n4_ := Aside0.mk (below_drew1 HB.out)
                        clear HO_4
                        clear HO_5
                        clear BK101
                        clear BK118
                        clear HB
                        have HO_4 := n0_
                        have HO_5 := n1_
                        have BK101 := n2_
                        have BK118 := n3_
                        have HB := n4_
                        clear n0_ n1_ n2_ n3_ n4_
                        have p120 : 0 ≤ ((rd x5_1 0) : Int) := tD
                        have q120 : (rd x5_1 0) < (x4_2.length : Int) := tD
                        obtain ⟨ad120, e120, hx120_0⟩ := Kd.at_int (Kd.R_reads' HO_4.out).2.2 (rd x5_1 0) p120 q120
                        obtain rfl : ad115 = ad120 := (by injection e120)
                        replace p120 := eq_true p120
                        replace q120 := eq_true q120
                        have p36 : 0 ≤ (((rd_T66 (rd_L66 t102 (rd x5_1 0)) x38_2).f1) : Int) := tD
                        have q36 : (((rd_T66 (rd_L66 t102 (rd x5_1 0)) x38_2).f1) : Int) < ((x4_2.length : Int) : Int) := tD
                        obtain ⟨go36, co36, eo36, gb36, gl36, cl36, HG36⟩ := Kd.R_form HO_4.out (by omega)
                        (first | cases eo36 | (injection eo36 with ea_ en_ ec_; (first | subst ea_ | (injection ea_ with ea_; subst ea_)); subst ec_; clear en_))
                        have GB36 := Aside0.mk gb36
                        have GG36 := Aside0.mk HG36
                        clear gb36 gl36 HG36
                        (first | simp only [add_plain] at hx115_0 | skip)
                        (first | simp only [add_plain] at hx119_0 | skip)
                        (first | simp only [add_plain] at hx120_0 | skip)
                        obtain ⟨hx36_0, hf36_0⟩ := Kd.R_celln 0 HO_4.out (((rd_T66 (rd_L66 t102 (rd x5_1 0)) x38_2).f1) : Int) p36 q36
                        replace p36 := eq_true p36
                        replace q36 := eq_true q36
                        have HP43 := Kd.R_putn HO_4.out (((rd_T66 (rd_L66 t102 (rd x5_1 0)) x38_2).f1) : Int) (wrap64 ((rd x4_2 (rd x5_1 0)) + 1))
                        rw [← Ny121.out] at HP43
                        have HQ43 := Aside0.mk HP43
                        clear HP43
                        refine start_ (n := 10) (S := fun w' => w'.cell? ⟨gb118, 0, none⟩ = some (.int .i64 ((rd_T66 (rd_L66 t102 (rd x5_1 0)) x38_2).f0)) ∧ w'.cell? ⟨gb118, 1, none⟩ = some (.int .i64 ((rd_T66 (rd_L66 t102 (rd x5_1 0)) x38_2).f1)) ∧ w'.cell? ⟨go36, ((rd x5_1 0)).toNat, none⟩ = some (.int .i64 (rd x4_2 (rd x5_1 0)))) (ds := [9]) #[false, false, false, false, false, false, false, false, false, false] (by kernel_rfl) rfl rfl ⟨(blk_cell BK118.out 0).trans rfl, (blk_cell BK118.out 1).trans rfl, hx120_0⟩ (fun hHeld => ?_); refine with_tabW witness_Diameter.tab15 witness_Diameter.bits15 (fun HT_ HW_ => ?_)
                        generalize w41.drew = w42 at HO_4 HO_5 BK101 BK118 HB GG36 HQ43 hf36_0 hx119_0 hx120_0 hx36_0 hHeld ⊢
                        refine pure_ (i := 0) (N := some 53) (v := ?_) (a' := ?_) #[true, false, false, false, false, false, false, false, false, false] rfl rfl (any_of HT_.out (by kernel_rfl)) (fun _ _ _ h => h) (Or.inl ⟨by rfl, ?_⟩) ?_ ?_
                        rotate_left
                        ·intro w'
                         go_simp
                         with_reducible rfl
                        rotate_left
                        ·simp only [tS, i64_w, i32_w]
                         rfl
                        refine pure_ (i := 1) (N := some 54) (v := ?_) (a' := ?_) #[true, true, false, false, false, false, false, false, false, false] rfl rfl (any_of HT_.out (by kernel_rfl)) (fun _ _ _ h => h) (Or.inl ⟨by rfl, ?_⟩) ?_ ?_
                        rotate_left
                        ·intro w'
                         go_simp
                         with_reducible rfl
                        rotate_left
                        ·simp only [tS, i64_w, i32_w]
                         rfl
                        refine pure_ (i := 3) (N := some 56) (v := ?_) (a' := ?_) #[true, true, false, true, false, false, false, false, false, false] rfl rfl (any_of HT_.out (by kernel_rfl)) (fun _ _ _ h => h) (Or.inl ⟨by rfl, ?_⟩) ?_ ?_
                        rotate_left
                        ·intro w'
                         go_simp
                         with_reducible rfl
                        rotate_left
                        ·simp only [tS, i64_w, i32_w]
                         rfl
                        refine pure_ (i := 4) (N := some 57) (v := ?_) (a' := ?_) #[true, true, false, true, true, false, false, false, false, false] rfl rfl (any_of HT_.out (by kernel_rfl)) (fun _ _ _ h => h) (Or.inl ⟨by rfl, ?_⟩) ?_ ?_
                        rotate_left
                        ·intro w'
                         go_simp
                         with_reducible rfl
                        rotate_left
                        ·simp only [tS, i64_w, i32_w]
                         rfl
                        refine pure_ (i := 5) (N := some 58) (v := ?_) (a' := ?_) #[true, true, false, true, true, true, false, false, false, false] rfl rfl (any_of HT_.out (by kernel_rfl)) (fun _ _ _ h => h) (Or.inl ⟨by rfl, ?_⟩) ?_ ?_
                        rotate_left
                        ·intro w'
                         go_simp
                         with_reducible rfl
                        rotate_left
                        ·simp only [tS, i64_w, i32_w]
                         rfl
                        refine take_ (i := 2) (N := some 55) (v := ?_) (a' := ?_) #[true, true, true, true, true, true, false, false, false, false] rfl rfl (take_ofW HT_.out HW_.out (by kernel_rfl)) (fun _ _ _ h => h) (Or.inl ⟨by rfl, ?_⟩) hHeld ?_ ?_
                        rotate_left
                        ·rintro w' ⟨s0, s1, s2⟩
                         go_simp
                         with_reducible rfl
                        rotate_left
                        ·simp only [tS, i64_w, i32_w]
                         rfl
                        refine take_ (i := 6) (N := some 59) (v := ?_) (a' := ?_) #[true, true, true, true, true, true, true, false, false, false] rfl rfl (take_ofW HT_.out HW_.out (by kernel_rfl)) (fun _ _ _ h => h) (Or.inl ⟨by rfl, ?_⟩) hHeld ?_ ?_
                        rotate_left
                        ·rintro w' ⟨s0, s1, s2⟩
                         go_simp
                         with_reducible rfl
                        rotate_left
                        ·simp only [tS, i64_w, i32_w]
                         rfl
                        refine pure_ (i := 7) (N := some 60) (v := ?_) (a' := ?_) #[true, true, true, true, true, true, true, true, false, false] rfl rfl (any_of HT_.out (by kernel_rfl)) (fun _ _ _ h => h) (Or.inl ⟨by rfl, ?_⟩) ?_ ?_
                        rotate_left
                        ·intro w'
                         go_simp
                         with_reducible rfl
                        rotate_left
                        ·simp only [tS, i64_w, i32_w]
                         rfl
                        refine pure_ (i := 8) (N := some 61) (v := ?_) (a' := ?_) #[true, true, true, true, true, true, true, true, true, false] rfl rfl (any_of HT_.out (by kernel_rfl)) (fun _ _ _ h => h) (Or.inl ⟨by rfl, ?_⟩) ?_ ?_
                        rotate_left
                        ·intro w'
                         go_simp
                         with_reducible rfl
                        rotate_left
                        ·simp only [tS, i64_w, i32_w]
                         rfl
                        refine last_ (i := 9) (N := none) #[true, true, true, true, true, true, true, true, true, true] rfl rfl (one_of HT_.out (by kernel_rfl)) (by decide) (fun K hK => ?_)
                        refine skip_ (w1 := ?_) (by rfl) rfl ?_ ?_
                        rotate_left
                        ·go_simp
                         rfl
                        refine hK.out _ _ ?_
                        clear hK K
                        refine done_ (done_of HT_.out (by kernel_rfl)) ?_
                        have hcz44_0 : w42.cell? ⟨gb118, 0, none⟩ = some (.int .i64 ((rd_T66 (rd_L66 t102 (rd x5_1 0)) x38_2).f0)) := (blk_cell BK118.out 0).trans rfl
                        have hcz44_1 : w42.cell? ⟨gb118, 1, none⟩ = some (.int .i64 ((rd_T66 (rd_L66 t102 (rd x5_1 0)) x38_2).f1)) := (blk_cell BK118.out 1).trans rfl
                        have hfz44_0 := blk_frozen BK118.out 0
                        have hfz44_1 := blk_frozen BK118.out 1
                        have hnbx_ : go36 ≠ gb118 := by have h_ := Kd.R_ne HO_4.out BK118.out (by decide); intro e_; exact h_ (by rw [e_]; rfl)
                        have hnby_ : gb118 ≠ go36 := fun e_ => hnbx_ e_.symm
                        try go_wp2_with (first | ((with_reducible refine gate_builtin (b := .append) (xs := #[.tmp 62, .tmp 65]) rfl ?_); at_builtin; refine Kd.Q_append (Kd.int .i64) (w0 := w) w.heap.size rfl (.tmp 62) (.tmp 65) 28 3 (.int .i64 0) 8 rfl Try.underlying28 info3 rfl (by decide) (by omega) u5 x5_2 ((rd_T66 (rd_L66 t102 (rd x5_1 0)) x38_2).f1) [.int .i64 ((rd_T66 (rd_L66 t102 (rd x5_1 0)) x38_2).f1)] (fun k_ => some k_ ≠ (.slice (some ⟨go36, 0, none⟩) x4_2.length co23 : Value).ownBlock) (fun _ => False) rfl (by first | (go_simp; done) | (go_simp; rfl)) ?aP (fun _ hk => hk.elim) ?aF ?aO ?aB ?aS ?aL ?_; (case aP => exact rfl); (case aB => exact (by repeat (first | (with_reducible first | exact HB.out | apply below_alloc | apply pw_below_drewN | apply below_drew1 | refine below_set ?_ GB36.out | refine below_set ?_ GE101.out | refine below_set ?_ GE118.out) | exact HB.out))); (case aF => exact (fun k_ hk => Kd.fresh' (Kd.R_lt (tR HQ43)) k_ hk)); (case aO => exact (by (with_reducible repeat (first | apply Kd.Q_alloc | apply Kd.Q_drewN | apply Kd.Q_drew)); exact Kd.Q_mono (Kd.Q_far (p := ⟨go36, (((rd_T66 (rd_L66 t102 (rd x5_1 0)) x38_2).f1) : Int).toNat, none⟩) (Kd.Q_mono HO_5.out (fun k_ hk => (⟨hk, fun e_ => hk (by rw [e_]; rfl)⟩ : _ ∧ k_ ≠ go36))) (fun _ hk => hk.2) (.int .i64 (wrap64 ((rd x4_2 (rd x5_1 0)) + 1)))) (fun _ hk => hk.1))); (case aS => exact (below_size (by repeat (first | (with_reducible first | exact HB.out | apply below_alloc | apply pw_below_drewN | apply below_drew1 | refine below_set ?_ GB36.out | refine below_set ?_ GE101.out | refine below_set ?_ GE118.out) | exact HB.out)))); (case aL => have := LMc37.out; omega); intro v123 w45 ho hb hg hat; rw [← Ny122.out] at ho; have n0_ := Aside0.mk (Kd.R_after (ok := (fun _ => True)) (by (with_reducible repeat (first | apply Kd.R_alloc | apply Kd.R_drewN | apply Kd.R_drew)); exact Kd.R_mono HQ43.out (fun _ hk => ⟨trivial, hk⟩)) hg hat); have n1_ := Aside0.mk (blk_grown (g := gb101) (o := .cells #[.slice A0_0 l0_0.length c0_0, .slice A0_1 l0_1.length c0_1, .bool a0_2] 25 (0, 0)) (by (with_reducible repeat (first | refine blk_drewN ?_ _ | refine blk_drew ?_ | refine blk_alloc ?_ _)); refine blk_far ?_ (by have h_ := Kd.R_ne HO_4.out BK101.out (by decide); intro e_; exact h_ (by rw [e_]; rfl)) _; (with_reducible repeat (first | refine blk_drewN ?_ _ | refine blk_drew ?_ | refine blk_alloc ?_ _)); exact BK101.out) hg (Kd.Q_ne HO_5.out BK101.out (by decide))); have n2_ := Aside0.mk (blk_grown (g := gb118) (o := .cells #[.int .i64 ((rd_T66 (rd_L66 t102 (rd x5_1 0)) x38_2).f0), .int .i64 ((rd_T66 (rd_L66 t102 (rd x5_1 0)) x38_2).f1)] 66 (0, 0)) (by (with_reducible repeat (first | refine blk_drewN ?_ _ | refine blk_drew ?_ | refine blk_alloc ?_ _)); refine blk_far ?_ (by have h_ := Kd.R_ne HO_4.out BK118.out (by decide); intro e_; exact h_ (by rw [e_]; rfl)) _; (with_reducible repeat (first | refine blk_drewN ?_ _ | refine blk_drew ?_ | refine blk_alloc ?_ _)); exact BK118.out) hg (Kd.Q_ne HO_5.out BK118.out (by decide))); have n3_ := Aside0.mk (hb); have n4_ := Aside0.mk (ho); clear HO_4; clear BK101; clear BK118; clear HB; clear HO_5; have HO_4 := n0_; have BK101 := n1_; have BK118 := n2_; have HB := n3_; have HO124 := n4_; clear n0_ n1_ n2_ n3_ n4_; clear ho hb hg hat))
                        (try simp only [← hl4_2])
                        (try rw [show (⟨go36, (rd x5_1 0).toNat, none⟩ : Addr) = (⟨go36, 0, none⟩ : Addr).add (rd x5_1 0).toNat from (add_plain _ _).symm])
                        go_roundg k2
                        case measure => have := HK1.out; have := HK2.out; omega
                        case rel => exact ⟨(y121), (y122), (wrap64 (x38_2 + 1)), (by first | rfl | (simp; done) | (simp [*]; done)), H', ⟨by have := HK1.out; have := HK2.out; omega⟩, ⟨by (try simp only [hl4_2]); (with_reducible repeat (first | apply Kd.R_alloc | apply Kd.R_drewN | apply Kd.R_drew)); exact Kd.R_mono HO_4.out (fun _ hk => hk.2)⟩, ⟨by (try simp only [hl4_2]); (with_reducible repeat (first | apply Kd.Q_alloc | apply Kd.Q_drewN | apply Kd.Q_drew)); exact HO124.out⟩, ⟨by (try simp only [hl4_2]); (with_reducible repeat (first | refine blk_drewN ?_ _ | refine blk_drew ?_ | refine blk_alloc ?_ _)); exact BK101.out⟩, ⟨tB⟩⟩
                       ·rw [if_neg c37] at H
                        exact absurd H (by simp)
                      ·rw [if_neg c35] at H
                       exact absurd H (by simp)
                     ·rw [if_neg c34] at H
                      exact absurd H (by simp)
                    ·rw [if_neg c33] at H
                     have c33b0 : ((rd x4_2 ((rd_T66 (rd_L66 t102 (rd x5_1 0)) x38_2).f1)) == 0) = false := beq_eq_false_iff_ne.mpr c33
                     have c33b1 : ((rd x4_2 ((rd_T66 (rd_L66 t102 (rd x5_1 0)) x38_2).f1)) != 0) = true := bne_iff_ne.mpr c33
                     have H' := Aside0.mk H
                     clear H
                     have p117 : 0 ≤ (x38_2 : Int) := tD
                     have q117 : x38_2 < ((rd_L66 t102 (rd x5_1 0)).length : Int) := tD
                     obtain ⟨ad117, e117, hx117_0, hx117_1⟩ := at_T66 HR116_0.out x38_2 p117 q117
                     cases e117
                     replace hx117_0 := (HB.out.cell (World.block_lt_of_cell? w _ hx117_0)).trans hx117_0
                     replace hx117_1 := (HB.out.cell (World.block_lt_of_cell? w _ hx117_1)).trans hx117_1
                     replace p117 := eq_true p117
                     replace q117 := eq_true q117
                     go_wp2_with (first | ((with_reducible refine gate_dst (N := 9) rfl ?_); refine box_event ?hg (N := 9) ?hd (cs := #[.int .i64 0, .int .i64 0]) (t := 66) ?hr ?_; (case hd => rfl); (case hg => rfl); (case hr => first | (go_simp; done) | (go_simp; rfl)); intro gb118 hg w46 hbox hb; have n0_ := Aside0.mk (Kd.R_below (tR HO_4) hb); have n1_ := Aside0.mk (Kd.Q_below (tR HO_5) hb); have n2_ := Aside0.mk (blk_below (g := gb101) (o := .cells #[.slice A0_0 l0_0.length c0_0, .slice A0_1 l0_1.length c0_1, .bool a0_2] 25 (0, 0)) (tK BK101) hb); have n3_ := Aside0.mk (below_step (tB) hb); have n4_ := Aside0.mk (hbox); have n5_ := Aside0.mk ((by rw [hg]; exact (below_size (tB)) : w.heap.size ≤ gb118)); have n6_ := Aside0.mk ((by rw [hg]; exact (below_size (tB)) : w.heap.size ≤ gb118)); have n7_ := Aside0.mk ((by rw [hg]; exact Nat.ne_of_lt (blk_lt (g := gb101) (o := .cells #[.slice A0_0 l0_0.length c0_0, .slice A0_1 l0_1.length c0_1, .bool a0_2] 25 (0, 0)) (tK BK101)) : gb101 ≠ gb118)); have n8_ := Aside0.mk ((by rw [hg]; exact Nat.ne_of_gt (blk_lt (g := gb101) (o := .cells #[.slice A0_0 l0_0.length c0_0, .slice A0_1 l0_1.length c0_1, .bool a0_2] 25 (0, 0)) (tK BK101)) : gb118 ≠ gb101)); clear HO_4; clear HO_5; clear BK101; clear HB; have HO_4 := n0_; have HO_5 := n1_; have BK101 := n2_; have HB := n3_; have BK118 := n4_; have GW118 := n5_; have GE118 := n6_; have NB101_118 := n7_; have NB118_101 := n8_; clear n0_ n1_ n2_ n3_ n4_ n5_ n6_ n7_ n8_; clear hb hbox hg; have hnb47 := NB118_101.out; have hnc47 := NB101_118.out; have hcz48_0 : w46.cell? ⟨gb118, 0, none⟩ = some (.int .i64 0) := (blk_cell BK118.out 0).trans rfl; have hcz48_1 : w46.cell? ⟨gb118, 1, none⟩ = some (.int .i64 0) := (blk_cell BK118.out 1).trans rfl; have hfz48_0 := blk_frozen BK118.out 0; have hfz48_1 := blk_frozen BK118.out 1; have p119 : 0 ≤ (((rd_T66 (rd_L66 t102 (rd x5_1 0)) x38_2).f1) : Int) := tD; have q119 : ((rd_T66 (rd_L66 t102 (rd x5_1 0)) x38_2).f1) < (x4_2.length : Int) := tD; obtain ⟨ad119, e119, hx119_0⟩ := Kd.at_int (Kd.R_reads' HO_4.out).2.2 ((rd_T66 (rd_L66 t102 (rd x5_1 0)) x38_2).f1) p119 q119; obtain rfl : ad115 = ad119 := (by injection e119); have hn119_0 : ad115.block ≠ gb118 := Kd.own_blk (Kd.R_ne HO_4.out BK118.out (by decide)); have hn119_1 : ad115.block ≠ gb118 := Kd.own_blk (Kd.R_ne HO_4.out BK118.out (by decide)); replace hx119_0 := (cell_far (p := ⟨gb118, 0, none⟩) (by first | (rw [add_block]; exact hn119_0) | (show (Addr.add _ _).block ≠ _; rw [add_block]; exact hn119_0) | exact hn119_0) (.int .i64 ((rd_T66 (rd_L66 t102 (rd x5_1 0)) x38_2).f0))).trans hx119_0; replace hx119_0 := (cell_far (p := ⟨gb118, 1, none⟩) (by first | (rw [add_block]; exact hn119_1) | (show (Addr.add _ _).block ≠ _; rw [add_block]; exact hn119_1) | exact hn119_1) (.int .i64 ((rd_T66 (rd_L66 t102 (rd x5_1 0)) x38_2).f1))).trans hx119_0; clear hn119_0; clear hn119_1; replace p119 := eq_true p119; replace q119 := eq_true q119))
                     (try simp only [← hl4_2])
                     (try rw [show (⟨go36, (rd x5_1 0).toNat, none⟩ : Addr) = (⟨go36, 0, none⟩ : Addr).add (rd x5_1 0).toNat from (add_plain _ _).symm])
                     go_roundg k2
                     case measure => have := HK1.out; have := HK2.out; omega
                     case rel => exact ⟨(x4_2), (x5_2), (wrap64 (x38_2 + 1)), (by first | rfl | (simp; done) | (simp [*]; done)), H', ⟨by have := HK1.out; have := HK2.out; omega⟩, ⟨by (try simp only [hl4_2]); (with_reducible repeat (first | apply Kd.R_alloc | apply Kd.R_drewN | apply Kd.R_drew)); exact Kd.R_mono (Kd.R_far (p := ⟨gb118, 1, none⟩) (Kd.R_far (p := ⟨gb118, 0, none⟩) (Kd.R_types HO_4.out BK118.out (by decide)) (fun _ hk => hk.2) (.int .i64 ((rd_T66 (rd_L66 t102 (rd x5_1 0)) x38_2).f0))) (fun _ hk => hk.2) (.int .i64 ((rd_T66 (rd_L66 t102 (rd x5_1 0)) x38_2).f1))) (fun _ hk => hk.1)⟩, ⟨by (try simp only [hl4_2]); (with_reducible repeat (first | apply Kd.Q_alloc | apply Kd.Q_drewN | apply Kd.Q_drew)); exact Kd.Q_mono (Kd.Q_far (p := ⟨gb118, 1, none⟩) (Kd.Q_far (p := ⟨gb118, 0, none⟩) (Kd.Q_types HO_5.out BK118.out (by decide)) (fun _ hk => hk.2) (.int .i64 ((rd_T66 (rd_L66 t102 (rd x5_1 0)) x38_2).f0))) (fun _ hk => hk.2) (.int .i64 ((rd_T66 (rd_L66 t102 (rd x5_1 0)) x38_2).f1))) (fun _ hk => hk.1)⟩, ⟨by (try simp only [hl4_2]); (with_reducible repeat (first | refine blk_drewN ?_ _ | refine blk_drew ?_ | refine blk_alloc ?_ _)); refine blk_far ?_ NB101_118.out _; (with_reducible repeat (first | refine blk_drewN ?_ _ | refine blk_drew ?_ | refine blk_alloc ?_ _)); refine blk_far ?_ NB101_118.out _; (with_reducible repeat (first | refine blk_drewN ?_ _ | refine blk_drew ?_ | refine blk_alloc ?_ _)); exact BK101.out⟩, ⟨tB⟩⟩
                   ·rw [if_neg c32] at H
                    exact absurd H (by simp)
                  ·rw [if_neg c31] at H
                   exact absurd H (by simp)
                ·rw [if_neg c26] at H
                 exact absurd H (by simp)
               ·rw [if_neg c25] at H
                exact absurd H (by simp)
              ·rw [if_neg c24] at H
               have c24b0 : decide (x38_2 < ((rd_L66 t102 (rd x5_1 0)).length : Int)) = false := decide_eq_false c24
               clear c24
               have H' := Aside0.mk H
               clear H
               go_wp2
               (try simp only [← hl4_2])
               (try rw [show (⟨go36, (rd x5_1 0).toNat, none⟩ : Addr) = (⟨go36, 0, none⟩ : Addr).add (rd x5_1 0).toNat from (add_plain _ _).symm])
               go_roundg k2
               case measure => have := HK1.out; have := HK2.out; omega
               case rel => exact ⟨(x4_2), (x5_2), (ji19), (by first | rfl | (simp; done) | (simp only [← hji19] <;> (first | rfl | simp)) | (simp [*]; done)), H', ⟨by have := HK1.out; have := HK2.out; omega⟩, ⟨by (try simp only [hl4_2]); (with_reducible repeat (first | apply Kd.R_alloc | apply Kd.R_drewN | apply Kd.R_drew)); exact HO_4.out⟩, ⟨by (try simp only [hl4_2]); (with_reducible repeat (first | apply Kd.Q_alloc | apply Kd.Q_drewN | apply Kd.Q_drew)); exact HO_5.out⟩, ⟨by (try simp only [hl4_2]); (with_reducible repeat (first | refine blk_drewN ?_ _ | refine blk_drew ?_ | refine blk_alloc ?_ _)); exact BK101.out⟩, ⟨tB⟩⟩
           ·rw [if_neg c20] at H
            exact absurd H (by simp)
          ·rw [if_neg c18] at H
           exact absurd H (by simp)
         ·rw [if_neg c17] at H
          exact absurd H (by simp)
        ·rw [if_neg c16] at H
         exact absurd H (by simp)
       ·rw [if_neg c15] at H
        exact absurd H (by simp)
      ·rw [if_neg c14] at H
       have c14b0 : decide (0 < (x5_1.length : Int)) = false := decide_eq_false c14
       have c14b1 : decide (0 < x5_1.length) = false := decide_eq_false (by omega)
       clear c14
       obtain rfl := Option.some.inj H
       obtain ⟨Ao49, co49, eo49, _⟩ := Kd.Q_slice HO_5.out
       subst eo49
       go_wp2
       go_ret
       (try refine reb0_ HBS1.out ?_)
       exact ⟨tE, tB⟩
   ·rw [if_neg c7] at H
    exact absurd H (by simp)
  ·rw [if_neg c6] at H
   exact absurd H (by simp)
end Go.Proofs.Ytfnjbgggmddgpaa.Q
end
section
namespace Go.Proofs.Ytfnjbgggmddgpaa.Q
open Go.RowKit Go.Proofs.Fn Go.Proofs.YtfnjbgggmddgpaaW.PrintWords Go.Proofs.YtfnjbgggmddgpaaW.PrintLast Go.Proofs.YtfnjbgggmddgpaaW.PrintMore
attribute [local go_sem] max2_int min2_int max_two min_two max_three min_three max_four min_four
set_option linter.unusedVariables false
set_option linter.unusedSimpArgs false
def petrinetref16_single.f (l0_0 : List (List Int)) (l0_1 : List (S80)) (a0_2 : Bool) (a1 : Int) : Option (List Bool) := if 0 ≤ (l0_0.length : Int) then (if ((l0_0.length : Int) : Int).toNat ≤ 281474976710656 then ((some (List.replicate ((l0_0.length : Int) : Int).toNat false : List Bool)).bind fun y102 => (if 0 ≤ a1 then (if a1 < (y102.length : Int) then (some (y102.set (a1 : Int).toNat true)) else (none)) else (none))) else (none)) else (none)
set_option maxHeartbeats 8000000 in
set_option maxRecDepth 100000 in
theorem petrinetref16_single.calls (A0_0 : Option Addr) (c0_0 : Nat) (l0_0 : List (List Int)) (A0_1 : Option Addr) (c0_1 : Nat) (l0_1 : List (S80)) (a0_2 : Bool) (a1 : Int) (r : List Bool) (w : World) (hr0_0 : Kd.C (Kd.slice 3 (Kd.int .i64)) w A0_0 l0_0.length l0_0) (hc0_0 : l0_0.length ≤ c0_0) (hr0_1 : Kd.C k80 w A0_1 l0_1.length l0_1) (hc0_1 : l0_1.length ≤ c0_1) (h : petrinetref16_single.f l0_0 l0_1 a0_2 a1 = some r) :
  Calls Try.prog 40 #[.agg #[.slice A0_0 l0_0.length c0_0, .slice A0_1 l0_1.length c0_1, .bool a0_2], .int .i64 a1] w fun e w' => ∃ v0_ : Value, e = .returned (v0_) ∧ Kd.R Kd.bool 4 w' w.heap.size (fun _ => True) v0_ r ∧ Below w.heap.size w w' := by
 have hu25 := Try.underlying25
 have HR0_0 := Aside0.mk hr0_0
 have HC0_0 := Aside0.mk hc0_0
 clear hr0_0 hc0_0
 have HR0_1 := Aside0.mk hr0_1
 have HC0_1 := Aside0.mk hc0_1
 clear hr0_1 hc0_1
 have HB := Aside0.mk (Below.refl w.heap.size w)
 have H : (if 0 ≤ (l0_0.length : Int) then (if ((l0_0.length : Int) : Int).toNat ≤ 281474976710656 then ((some (List.replicate ((l0_0.length : Int) : Int).toNat false : List Bool)).bind fun y102 => (if 0 ≤ a1 then (if a1 < (y102.length : Int) then (some (y102.set (a1 : Int).toNat true)) else (none)) else (none))) else (none)) else (none)) = some r := h
 clear h
 by_cases c3 : 0 ≤ (l0_0.length : Int)
 ·rw [if_pos c3] at H
  have c3b0 := eq_true c3
  have c3b1 : decide (0 ≤ (l0_0.length : Int)) = true := decide_eq_true c3
  clear c3
  by_cases c4 : ((l0_0.length : Int) : Int).toNat ≤ 281474976710656
  ·rw [if_pos c4] at H
   have c4b0 := eq_true c4
   have c4b1 : decide (((l0_0.length : Int) : Int).toNat ≤ 281474976710656) = true := decide_eq_true c4
   clear c4
   obtain ⟨y102, hy102⟩ : ∃ y_ : List Bool, y_ = (List.replicate ((l0_0.length : Int) : Int).toNat false) := ⟨_, rfl⟩
   replace H : (if 0 ≤ a1 then (if a1 < (y102.length : Int) then (some (y102.set (a1 : Int).toNat true)) else (none)) else (none)) = some r := by first | (rw [hy102]; with_reducible exact H) | (have H2_ := (Option.bind_some _ _).symm.trans H; rw [hy102]; with_reducible exact H2_) | (have H2_ := (Option.bind_some _ _).symm.trans H; with_reducible exact H2_) | with_reducible exact H | (rw [hy102]; exact H) | exact H
   have Ny102 := Aside0.mk hy102
   clear hy102
   by_cases c5 : 0 ≤ a1
   ·rw [if_pos c5] at H
    have c5b0 : decide (0 ≤ a1) = true := decide_eq_true c5
    clear c5
    by_cases c6 : a1 < (y102.length : Int)
    ·rw [if_pos c6] at H
     have c6b0 : decide (a1 < (y102.length : Int)) = true := decide_eq_true c6
     clear c6
     obtain ⟨y105, hy105⟩ : ∃ y_ : List Bool, y_ = (y102.set (a1 : Int).toNat true) := ⟨_, rfl⟩
     replace H : (some y105) = some r := by first | (rw [hy105]; with_reducible exact H) | (have H2_ := (Option.bind_some _ _).symm.trans H; rw [hy105]; with_reducible exact H2_) | (have H2_ := (Option.bind_some _ _).symm.trans H; with_reducible exact H2_) | with_reducible exact H | (rw [hy105]; exact H) | exact H
     have Ny105 := Aside0.mk hy105
     clear hy105
     obtain rfl := Option.some.inj H
     go_enter Try.func40, Try.ntmps40
     go_wp2_with (first | ((with_reducible refine gate_dst (N := 2) rfl ?_); refine box_event ?hg (N := 2) ?hd (cs := #[.slice A0_0 l0_0.length c0_0, .slice A0_1 l0_1.length c0_1, .bool a0_2]) (t := 25) ?hr ?_; (case hd => rfl); (case hg => rfl); (case hr => first | (go_simp; done) | (go_simp; rfl)); intro gb101 hg w8 hbox hb; have n0_ := Aside0.mk (below_step (tB) hb); have n1_ := Aside0.mk (hbox); have n2_ := Aside0.mk ((by rw [hg]; exact (below_size (tB)) : w.heap.size ≤ gb101)); have n3_ := Aside0.mk ((by rw [hg]; exact (below_size (tB)) : w.heap.size ≤ gb101)); clear HB; have HB := n0_; have BK101 := n1_; have GW101 := n2_; have GE101 := n3_; clear n0_ n1_ n2_ n3_; clear hb hbox hg; have hcz9_0 : w8.cell? ⟨gb101, 0, none⟩ = some (.slice A0_0 l0_0.length c0_0) := (blk_cell BK101.out 0).trans rfl; have hcz9_1 : w8.cell? ⟨gb101, 1, none⟩ = some (.slice A0_1 l0_1.length c0_1) := (blk_cell BK101.out 1).trans rfl; have hcz9_2 : w8.cell? ⟨gb101, 2, none⟩ = some (.bool a0_2) := (blk_cell BK101.out 2).trans rfl; have hfz9_0 := blk_frozen BK101.out 0; have hfz9_1 := blk_frozen BK101.out 1; have hfz9_2 := blk_frozen BK101.out 2) | ((with_reducible refine gate_dst (N := 9) rfl ?_); refine Kd.R_make Kd.bool _ 4 rfl (N := 9) rfl 63 _ _ rfl (l0_0.length : Int) rfl rfl Try.underlying63 (.bool false) 1 info4 rfl (by decide) (by omega) false (ok := fun _ => True) (okp := fun _ => True) rfl (fun _ hk => hk) trivial (tD) (Nat.le_trans (Nat.mul_le_mul_right _ (tD : (l0_0.length : Int).toNat ≤ 281474976710656)) (by omega)) (Below.refl _ _) (Nat.le_refl _) ?_; intro v103 w10 ho11 hb hg_ hnew_; clear hg_ hnew_; (first | rw [← Ny102.out] at ho11 | (simp only [Int.reduceToNat] at ho11; rw [← Ny102.out] at ho11)); have n0_ := Aside0.mk (Kd.R_lower ho11 (below_size (tB))); have n1_ := Aside0.mk (blk_below (g := gb101) (o := .cells #[.slice A0_0 l0_0.length c0_0, .slice A0_1 l0_1.length c0_1, .bool a0_2] 25 (0, 0)) (tK BK101) hb); have n2_ := Aside0.mk (below_step (tB) hb); clear BK101; clear HB; have HO104 := n0_; have BK101 := n1_; have HB := n2_; clear n0_ n1_ n2_; clear hb ho11; have p7 : 0 ≤ (a1 : Int) := tD; have q7 : (a1 : Int) < ((y102.length : Int) : Int) := tD; obtain ⟨go7, co7, eo7, gb7, gl7, cl7, HG7⟩ := Kd.R_form HO104.out (by omega); (first | cases eo7 | (injection eo7 with ea_ en_ ec_; (first | subst ea_ | (injection ea_ with ea_; subst ea_)); subst ec_; clear en_)); have GB7 := Aside0.mk gb7; have GG7 := Aside0.mk HG7; clear gb7 gl7 HG7; obtain ⟨hx7_0, hf7_0⟩ := Kd.R_celln false HO104.out (a1 : Int) p7 q7; replace p7 := eq_true p7; replace q7 := eq_true q7; obtain ⟨hy12_, hz12_⟩ := Kd.R_celln false HO104.out (a1 : Int) (tD) (tD); have HP12 := Kd.R_putg HO104.out (a1 : Int) true) | ((with_reducible refine gate_store (t := 4) (p := 12) rfl ?_); refine store_event (t := 4) (p := 12) (v := ?vo_w13) (w1 := (w10.setCell ⟨go7, (a1 : Int).toNat, none⟩ (.bool true))) ?hg ?ho ?hn ?hr ?_; (case ho => rfl); (case hg => rfl); (case hn => rfl); (case hr => first | (go_simp; done) | (go_simp; rfl)); intro w13 hw; have hg : w10.grownBy w13 (some go7) := (by rw [hw]; exact HP12.2); have hp_ : Kd.R Kd.bool 4 w13 w.heap.size (fun _ => True) (.slice (some ⟨go7, 0, none⟩) y102.length co7) y105 := (by rw [hw, Ny105.out]; exact HP12.1); clear HP12; have n0_ := Aside0.mk (blk_grown (g := gb101) (o := .cells #[.slice A0_0 l0_0.length c0_0, .slice A0_1 l0_1.length c0_1, .bool a0_2] 25 (0, 0)) (tK BK101) hg (Kd.R_ne HO104.out BK101.out (by decide))); have n1_ := Aside0.mk (hp_); have n2_ := Aside0.mk ((by rw [hw]; exact below_set (HB.out) GB7.out : Below w.heap.size w w13)); clear BK101; clear HO104; clear HB; have BK101 := n0_; have HO104 := n1_; have HB := n2_; clear n0_ n1_ n2_; clear hg hw hp_))
     go_ret
     exact ⟨_, tE, by (with_reducible repeat (first | apply Kd.R_alloc | apply Kd.R_drewN | apply Kd.R_drew)); exact HO104.out, tB⟩
    ·rw [if_neg c6] at H
     exact absurd H (by simp)
   ·rw [if_neg c5] at H
    exact absurd H (by simp)
  ·rw [if_neg c4] at H
   exact absurd H (by simp)
 ·rw [if_neg c3] at H
  exact absurd H (by simp)
end Go.Proofs.Ytfnjbgggmddgpaa.Q
end
section
set_option linter.unusedVariables false
set_option linter.unusedSimpArgs false
namespace Go.Proofs.Ytfnjbgggmddgpaa.Q
open Go.RowKit Go.Proofs.Fn Go.Proofs.YtfnjbgggmddgpaaW.PrintWords Go.Proofs.Gr
inductive Path (T : List (List S80)) : Nat → List Int → Nat → Prop
  | nil (s : Nat) : Path T s [] s
  | cons (s : Nat) (e : S80) (t : Nat) (l : List Int) (z : Nat) : e ∈ T.getD s [] → e.f2 = (t : Int) → Path T t l z → Path T s (e.f1 :: l) z
theorem follow_in {n : Nat} {T : List (List S80)} (hT : OkT n T) (d : List Int) (hd : d.length = n) (s : Nat) (hs : s < n) (acc : List Int) (ha : acc.length ≤ 2000000) (h1 : 0 < D d s) (h2 : D d s ≤ 2000000) :
    ∀ (m p : Nat), p + m = (T.getD s []).length → (∃ e ∈ (T.getD s []).drop p, D d e.f2.toNat = D d s - 1) →
    ∃ t : Nat, ∃ u : Int, (∃ e ∈ T.getD s [], e.f1 = u ∧ e.f2 = (t : Int)) ∧ t < n ∧ D d t = D d s - 1 ∧ (∀ r, Evn (fun k => witness_follow.l0 k (T.map (List.map pr)) d (t : Int) (acc ++ [u])) r → Evn (fun k => witness_follow.l1 k (T.map (List.map pr)) d (s : Int) acc ((T.getD s []).map pr) ((T.getD s []).length : Int) (p : Int)) r) ∧
      (∀ r, Evn (fun k => petrinetref16_follow.l0 k T d (acc ++ [u]) (t : Int)) r → Evn (fun k => petrinetref16_follow.l1 k T d acc (s : Int) (p : Int)) r) := by
  have hsm := hT.small
  have hln := hT.len
  have hrow := hT.rows s hs
  intro m
  induction m with
  | zero =>
    intro p hp he
    obtain ⟨e, he, _⟩ := he
    rw [List.drop_of_length_le (by omega)] at he
    cases he
  | succ m ih =>
    intro p hp he
    have hpl : p < (T.getD s []).length := by omega
    have hm : rd_T80 (T.getD s []) (p : Int) ∈ T.getD s [] := by rw [rd80 hpl]; exact List.getElem_mem _
    have htg := hT.tgt s hs _ hm
    obtain ⟨t, ht⟩ : ∃ t : Nat, (rd_T80 (T.getD s []) (p : Int)).f2 = (t : Int) := ⟨_, (Int.toNat_of_nonneg htg.1).symm⟩
    have htn : t < n := by omega
    have ht2 : (rd_T66 ((T.getD s []).map pr) (p : Int)).f1 = (t : Int) := by rw [rd66map]; exact ht
    have hu2 : (rd_T66 ((T.getD s []).map pr) (p : Int)).f0 = (rd_T80 (T.getD s []) (p : Int)).f1 := by rw [rd66map]; rfl
    have hw : wrap64 (D d s - 1) = D d s - 1 := by unfold wrap64; omega
    rw [drop80 hpl] at he
    by_cases c : D d t = D d s - 1
    · refine ⟨t, (rd_T80 (T.getD s []) (p : Int)).f1, ⟨_, hm, rfl, ht⟩, htn, c, fun r hr => Evn.succ ?_, fun r hr => Evn.succ ?_⟩
      · simp only [witness_follow.l1, ht2, hu2, rdD, hd, hw, List.length_map]
        iterate 9 (first | refine Evn.pos (by first | assumption | omega | (simp; done) | (simp; omega)) ?_ | refine Evn.neg (by first | assumption | omega | (simp; done) | (simp; omega)) ?_)
        exact hr
      · simp only [petrinetref16_follow.l1, rdL80, ht, rdD, hd, hln, hw]
        iterate 9 (first | refine Evn.pos (by first | assumption | omega | (simp; done) | (simp; omega)) ?_ | refine Evn.neg (by first | assumption | omega | (simp; done) | (simp; omega)) ?_)
        exact hr
    · obtain ⟨t2, u, h0, h3, h4, h5, h6⟩ := ih (p + 1) (by omega) (by
        obtain ⟨e, he, h⟩ := he
        rcases List.mem_cons.1 he with rfl | he
        · rw [ht, Int.toNat_natCast] at h; exact absurd h c
        · exact ⟨e, he, h⟩)
      refine ⟨t2, u, h0, h3, h4, fun r hr => Evn.succ ?_, fun r hr => Evn.succ ?_⟩
      · have := h5 r hr
        simp only [witness_follow.l1, ht2, hu2, rdD, hd, hw, List.length_map, wrap_succ (show p < 9223372036854775807 by omega)]
        iterate 8 (first | refine Evn.pos (by first | assumption | omega | (simp; done) | (simp; omega)) ?_ | refine Evn.neg (by first | assumption | omega | (simp; done) | (simp; omega)) ?_)
        exact this
      · have := h6 r hr
        simp only [petrinetref16_follow.l1, rdL80, ht, rdD, hd, hln, hw, wrap_succ (show p < 9223372036854775807 by omega)]
        iterate 8 (first | refine Evn.pos (by first | assumption | omega | (simp; done) | (simp; omega)) ?_ | refine Evn.neg (by first | assumption | omega | (simp; done) | (simp; omega)) ?_)
        exact this
theorem follow_both {n : Nat} {T : List (List S80)} (hT : OkT n T) {g : Nat → Prop} (d : List Int) (hd : d.length = n) (hL : Lab n (E T) g (D d)) :
    ∀ (m s : Nat) (acc : List Int), s < n → D d s = m → acc.length + m ≤ 2000000 →
    ∃ r, (∃ l t, r = acc ++ l ∧ l.length = m ∧ Path T s l t ∧ t < n ∧ g t) ∧ Evn (fun k => witness_follow.l0 k (T.map (List.map pr)) d (s : Int) acc) r ∧ Evn (fun k => petrinetref16_follow.l0 k T d acc (s : Int)) (r, true) := by
  have hsm := hT.small
  have hln := hT.len
  intro m
  induction m with
  | zero =>
    intro s acc hs h0 ha
    refine ⟨acc, ⟨[], s, by simp, rfl, .nil s, hs, (hL.zero s hs).1 h0⟩, Evn.succ ?_, Evn.succ ?_⟩
    · simp only [witness_follow.l0, rdD, hd]
      iterate 3 (first | refine Evn.pos (by first | assumption | omega | (simp; done) | (simp; omega)) ?_ | refine Evn.neg (by first | assumption | omega | (simp; done) | (simp; omega)) ?_)
      exact Evn.const _
    · simp only [petrinetref16_follow.l0, rdD, hd]
      iterate 3 (first | refine Evn.pos (by first | assumption | omega | (simp; done) | (simp; omega)) ?_ | refine Evn.neg (by first | assumption | omega | (simp; done) | (simp; omega)) ?_)
      exact Evn.const _
  | succ m ih =>
    intro s acc hs h0 ha
    obtain ⟨j, hj, ⟨e, he, ht⟩, hdj⟩ := hL.step s hs (by omega)
    obtain ⟨t, u, ⟨e, he, hu, het⟩, h1, h2, h3, h4⟩ := follow_in hT d hd s hs acc (by omega) (by omega) (by omega) _ 0 (by rw [Nat.zero_add]) ⟨e, by simpa using he, by rw [ht, Int.toNat_natCast]; exact hdj⟩
    obtain ⟨r, ⟨l, z, hl, hlm, hpath, hz, hgz⟩, hr1, hr2⟩ := ih t (acc ++ [u]) h1 (by omega) (by simp; omega)
    refine ⟨r, ⟨u :: l, z, by rw [hl]; simp, by simp [hlm], hu ▸ Path.cons s e t l z he het hpath, hz, hgz⟩, Evn.succ ?_, Evn.succ ?_⟩
    · simp only [witness_follow.l0, rdD, hd, List.length_map, hln, rdmap]
      iterate 4 (first | refine Evn.pos (by first | assumption | omega | (simp; done) | (simp; omega)) ?_ | refine Evn.neg (by first | assumption | omega | (simp; done) | (simp; omega)) ?_)
      exact h3 r hr1
    · simp only [petrinetref16_follow.l0, rdD, hd]
      iterate 3 (first | refine Evn.pos (by first | assumption | omega | (simp; done) | (simp; omega)) ?_ | refine Evn.neg (by first | assumption | omega | (simp; done) | (simp; omega)) ?_)
      exact h4 _ hr2
structure Found (n : Nat) (T : List (List S80)) (g : Nat → Bool) (a : Int) (l : List Int) (ok : Bool) : Prop where
  out : ¬ (0 ≤ a ∧ a < (n : Int)) → l = [] ∧ ok = false
  len : ∀ s : Nat, a = (s : Int) → s < n → ∀ d, Lab n (E T) (fun i => g i = true) d → (l.length : Int) = (if d s < 0 then 0 else d s) ∧ (ok = true ↔ 0 ≤ d s)
  no : ok = false → l = []
  way : ok = true → ∃ s t : Nat, a = (s : Int) ∧ s < n ∧ t < n ∧ Path T s l t ∧ g t = true
theorem search_both {n : Nat} {T : List (List S80)} (hT : OkT n T) (φ : Int → Option Bool) (g : Nat → Bool) (hg : ∀ i, i < n → φ (i : Int) = some (g i)) (a : Int) :
    ∃ l ok, Found n T g a l ok ∧ Evn (fun k => witness_search.f k (T.map (List.map pr)) a φ) (l, ok) ∧ Evn (fun k => petrinetref16_follow.f k T a ((List.range n).map g)) (l, ok) := by
  have hsm := hT.small
  have hln := hT.len
  by_cases ha : 0 ≤ a ∧ a < (n : Int)
  · obtain ⟨s, rfl⟩ : ∃ s : Nat, a = (s : Int) := ⟨a.toNat, by omega⟩
    have hs : s < n := by omega
    obtain ⟨d, ⟨hd, hL, hle⟩, hev⟩ := distances_ev hT φ g hg
    obtain ⟨d', ⟨hd', hL'⟩, hev'⟩ := rdistances_ev hT g
    obtain rfl : d = d' := by
      apply List.ext_getElem (by omega)
      intro i h1 h2
      have := hL.unique hL' i (by omega)
      simpa [D, h1, h2] using this
    have wit : ∀ r, Evn (fun k => (witness_distances.f k (T.map (List.map pr)) φ).bind fun t101 => (if 0 ≤ (s : Int) then (if (s : Int) < (t101.length : Int) then (if (rd t101 (s : Int)) < 0 then (some (([] : List Int), false)) else ((witness_follow.f k (T.map (List.map pr)) t101 (s : Int)).bind fun t105 => (some (t105, true)))) else (none)) else (none))) r → Evn (fun k => witness_search.f k (T.map (List.map pr)) (s : Int) φ) r := by
      intro r hr
      simp only [witness_search.f, List.length_map, hln]
      (first | refine Evn.pos (by first | assumption | omega | (simp; done) | (simp; omega)) ?_ | refine Evn.neg (by first | assumption | omega | (simp; done) | (simp; omega)) ?_)
      refine Evn.succ ?_
      simp only [witness_search.j0]
      refine Evn.neg (by simp; omega) ?_
      exact hr
    have ref : ∀ r, Evn (fun k => (petrinetref16_distances.f k T ((List.range n).map g)).bind fun t101 => (if 0 ≤ (s : Int) then (if (s : Int) < (t101.length : Int) then (if (rd t101 (s : Int)) < 0 then (some (([] : List Int), false)) else (petrinetref16_follow.l0 k T t101 ([] : List Int) (s : Int))) else (none)) else (none))) r → Evn (fun k => petrinetref16_follow.f k T (s : Int) ((List.range n).map g)) r := by
      intro r hr
      simp only [petrinetref16_follow.f, hln]
      (first | refine Evn.pos (by first | assumption | omega | (simp; done) | (simp; omega)) ?_ | refine Evn.neg (by first | assumption | omega | (simp; done) | (simp; omega)) ?_)
      refine Evn.succ ?_
      simp only [petrinetref16_follow.j0]
      refine Evn.neg (by simp; omega) ?_
      exact hr
    by_cases c : D d s < 0
    · refine ⟨[], false, ⟨fun _ => ⟨rfl, rfl⟩, fun s' hs' hsn d' hd' => ?_, fun _ => rfl, (fun h => by cases h)⟩, wit _ (Evn.bind hev ?_), ref _ (Evn.bind hev' ?_)⟩
      · obtain rfl : s = s' := by omega
        rw [← hL.unique hd' s hs, if_pos c]
        exact ⟨rfl, by simp; omega⟩
      · simp only [rdD, hd]
        iterate 3 (first | refine Evn.pos (by first | assumption | omega | (simp; done) | (simp; omega)) ?_ | refine Evn.neg (by first | assumption | omega | (simp; done) | (simp; omega)) ?_)
        exact Evn.const _
      · simp only [rdD, hd]
        iterate 3 (first | refine Evn.pos (by first | assumption | omega | (simp; done) | (simp; omega)) ?_ | refine Evn.neg (by first | assumption | omega | (simp; done) | (simp; omega)) ?_)
        exact Evn.const _
    · have hle2 := hle s hs
      obtain ⟨r, ⟨l, t, hl, hlm, hpath, htn, hgt⟩, h1, h2⟩ := follow_both hT d hd hL (D d s).toNat s [] hs (by omega) (by simp; omega)
      obtain rfl : r = l := by simpa using hl
      refine ⟨r, true, ⟨fun h => absurd ha h, fun s' hs' hsn d' hd' => ?_, (fun h => by cases h), fun _ => ⟨s, t, rfl, hs, htn, hpath, hgt⟩⟩, wit _ (Evn.bind hev ?_), ref _ (Evn.bind hev' ?_)⟩
      · obtain rfl : s = s' := by omega
        rw [← hL.unique hd' s hs, if_neg c]
        exact ⟨by omega, by simp; omega⟩
      · simp only [rdD, hd]
        iterate 3 (first | refine Evn.pos (by first | assumption | omega | (simp; done) | (simp; omega)) ?_ | refine Evn.neg (by first | assumption | omega | (simp; done) | (simp; omega)) ?_)
        refine Evn.bind (a := r) ?_ (Evn.const _)
        exact h1
      · simp only [rdD, hd]
        iterate 3 (first | refine Evn.pos (by first | assumption | omega | (simp; done) | (simp; omega)) ?_ | refine Evn.neg (by first | assumption | omega | (simp; done) | (simp; omega)) ?_)
        exact h2
  · refine ⟨[], false, ⟨fun _ => ⟨rfl, rfl⟩, fun s hs hsn => by omega, fun _ => rfl, (fun h => by cases h)⟩, ?_, ?_⟩
    · simp only [witness_search.f, List.length_map, hln]
      by_cases c : a < 0
      · refine Evn.pos c (Evn.succ ?_)
        simp only [witness_search.j0]
        (first | refine Evn.pos (by first | assumption | omega | (simp; done) | (simp; omega)) ?_ | refine Evn.neg (by first | assumption | omega | (simp; done) | (simp; omega)) ?_)
        exact Evn.const _
      · refine Evn.neg c (Evn.succ ?_)
        simp only [witness_search.j0]
        refine Evn.pos (by simp; omega) ?_
        exact Evn.const _
    · simp only [petrinetref16_follow.f, hln]
      by_cases c : a < 0
      · refine Evn.pos c (Evn.succ ?_)
        simp only [petrinetref16_follow.j0]
        (first | refine Evn.pos (by first | assumption | omega | (simp; done) | (simp; omega)) ?_ | refine Evn.neg (by first | assumption | omega | (simp; done) | (simp; omega)) ?_)
        exact Evn.const _
      · refine Evn.neg c (Evn.succ ?_)
        simp only [petrinetref16_follow.j0]
        refine Evn.pos (by simp; omega) ?_
        exact Evn.const _
end Go.Proofs.Ytfnjbgggmddgpaa.Q
end
section
namespace Go.Proofs.Ytfnjbgggmddgpaa.Q
open Go.RowKit Go.Proofs.Fn Go.Proofs.YtfnjbgggmddgpaaW.PrintWords Go.Proofs.YtfnjbgggmddgpaaW.PrintLast Go.Proofs.YtfnjbgggmddgpaaW.PrintMore
attribute [local go_sem] max2_int min2_int max_two min_two max_three min_three max_four min_four
set_option linter.unusedVariables false
set_option linter.unusedSimpArgs false
def petrinetlaw16_few.f (l0_0 : List (List Int)) (l0_1 : List (S80)) (a0_2 : Bool) : Option (Bool) := if (l0_0.length : Int) ≤ 16 then (some (decide ((l0_1.length : Int) ≤ 40))) else (some false)
set_option maxHeartbeats 8000000 in
set_option maxRecDepth 100000 in
theorem petrinetlaw16_few.calls (A0_0 : Option Addr) (c0_0 : Nat) (l0_0 : List (List Int)) (A0_1 : Option Addr) (c0_1 : Nat) (l0_1 : List (S80)) (a0_2 : Bool) (r : Bool) (w : World) (hr0_0 : Kd.C (Kd.slice 3 (Kd.int .i64)) w A0_0 l0_0.length l0_0) (hc0_0 : l0_0.length ≤ c0_0) (hr0_1 : Kd.C k80 w A0_1 l0_1.length l0_1) (hc0_1 : l0_1.length ≤ c0_1) (h : petrinetlaw16_few.f l0_0 l0_1 a0_2 = some r) :
  Calls Try.prog 9 #[.agg #[.slice A0_0 l0_0.length c0_0, .slice A0_1 l0_1.length c0_1, .bool a0_2]] w fun e w' => e = .returned (.bool r) ∧ Below w.heap.size w w' := by
 have hu25 := Try.underlying25
 have HR0_0 := Aside0.mk hr0_0
 have HC0_0 := Aside0.mk hc0_0
 clear hr0_0 hc0_0
 have HR0_1 := Aside0.mk hr0_1
 have HC0_1 := Aside0.mk hc0_1
 clear hr0_1 hc0_1
 have HB := Aside0.mk (Below.refl w.heap.size w)
 have H : (if (l0_0.length : Int) ≤ 16 then (some (decide ((l0_1.length : Int) ≤ 40))) else (some false)) = some r := h
 clear h
 by_cases c2 : (l0_0.length : Int) ≤ 16
 ·rw [if_pos c2] at H
  have c2b0 : decide ((l0_0.length : Int) ≤ 16) = true := decide_eq_true c2
  have c2b1 : decide (l0_0.length ≤ 16) = true := decide_eq_true (by omega)
  clear c2
  obtain rfl := Option.some.inj H
  go_enter Try.func9, Try.ntmps9
  go_wp2_with (first | ((with_reducible refine gate_dst (N := 1) rfl ?_); (try (refine gate_guard (by rfl) ?_; dsimp only)); refine box_event ?hg (N := 1) ?hd (cs := #[.slice A0_0 l0_0.length c0_0, .slice A0_1 l0_1.length c0_1, .bool a0_2]) (t := 25) ?hr ?_; (case hd => rfl); (case hg => rfl); (case hr => first | (go_simp; done) | (go_simp; rfl)); intro gb101 hg w3 hbox hb; have n0_ := Aside0.mk (below_step (tB) hb); have n1_ := Aside0.mk (hbox); have n2_ := Aside0.mk ((by rw [hg]; exact (below_size (tB)) : w.heap.size ≤ gb101)); have n3_ := Aside0.mk ((by rw [hg]; exact (below_size (tB)) : w.heap.size ≤ gb101)); clear HB; have HB := n0_; have BK101 := n1_; have GW101 := n2_; have GE101 := n3_; clear n0_ n1_ n2_ n3_; clear hb hbox hg; have hcz4_0 : w3.cell? ⟨gb101, 0, none⟩ = some (.slice A0_0 l0_0.length c0_0) := (blk_cell BK101.out 0).trans rfl; have hcz4_1 : w3.cell? ⟨gb101, 1, none⟩ = some (.slice A0_1 l0_1.length c0_1) := (blk_cell BK101.out 1).trans rfl; have hcz4_2 : w3.cell? ⟨gb101, 2, none⟩ = some (.bool a0_2) := (blk_cell BK101.out 2).trans rfl; have hfz4_0 := blk_frozen BK101.out 0; have hfz4_1 := blk_frozen BK101.out 1; have hfz4_2 := blk_frozen BK101.out 2))
  go_ret
  exact ⟨tE, tB⟩
 ·rw [if_neg c2] at H
  have c2b0 : decide ((l0_0.length : Int) ≤ 16) = false := decide_eq_false c2
  have c2b1 : decide (l0_0.length ≤ 16) = false := decide_eq_false (by omega)
  clear c2
  obtain rfl := Option.some.inj H
  go_enter Try.func9, Try.ntmps9
  go_wp2_with (first | ((with_reducible refine gate_dst (N := 1) rfl ?_); (try (refine gate_guard (by rfl) ?_; dsimp only)); refine box_event ?hg (N := 1) ?hd (cs := #[.slice A0_0 l0_0.length c0_0, .slice A0_1 l0_1.length c0_1, .bool a0_2]) (t := 25) ?hr ?_; (case hd => rfl); (case hg => rfl); (case hr => first | (go_simp; done) | (go_simp; rfl)); intro gb101 hg w5 hbox hb; have n0_ := Aside0.mk (below_step (tB) hb); have n1_ := Aside0.mk (hbox); have n2_ := Aside0.mk ((by rw [hg]; exact (below_size (tB)) : w.heap.size ≤ gb101)); have n3_ := Aside0.mk ((by rw [hg]; exact (below_size (tB)) : w.heap.size ≤ gb101)); clear HB; have HB := n0_; have BK101 := n1_; have GW101 := n2_; have GE101 := n3_; clear n0_ n1_ n2_ n3_; clear hb hbox hg; have hcz6_0 : w5.cell? ⟨gb101, 0, none⟩ = some (.slice A0_0 l0_0.length c0_0) := (blk_cell BK101.out 0).trans rfl; have hcz6_1 : w5.cell? ⟨gb101, 1, none⟩ = some (.slice A0_1 l0_1.length c0_1) := (blk_cell BK101.out 1).trans rfl; have hcz6_2 : w5.cell? ⟨gb101, 2, none⟩ = some (.bool a0_2) := (blk_cell BK101.out 2).trans rfl; have hfz6_0 := blk_frozen BK101.out 0; have hfz6_1 := blk_frozen BK101.out 1; have hfz6_2 := blk_frozen BK101.out 2))
  go_ret
  exact ⟨tE, tB⟩
end Go.Proofs.Ytfnjbgggmddgpaa.Q
end
section
namespace Go.Proofs.Ytfnjbgggmddgpaa.Q
open Go.RowKit Go.Proofs.Fn Go.Proofs.YtfnjbgggmddgpaaW.PrintWords Go.Proofs.YtfnjbgggmddgpaaW.PrintLast Go.Proofs.YtfnjbgggmddgpaaW.PrintMore
attribute [local go_sem] max2_int min2_int max_two min_two max_three min_three max_four min_four
set_option linter.unusedVariables false
set_option linter.unusedSimpArgs false
def petrinetref04_Same.l0 : Nat → List Int → List Int → Int → Option (Bool)
 | 0, _, _, _ => none
 | k + 1, x0, x1, x5 => if x5 < (x0.length : Int) then (if 0 ≤ x5 then (if x5 < (x1.length : Int) then (if (rd x0 x5) = (rd x1 x5) then (petrinetref04_Same.l0 k x0 x1 (wrap64 (x5 + 1))) else (some false)) else (none)) else (none)) else (some true)
def petrinetref04_Same.f (k : Nat) (l0 : List Int) (l1 : List Int) : Option (Bool) := if (l0.length : Int) = (l1.length : Int) then (petrinetref04_Same.l0 k l0 l1 0) else (some false)
theorem petrinetref04_Same.mono_l : ∀ k, (∀ y0 y1 y2, LeO (petrinetref04_Same.l0 k y0 y1 y2) (petrinetref04_Same.l0 (k + 1) y0 y1 y2))
 | 0 => fun _ _ _ r h => by simp [petrinetref04_Same.l0] at h
 | k + 1 => by
  have ih0 := petrinetref04_Same.mono_l k
  ·intro y0 y1 y2
   unfold petrinetref04_Same.l0
   repeat' first
   | (with_reducible exact ih0 _ _ _)
   | (with_reducible exact LeO.refl _)
   | (with_reducible exact LeO.none _)
   | (with_reducible refine LeO.ite ?_ ?_)
   | (with_reducible refine LeO.bind ?_ (fun _ => ?_))
   | exact ih0 _ _ _
   | exact LeO.none _
   | refine LeO.ite ?_ ?_
   | refine LeO.bind ?_ (fun _ => ?_)
theorem petrinetref04_Same.mono : ∀ a0 a1 k, LeO (petrinetref04_Same.f k a0 a1) (petrinetref04_Same.f (k + 1) a0 a1) := by
 intro a0 a1 k
 have ih0 := petrinetref04_Same.mono_l k
 unfold petrinetref04_Same.f
 repeat' first
   | (with_reducible exact ih0 _ _ _)
   | (with_reducible exact LeO.refl _)
   | (with_reducible exact LeO.none _)
   | (with_reducible refine LeO.ite ?_ ?_)
   | (with_reducible refine LeO.bind ?_ (fun _ => ?_))
   | exact ih0 _ _ _
   | exact LeO.none _
   | refine LeO.ite ?_ ?_
   | refine LeO.bind ?_ (fun _ => ?_)
set_option maxHeartbeats 8000000 in
set_option maxRecDepth 100000 in
theorem petrinetref04_Same.calls (k : Nat) (A0 : Option Addr) (c0 : Nat) (l0 : List Int) (A1 : Option Addr) (c1 : Nat) (l1 : List Int) (r : Bool) (w : World) (hr0 : Kd.C (Kd.int .i64) w A0 l0.length l0) (hc0 : l0.length ≤ c0) (hr1 : Kd.C (Kd.int .i64) w A1 l1.length l1) (hc1 : l1.length ≤ c1) (h : petrinetref04_Same.f k l0 l1 = some r) :
  Calls Try.prog 13 #[.slice A0 l0.length c0, .slice A1 l1.length c1] w fun e w' => e = .returned (.bool r) ∧ Drawn0 w w' := by
 have HR0 := Aside0.mk hr0
 have HC0 := Aside0.mk hc0
 clear hr0 hc0
 have HR1 := Aside0.mk hr1
 have HC1 := Aside0.mk hc1
 clear hr1 hc1
 have H : (if (l0.length : Int) = (l1.length : Int) then (petrinetref04_Same.l0 k l0 l1 0) else (some false)) = some r := h
 clear h
 by_cases c3 : (l0.length : Int) = (l1.length : Int)
 ·rw [if_pos c3] at H
  have c3b0 : ((l0.length : Int) == (l1.length : Int)) = true := beq_iff_eq.mpr c3
  have c3b1 : ((l0.length : Int) != (l1.length : Int)) = false := bne_eq_false_iff_eq.mpr c3
  have c3b2 : (l0.length == l1.length) = true := by first | simpa using c3 | (simp at c3 ⊢; omega)
  clear c3
  have H' := Aside0.mk H
  clear H
  go_enter Try.func13, Try.ntmps13
  go_wp2
  repeat (go_quiet (fail); try go_wp2)
  go_loopg [5] k (fun kq v5 w' => ∃ (x5_1 : Int), v5 = .int .i64 x5_1 ∧ Aside0 (petrinetref04_Same.l0 kq l0 l1 x5_1 = some r) ∧ Aside0 (kq ≤ k) ∧ Drawn0 w w')
  case atStart => exact ⟨(0), (by first | rfl | (simp; done) | (simp [*]; done)), H', ⟨Nat.le_refl _⟩, by repeat (first | exact Drawn0.refl _ | apply Drawn0.step)⟩
  case round =>
   clear H'
   try clear c1
   try clear p2
   try clear c3
   try clear c3b0
   try clear c3b1
   try clear c3b2
   obtain ⟨x5_1, rfl, HA, HK1, ⟨m1, rfl⟩⟩ := hrel
   cases gk with
   | zero => exact absurd HA.out (by simp [petrinetref04_Same.l0])
   | succ k1 =>
    have H := HA.out
    clear HA
    simp only [petrinetref04_Same.l0] at H
    by_cases c4 : x5_1 < (l0.length : Int)
    ·rw [if_pos c4] at H
     have c4b0 : decide (x5_1 < (l0.length : Int)) = true := decide_eq_true c4
     clear c4
     by_cases c5 : 0 ≤ x5_1
     ·rw [if_pos c5] at H
      have c5b0 : decide (0 ≤ x5_1) = true := decide_eq_true c5
      clear c5
      by_cases c6 : x5_1 < (l1.length : Int)
      ·rw [if_pos c6] at H
       have c6b0 : decide (x5_1 < (l1.length : Int)) = true := decide_eq_true c6
       clear c6
       by_cases c7 : (rd l0 x5_1) = (rd l1 x5_1)
       ·rw [if_pos c7] at H
        have c7b0 : ((rd l0 x5_1) == (rd l1 x5_1)) = true := beq_iff_eq.mpr c7
        have c7b1 : ((rd l0 x5_1) != (rd l1 x5_1)) = false := bne_eq_false_iff_eq.mpr c7
        clear c7
        have H' := Aside0.mk H
        clear H
        have p101 : 0 ≤ (x5_1 : Int) := tD
        have q101 : x5_1 < (l0.length : Int) := tD
        obtain ⟨ad101, e101, hx101_0⟩ := Kd.at_int HR0.out x5_1 p101 q101
        cases e101
        replace p101 := eq_true p101
        replace q101 := eq_true q101
        have p102 : 0 ≤ (x5_1 : Int) := tD
        have q102 : x5_1 < (l1.length : Int) := tD
        obtain ⟨ad102, e102, hx102_0⟩ := Kd.at_int HR1.out x5_1 p102 q102
        cases e102
        replace p102 := eq_true p102
        replace q102 := eq_true q102
        go_wp2
        repeat (go_quiet (fail); try go_wp2)
        go_roundg k1
        case measure => have := HK1.out; omega
        case rel => exact ⟨(wrap64 (x5_1 + 1)), (by first | rfl | (simp; done) | (simp [*]; done)), H', ⟨by have := HK1.out; omega⟩, by repeat (first | exact Drawn0.refl _ | apply Drawn0.step)⟩
       ·rw [if_neg c7] at H
        have c7b0 : ((rd l0 x5_1) == (rd l1 x5_1)) = false := beq_eq_false_iff_ne.mpr c7
        have c7b1 : ((rd l0 x5_1) != (rd l1 x5_1)) = true := bne_iff_ne.mpr c7
        obtain rfl := Option.some.inj H
        have p101 : 0 ≤ (x5_1 : Int) := tD
        have q101 : x5_1 < (l0.length : Int) := tD
        obtain ⟨ad101, e101, hx101_0⟩ := Kd.at_int HR0.out x5_1 p101 q101
        cases e101
        replace p101 := eq_true p101
        replace q101 := eq_true q101
        have p102 : 0 ≤ (x5_1 : Int) := tD
        have q102 : x5_1 < (l1.length : Int) := tD
        obtain ⟨ad102, e102, hx102_0⟩ := Kd.at_int HR1.out x5_1 p102 q102
        cases e102
        replace p102 := eq_true p102
        replace q102 := eq_true q102
        go_wp2
        repeat (go_quiet (fail); try go_wp2)
        go_ret
        exact ⟨by first | rfl | (simp; done) | (simp [*]; done), by repeat (first | exact Drawn0.refl _ | apply Drawn0.step)⟩
      ·rw [if_neg c6] at H
       exact absurd H (by simp)
     ·rw [if_neg c5] at H
      exact absurd H (by simp)
    ·rw [if_neg c4] at H
     have c4b0 : decide (x5_1 < (l0.length : Int)) = false := decide_eq_false c4
     clear c4
     obtain rfl := Option.some.inj H
     go_wp2
     repeat (go_quiet (fail); try go_wp2)
     go_ret
     exact ⟨by first | rfl | (simp; done) | (simp [*]; done), by repeat (first | exact Drawn0.refl _ | apply Drawn0.step)⟩
 ·rw [if_neg c3] at H
  have c3b0 : ((l0.length : Int) == (l1.length : Int)) = false := beq_eq_false_iff_ne.mpr c3
  have c3b1 : ((l0.length : Int) != (l1.length : Int)) = true := bne_iff_ne.mpr c3
  have c3b2 : (l0.length == l1.length) = false := by first | simpa using c3 | (simp at c3 ⊢; omega)
  obtain rfl := Option.some.inj H
  go_enter Try.func13, Try.ntmps13
  go_wp2
  repeat (go_quiet (fail); try go_wp2)
  go_ret
  exact ⟨by first | rfl | (simp; done) | (simp [*]; done), by repeat (first | exact Drawn0.refl _ | apply Drawn0.step)⟩
end Go.Proofs.Ytfnjbgggmddgpaa.Q
end
section
namespace Go.Proofs.Ytfnjbgggmddgpaa.Q
open Go.RowKit Go.Proofs.Fn Go.Proofs.YtfnjbgggmddgpaaW.PrintWords Go.Proofs.YtfnjbgggmddgpaaW.PrintLast Go.Proofs.YtfnjbgggmddgpaaW.PrintMore
attribute [local go_sem] max2_int min2_int max_two min_two max_three min_three max_four min_four
set_option linter.unusedVariables false
set_option linter.unusedSimpArgs false
def petrinetlaw16_step.f  : Option ((List (List Int)) × (List (S80)) × Bool) := some ((([(([1] : List Int)), (([0] : List Int))] : List (List Int))), (([(⟨0, 0, 1⟩ : S80)] : List (S80))), true)
set_option maxHeartbeats 8000000 in
set_option maxRecDepth 100000 in
theorem petrinetlaw16_step.calls  (r1 : List (List Int)) (r2 : List (S80)) (r3 : Bool) (w : World) (h : petrinetlaw16_step.f  = some (r1, r2, r3)) :
  Calls Try.prog 33 #[] w fun e w' => ∃ v0_ v1_ : Value, e = .returned (.agg #[v0_, v1_, .bool r3]) ∧ Kd.N (Kd.slice 3 (Kd.int .i64)) 28 w' w.heap.size (fun k_ => (w.heap.size ≤ k_) ∧ some k_ ≠ (v1_ : Value).ownBlock) v0_ r1 ∧ Kd.R k80 80 w' w.heap.size (fun k_ => (w.heap.size ≤ k_)) v1_ r2 ∧ Below w.heap.size w w' := by
 have hu25 := Try.underlying25
 have hu80 := Try.underlying80
 have HB := Aside0.mk (Below.refl w.heap.size w)
 have H : (some ((([(([1] : List Int)), (([0] : List Int))] : List (List Int))), (([(⟨0, 0, 1⟩ : S80)] : List (S80))), true)) = some (r1, r2, r3) := h
 clear h
 obtain ⟨y102, hy102⟩ : ∃ y_ : List Int, y_ = (([1] : List Int)) := ⟨_, rfl⟩
 replace H : (some ((([y102, (([0] : List Int))] : List (List Int))), (([(⟨0, 0, 1⟩ : S80)] : List (S80))), true)) = some (r1, r2, r3) := by first | (rw [hy102]; with_reducible exact H) | (have H2_ := (Option.bind_some _ _).symm.trans H; rw [hy102]; with_reducible exact H2_) | (have H2_ := (Option.bind_some _ _).symm.trans H; with_reducible exact H2_) | with_reducible exact H | (rw [hy102]; exact H) | exact H
 have Ny102 := Aside0.mk hy102
 clear hy102
 obtain ⟨y105, hy105⟩ : ∃ y_ : List Int, y_ = (([0] : List Int)) := ⟨_, rfl⟩
 replace H : (some ((([y102, y105] : List (List Int))), (([(⟨0, 0, 1⟩ : S80)] : List (S80))), true)) = some (r1, r2, r3) := by first | (rw [hy105]; with_reducible exact H) | (have H2_ := (Option.bind_some _ _).symm.trans H; rw [hy105]; with_reducible exact H2_) | (have H2_ := (Option.bind_some _ _).symm.trans H; with_reducible exact H2_) | with_reducible exact H | (rw [hy105]; exact H) | exact H
 have Ny105 := Aside0.mk hy105
 clear hy105
 obtain ⟨y108, hy108⟩ : ∃ y_ : List (List Int), y_ = (([y102, y105] : List (List Int))) := ⟨_, rfl⟩
 replace H : (some (y108, (([(⟨0, 0, 1⟩ : S80)] : List (S80))), true)) = some (r1, r2, r3) := by first | (rw [hy108]; with_reducible exact H) | (have H2_ := (Option.bind_some _ _).symm.trans H; rw [hy108]; with_reducible exact H2_) | (have H2_ := (Option.bind_some _ _).symm.trans H; with_reducible exact H2_) | with_reducible exact H | (rw [hy108]; exact H) | exact H
 have Ny108 := Aside0.mk hy108
 clear hy108
 obtain ⟨y111, hy111⟩ : ∃ y_ : List (S80), y_ = (([(⟨0, 0, 1⟩ : S80)] : List (S80))) := ⟨_, rfl⟩
 replace H : (some (y108, y111, true)) = some (r1, r2, r3) := by first | (rw [hy111]; with_reducible exact H) | (have H2_ := (Option.bind_some _ _).symm.trans H; rw [hy111]; with_reducible exact H2_) | (have H2_ := (Option.bind_some _ _).symm.trans H; with_reducible exact H2_) | with_reducible exact H | (rw [hy111]; exact H) | exact H
 have Ny111 := Aside0.mk hy111
 clear hy111
 simp only [Option.some.injEq, Prod.mk.injEq] at H
 obtain ⟨rfl, rfl, rfl⟩ := H
 go_enter Try.func33, Try.ntmps33
 go_wp2_with (first | ((with_reducible refine gate_dst (N := 0) rfl ?_); refine box_event ?hg (N := 0) ?hd (cs := #[.slice none 0 0, .slice none 0 0, .bool false]) (t := 25) ?hr ?_; (case hd => rfl); (case hg => rfl); (case hr => first | (go_simp; done) | (go_simp; rfl)); intro gb101 hg w1 hbox hb; have n0_ := Aside0.mk (below_step (tB) hb); have n1_ := Aside0.mk (hbox); have n2_ := Aside0.mk ((by rw [hg]; exact (below_size (tB)) : w.heap.size ≤ gb101)); have n3_ := Aside0.mk ((by rw [hg]; exact (below_size (tB)) : w.heap.size ≤ gb101)); clear HB; have HB := n0_; have BK101 := n1_; have GW101 := n2_; have GE101 := n3_; clear n0_ n1_ n2_ n3_; clear hb hbox hg) | ((with_reducible refine gate_dst (N := 1) rfl ?_); refine Kd.R_lit (Kd.int .i64) _ 3 ?hg (N := 1) ?hd (xs := ([1] : List Int)) (inner := [.int .i64 1]) (ok := fun _ => True) (okp := fun _ => True) ?hr ?hp (fun _ hk => hk) trivial (Below.refl _ _) (Nat.le_refl _) (by simp) ?_; (case hd => rfl); (case hg => rfl); (case hr => first | (go_simp; done) | (go_simp; rfl)); (case hp => exact (Reps.one (show Kd.M (Kd.int .i64) _ _ _ 1 [.int .i64 1] from rfl) (Reps.none _ _))); intro v103 w2 ho3 hb hg_ hnew_; clear hg_ hnew_; (first | rw [← Ny102.out] at ho3 | (simp only [Int.reduceToNat] at ho3; rw [← Ny102.out] at ho3)); have n0_ := Aside0.mk (Kd.R_lower (Kd.R_newM (M := fun k_ => (w.heap.size ≤ k_)) ho3 (below_size (tB)) (fun k_ h_ => h_)) (below_size (tB))); have n1_ := Aside0.mk (blk_below (g := gb101) (o := .cells #[.slice none 0 0, .slice none 0 0, .bool false] 25 (0, 0)) (tK BK101) hb); have n2_ := Aside0.mk (below_step (tB) hb); clear BK101; clear HB; have HO104 := n0_; have BK101 := n1_; have HB := n2_; clear n0_ n1_ n2_; clear hb ho3) | ((with_reducible refine gate_dst (N := 2) rfl ?_); refine Kd.R_lit (Kd.int .i64) _ 3 ?hg (N := 2) ?hd (xs := ([0] : List Int)) (inner := [.int .i64 0]) (ok := fun _ => True) (okp := fun _ => True) ?hr ?hp (fun _ hk => hk) trivial (Below.refl _ _) (Nat.le_refl _) (by simp) ?_; (case hd => rfl); (case hg => rfl); (case hr => first | (go_simp; done) | (go_simp; rfl)); (case hp => exact (Reps.one (show Kd.M (Kd.int .i64) _ _ _ 0 [.int .i64 0] from rfl) (Reps.none _ _))); intro v106 w4 ho5 hb hg_ hnew_; clear hg_ hnew_; (first | rw [← Ny105.out] at ho5 | (simp only [Int.reduceToNat] at ho5; rw [← Ny105.out] at ho5)); have n0_ := Aside0.mk (Kd.R_elder' (tR HO104) (Kd.R_base ho5) hb); have n1_ := Aside0.mk (Kd.R_lower (Kd.R_new' (Kd.R_newM (M := fun k_ => (w.heap.size ≤ k_)) ho5 (below_size (tB)) (fun k_ h_ => h_)) (Kd.R_lt (tR HO104))) (below_size (tB))); have n2_ := Aside0.mk (blk_below (g := gb101) (o := .cells #[.slice none 0 0, .slice none 0 0, .bool false] 25 (0, 0)) (tK BK101) hb); have n3_ := Aside0.mk (below_step (tB) hb); clear HO104; clear BK101; clear HB; have HO104 := n0_; have HO107 := n1_; have BK101 := n2_; have HB := n3_; clear n0_ n1_ n2_ n3_; clear hb ho5; obtain ⟨Ao6, co6, eo6⟩ := Kd.R_slice HO104.out; subst eo6; obtain ⟨Ao7, co7, eo7⟩ := Kd.R_slice HO107.out; subst eo7) | ((with_reducible refine gate_dst (N := 3) rfl ?_); refine Kd.N_lit (Kd.slice 3 (Kd.int .i64)) _ 28 ?hg (N' := 3) ?hd (xs := ([y102, y105] : List (List Int))) (inner := [.slice Ao6 y102.length co6, .slice Ao7 y105.length co7]) (ok := (fun k_ => (w.heap.size ≤ k_) ∧ k_ ≠ gb101)) (okp := (fun k_ => (w.heap.size ≤ k_) ∧ k_ ≠ gb101)) ?hr ?hp (fun _ hk => hk) ((show ∀ k_, w4.heap.size ≤ k_ → (fun k_ => (w.heap.size ≤ k_) ∧ k_ ≠ gb101) k_ from fun k_ hk => ⟨(Nat.le_trans (below_size (tB)) hk), Kd.freshB (g := gb101) (o := .cells #[.slice none 0 0, .slice none 0 0, .bool false] 25 (0, 0)) (tK BK101) k_ hk⟩) _ (Nat.le_refl _)) (Below.refl _ _) (Nat.le_refl _) (by simp) ?_; (case hd => rfl); (case hg => rfl); (case hr => first | (go_simp; done) | (go_simp; rfl)); (case hp => exact (Reps.one (show Kd.FK (Kd.slice 3 (Kd.int .i64)) _ _ y102 [.slice Ao6 y102.length co6] from (Kd.FK_slice_mk (Kd.R_reads' (Kd.R_mono (ok' := (fun k_ => (w.heap.size ≤ k_) ∧ k_ ≠ gb101)) (Kd.R_types (HO104.out) BK101.out (by decide)) (fun k_ hk => ⟨hk.1.1.1, hk.2⟩))).2.1 (Kd.R_F (Kd.R_mono (ok' := (fun k_ => (w.heap.size ≤ k_) ∧ k_ ≠ gb101)) (Kd.R_types (HO104.out) BK101.out (by decide)) (fun k_ hk => ⟨hk.1.1.1, hk.2⟩))))) (Reps.one (show Kd.FK (Kd.slice 3 (Kd.int .i64)) _ _ y105 [.slice Ao7 y105.length co7] from (Kd.FK_slice_mk (Kd.R_reads' (Kd.R_mono (ok' := (fun k_ => (w.heap.size ≤ k_) ∧ k_ ≠ gb101)) (Kd.R_types (HO107.out) BK101.out (by decide)) (fun k_ hk => ⟨hk.1.1.1, hk.2⟩))).2.1 (Kd.R_F (Kd.R_mono (ok' := (fun k_ => (w.heap.size ≤ k_) ∧ k_ ≠ gb101)) (Kd.R_types (HO107.out) BK101.out (by decide)) (fun k_ hk => ⟨hk.1.1.1, hk.2⟩))))) (Reps.none _ _)))); intro v109 w8 ho9 hb hg_ hnew_; clear hg_ hnew_; (first | rw [← Ny108.out] at ho9 | (simp only [Int.reduceToNat] at ho9; rw [← Ny108.out] at ho9)); have n0_ := Aside0.mk (Kd.N_lower ho9 (below_size (tB))); have n1_ := Aside0.mk (blk_below (g := gb101) (o := .cells #[.slice none 0 0, .slice none 0 0, .bool false] 25 (0, 0)) (tK BK101) hb); have n2_ := Aside0.mk (below_step (tB) hb); clear BK101; clear HB; clear HO104; clear HO107; have HO110 := n0_; have BK101 := n1_; have HB := n2_; clear n0_ n1_ n2_; clear hb ho9) | ((with_reducible refine gate_dst (N := 5) rfl ?_); refine Kd.R_lit k80 _ 80 ?hg (N := 5) ?hd (xs := ([(⟨0, 0, 1⟩ : S80)] : List (S80))) (inner := [.int .i64 0, .int .i64 0, .int .i64 1]) (ok := fun _ => True) (okp := fun _ => True) ?hr ?hp (fun _ hk => hk) trivial (Below.refl _ _) (Nat.le_refl _) (by simp) ?_; (case hd => rfl); (case hg => rfl); (case hr => first | (go_simp; done) | (go_simp; rfl)); (case hp => exact (Reps.c3 (show Kd.M k80 _ _ _ (⟨0, 0, 1⟩ : S80) [.int .i64 0, .int .i64 0, .int .i64 1] from (k80_mkM _ _ _ (⟨0, 0, 1⟩ : S80) )) (Reps.none _ _))); intro v112 w10 ho11 hb hg_ hnew_; clear hg_ hnew_; (first | rw [← Ny111.out] at ho11 | (simp only [Int.reduceToNat] at ho11; rw [← Ny111.out] at ho11)); have n0_ := Aside0.mk (Kd.N_elder' (tR HO110) (Kd.R_base ho11) hb); have n1_ := Aside0.mk (Kd.R_lower (Kd.R_newM (M := fun k_ => (w.heap.size ≤ k_)) ho11 (below_size (tB)) (fun k_ h_ => h_)) (below_size (tB))); have n2_ := Aside0.mk (blk_below (g := gb101) (o := .cells #[.slice none 0 0, .slice none 0 0, .bool false] 25 (0, 0)) (tK BK101) hb); have n3_ := Aside0.mk (below_step (tB) hb); clear HO110; clear BK101; clear HB; have HO110 := n0_; have HO113 := n1_; have BK101 := n2_; have HB := n3_; clear n0_ n1_ n2_ n3_; clear hb ho11; obtain ⟨Ao12, co12, eo12⟩ := Kd.R_slice HO113.out; subst eo12; obtain ⟨Ao13, co13, eo13⟩ := Kd.N_slice HO110.out; subst eo13; have hcz14_0 : w10.cell? ⟨gb101, 0, none⟩ = some (.slice none 0 0) := (blk_cell BK101.out 0).trans rfl; have hcz14_1 : w10.cell? ⟨gb101, 1, none⟩ = some (.slice none 0 0) := (blk_cell BK101.out 1).trans rfl; have hcz14_2 : w10.cell? ⟨gb101, 2, none⟩ = some (.bool false) := (blk_cell BK101.out 2).trans rfl; have hfz14_0 := blk_frozen BK101.out 0; have hfz14_1 := blk_frozen BK101.out 1; have hfz14_2 := blk_frozen BK101.out 2))
 refine bodyPost_ret (results_cell_row rfl _ _ gb101 25 #[.slice Ao13 y108.length co13, .slice Ao12 y111.length co12, .bool true] (0, 0) _ rfl (by (with_reducible repeat (first | refine blk_drewN ?_ _ | refine blk_drew ?_ | refine blk_alloc ?_ _)); refine blk_put (cs := #[.slice Ao13 y108.length co13, .slice Ao12 y111.length co12, .bool false]) ?_ 2 _ rfl; (with_reducible repeat (first | refine blk_drewN ?_ _ | refine blk_drew ?_ | refine blk_alloc ?_ _)); refine blk_put (cs := #[.slice Ao13 y108.length co13, .slice none 0 0, .bool false]) ?_ 1 _ rfl; (with_reducible repeat (first | refine blk_drewN ?_ _ | refine blk_drew ?_ | refine blk_alloc ?_ _)); refine blk_put (cs := #[.slice none 0 0, .slice none 0 0, .bool false]) ?_ 0 _ rfl; (with_reducible repeat (first | refine blk_drewN ?_ _ | refine blk_drew ?_ | refine blk_alloc ?_ _)); exact BK101.out) Try.underlying25 rfl (by kernel_rfl)) rfl ?_
 exact ⟨_, _, tE, by (with_reducible repeat (first | apply Kd.N_alloc | apply Kd.N_drewN | apply Kd.N_drew)); exact Kd.N_mono (Kd.N_far (p := ⟨gb101, 2, none⟩) (Kd.N_far (p := ⟨gb101, 1, none⟩) (Kd.N_far (p := ⟨gb101, 0, none⟩) (Kd.N_mono HO110.out (fun k_ hk => (⟨hk, hk.1.2⟩ : _ ∧ k_ ≠ gb101))) (fun _ hk => hk.2) (.slice Ao13 y108.length co13)) (fun _ hk => hk.2) (.slice Ao12 y111.length co12)) (fun _ hk => hk.2) (.bool true)) (fun _ hk => ⟨hk.1.1.1, hk.1.2⟩), by (with_reducible repeat (first | apply Kd.R_alloc | apply Kd.R_drewN | apply Kd.R_drew)); exact Kd.R_mono (Kd.R_far (p := ⟨gb101, 2, none⟩) (Kd.R_far (p := ⟨gb101, 1, none⟩) (Kd.R_far (p := ⟨gb101, 0, none⟩) (Kd.R_types HO113.out BK101.out (by decide)) (fun _ hk => hk.2) (.slice Ao13 y108.length co13)) (fun _ hk => hk.2) (.slice Ao12 y111.length co12)) (fun _ hk => hk.2) (.bool true)) (fun _ hk => hk.1.1), tB⟩
end Go.Proofs.Ytfnjbgggmddgpaa.Q
end
section
namespace Go.Proofs.Ytfnjbgggmddgpaa.Q
open Go.RowKit Go.Proofs.Fn Go.Proofs.YtfnjbgggmddgpaaW.PrintWords Go.Proofs.YtfnjbgggmddgpaaW.PrintLast Go.Proofs.YtfnjbgggmddgpaaW.PrintMore
attribute [local go_sem] max2_int min2_int max_two min_two max_three min_three max_four min_four
set_option linter.unusedVariables false
set_option linter.unusedSimpArgs false
def petrinetlaw16_alive.f (k : Nat)  : Option (Bool) := (petrinetlaw16_step.f).bind fun bt101 => ((witness_Dead.f k bt101.1 bt101.2.1 bt101.2.2).bind fun bt108 => (if bt108.2 = true then ((petrinetref04_Same.f k bt108.1 (([0] : List Int))).bind fun t115 => (if t115 = true then ((petrinetlaw16_step.f).bind fun bt116 => ((witness_Diameter.f k bt116.1 bt116.2.1 bt116.2.2).bind fun t123 => (if t123 = 1 then ((witness_Diameter.f k ([] : List (List Int)) ([] : List (S80)) false).bind fun t124 => (some (t124 == (-1)))) else (some false)))) else (some false))) else (some false)))
theorem petrinetlaw16_alive.mono : ∀ k, LeO (petrinetlaw16_alive.f k ) (petrinetlaw16_alive.f (k + 1) ) := by
 intro  k
 unfold petrinetlaw16_alive.f
 repeat' first
   | (with_reducible exact petrinetref04_Same.mono _ _ _)
   | (with_reducible exact witness_Dead.mono _ _ _ _)
   | (with_reducible exact witness_Diameter.mono _ _ _ _)
   | (with_reducible exact LeO.refl _)
   | (with_reducible exact LeO.none _)
   | (with_reducible refine LeO.ite ?_ ?_)
   | (with_reducible refine LeO.bind ?_ (fun _ => ?_))
   | exact petrinetref04_Same.mono _ _ _
   | exact witness_Dead.mono _ _ _ _
   | exact witness_Diameter.mono _ _ _ _
   | exact LeO.none _
   | refine LeO.ite ?_ ?_
   | refine LeO.bind ?_ (fun _ => ?_)
set_option maxHeartbeats 8000000 in
set_option maxRecDepth 100000 in
theorem petrinetlaw16_alive.calls (k : Nat)  (r : Bool) (w : World) (h : petrinetlaw16_alive.f k  = some r) :
  Calls Try.prog 10 #[] w fun e w' => e = .returned (.bool r) ∧ Below w.heap.size w w' := by
 have hu25 := Try.underlying25
 have HB := Aside0.mk (Below.refl w.heap.size w)
 have H : ((petrinetlaw16_step.f).bind fun bt101 => ((witness_Dead.f k bt101.1 bt101.2.1 bt101.2.2).bind fun bt108 => (if bt108.2 = true then ((petrinetref04_Same.f k bt108.1 (([0] : List Int))).bind fun t115 => (if t115 = true then ((petrinetlaw16_step.f).bind fun bt116 => ((witness_Diameter.f k bt116.1 bt116.2.1 bt116.2.2).bind fun t123 => (if t123 = 1 then ((witness_Diameter.f k ([] : List (List Int)) ([] : List (S80)) false).bind fun t124 => (some (t124 == (-1)))) else (some false)))) else (some false))) else (some false)))) = some r := h
 clear h
 replace H := Option.bind_eq_some_iff.mp H
 obtain ⟨⟨t101, t104, t107⟩, A10, H⟩ := H
 replace H : ((witness_Dead.f k t101 t104 t107).bind fun bt108 => (if bt108.2 = true then ((petrinetref04_Same.f k bt108.1 (([0] : List Int))).bind fun t115 => (if t115 = true then ((petrinetlaw16_step.f).bind fun bt116 => ((witness_Diameter.f k bt116.1 bt116.2.1 bt116.2.2).bind fun t123 => (if t123 = 1 then ((witness_Diameter.f k ([] : List (List Int)) ([] : List (S80)) false).bind fun t124 => (some (t124 == (-1)))) else (some false)))) else (some false))) else (some false))) = some r := H
 have A1 := Aside0.mk A10
 clear A10
 replace H := Option.bind_eq_some_iff.mp H
 obtain ⟨⟨t108, t111⟩, A20, H⟩ := H
 replace H : (if t111 = true then ((petrinetref04_Same.f k t108 (([0] : List Int))).bind fun t115 => (if t115 = true then ((petrinetlaw16_step.f).bind fun bt116 => ((witness_Diameter.f k bt116.1 bt116.2.1 bt116.2.2).bind fun t123 => (if t123 = 1 then ((witness_Diameter.f k ([] : List (List Int)) ([] : List (S80)) false).bind fun t124 => (some (t124 == (-1)))) else (some false)))) else (some false))) else (some false)) = some r := H
 have A2 := Aside0.mk A20
 clear A20
 by_cases c3 : t111 = true
 ·subst c3
  have H1 : ((petrinetref04_Same.f k t108 (([0] : List Int))).bind fun t115 => (if t115 = true then ((petrinetlaw16_step.f).bind fun bt116 => ((witness_Diameter.f k bt116.1 bt116.2.1 bt116.2.2).bind fun t123 => (if t123 = 1 then ((witness_Diameter.f k ([] : List (List Int)) ([] : List (S80)) false).bind fun t124 => (some (t124 == (-1)))) else (some false)))) else (some false))) = some r := by rw [if_pos rfl] at H; exact H
  clear H
  have H := H1
  clear H1
  obtain ⟨y112, hy112⟩ : ∃ y_ : List Int, y_ = (([0] : List Int)) := ⟨_, rfl⟩
  replace H : ((petrinetref04_Same.f k t108 y112).bind fun t115 => (if t115 = true then ((petrinetlaw16_step.f).bind fun bt116 => ((witness_Diameter.f k bt116.1 bt116.2.1 bt116.2.2).bind fun t123 => (if t123 = 1 then ((witness_Diameter.f k ([] : List (List Int)) ([] : List (S80)) false).bind fun t124 => (some (t124 == (-1)))) else (some false)))) else (some false))) = some r := by first | (rw [hy112]; with_reducible exact H) | (have H2_ := (Option.bind_some _ _).symm.trans H; rw [hy112]; with_reducible exact H2_) | (have H2_ := (Option.bind_some _ _).symm.trans H; with_reducible exact H2_) | with_reducible exact H | (rw [hy112]; exact H) | exact H
  have Ny112 := Aside0.mk hy112
  clear hy112
  replace H := Option.bind_eq_some_iff.mp H
  obtain ⟨t115, A40, H⟩ := H
  replace H : (if t115 = true then ((petrinetlaw16_step.f).bind fun bt116 => ((witness_Diameter.f k bt116.1 bt116.2.1 bt116.2.2).bind fun t123 => (if t123 = 1 then ((witness_Diameter.f k ([] : List (List Int)) ([] : List (S80)) false).bind fun t124 => (some (t124 == (-1)))) else (some false)))) else (some false)) = some r := H
  have A4 := Aside0.mk A40
  clear A40
  by_cases c5 : t115 = true
  ·subst c5
   have H1 : ((petrinetlaw16_step.f).bind fun bt116 => ((witness_Diameter.f k bt116.1 bt116.2.1 bt116.2.2).bind fun t123 => (if t123 = 1 then ((witness_Diameter.f k ([] : List (List Int)) ([] : List (S80)) false).bind fun t124 => (some (t124 == (-1)))) else (some false)))) = some r := by rw [if_pos rfl] at H; exact H
   clear H
   have H := H1
   clear H1
   replace H := Option.bind_eq_some_iff.mp H
   obtain ⟨⟨t116, t119, t122⟩, A60, H⟩ := H
   replace H : ((witness_Diameter.f k t116 t119 t122).bind fun t123 => (if t123 = 1 then ((witness_Diameter.f k ([] : List (List Int)) ([] : List (S80)) false).bind fun t124 => (some (t124 == (-1)))) else (some false))) = some r := H
   have A6 := Aside0.mk A60
   clear A60
   replace H := Option.bind_eq_some_iff.mp H
   obtain ⟨t123, A70, H⟩ := H
   replace H : (if t123 = 1 then ((witness_Diameter.f k ([] : List (List Int)) ([] : List (S80)) false).bind fun t124 => (some (t124 == (-1)))) else (some false)) = some r := H
   have A7 := Aside0.mk A70
   clear A70
   by_cases c8 : t123 = 1
   ·rw [if_pos c8] at H
    have c8b0 : (t123 == 1) = true := beq_iff_eq.mpr c8
    have c8b1 : (t123 != 1) = false := bne_eq_false_iff_eq.mpr c8
    clear c8
    replace H := Option.bind_eq_some_iff.mp H
    obtain ⟨t124, A90, H⟩ := H
    replace H : (some (t124 == (-1))) = some r := H
    have A9 := Aside0.mk A90
    clear A90
    obtain rfl := Option.some.inj H
    go_enter Try.func10, Try.ntmps10
    go_wp2_with (first | ((with_reducible refine gate_callee (f := 33) rfl ?_); refine goesL_ (some 4) rfl rfl Try.func33 (by kernel_rfl) rfl #[] rfl (by (try simp only [List.map_toArray, List.map_cons, List.map_nil]); first | done | rfl | (simp only [List.length_drop, List.length_take]; rfl)) ?_; (with_reducible refine (petrinetlaw16_step.calls  t101 t104 t107 _ A1.out).mono ?_); rintro e w10 ⟨v102, v105, rfl, ho0, ho1, hb⟩; refine ⟨_, rfl, ?_⟩; have n0_ := Aside0.mk (Kd.N_lower (Kd.N_mono (ok' := fun k_ => some k_ ≠ (v105 : Value).ownBlock) ho0 (fun k_ hk_ => hk_.2)) (below_size (tB))); have n1_ := Aside0.mk (Kd.R_lower (Kd.R_mono (ok' := fun k_ => True) ho1 (fun _ hk_ => trivial)) (below_size (tB))); have n2_ := Aside0.mk (below_step (tB) hb); clear HB; have HO103 := n0_; have HO106 := n1_; have HB := n2_; clear n0_ n1_ n2_; (try clear hb); (try clear hb2); (try clear hk); (try clear hi); (try clear ho0); (try clear ho1); obtain ⟨Ao11, co11, eo11⟩ := Kd.N_slice HO103.out; subst eo11; obtain ⟨Ao12, co12, eo12⟩ := Kd.R_slice HO106.out; subst eo12) | ((with_reducible refine gate_callee (f := 11) rfl ?_); refine goesL_ (some 5) rfl rfl Try.func11 (by kernel_rfl) rfl #[.agg #[.slice Ao11 t101.length co11, .slice Ao12 t104.length co12, .bool t107]] rfl (by (try simp only [List.map_toArray, List.map_cons, List.map_nil]); first | done | rfl | (simp only [List.length_drop, List.length_take]; rfl)) ?_; (with_reducible refine (witness_Dead.calls k _ _ t101 _ _ t104 t107 t108 true _ ?side1 ?side2 ?side3 ?side4 A2.out).mono ?_); (case side1 => exact tC (Kd.N_reads' HO103.out).2.2); (case side2 => exact (Kd.N_reads' HO103.out).2.1); (case side3 => exact tC (Kd.R_reads' HO106.out).2.2); (case side4 => exact (Kd.R_reads' HO106.out).2.1); rintro e w13 ⟨v109, rfl, ho0, hb⟩; refine ⟨_, rfl, ?_⟩; have n0_ := Aside0.mk (Kd.N_elder' (tR HO103) (Kd.R_base ho0) hb); have n1_ := Aside0.mk (Kd.R_below (tR HO106) hb); have n2_ := Aside0.mk (Kd.R_lower ho0 (below_size (tB))); have n3_ := Aside0.mk (below_step (tB) hb); clear HO103; clear HO106; clear HB; have HO103 := n0_; have HO106 := n1_; have HO110 := n2_; have HB := n3_; clear n0_ n1_ n2_ n3_; (try clear hb); (try clear hb2); (try clear hk); (try clear hi); (try clear ho0)) | ((with_reducible refine gate_dst (N := 11) rfl ?_); (try (refine gate_guard (by rfl) ?_; dsimp only)); refine Kd.R_lit (Kd.int .i64) _ 3 ?hg (N := 11) ?hd (xs := ([0] : List Int)) (inner := [.int .i64 0]) (ok := fun _ => True) (okp := fun _ => True) ?hr ?hp (fun _ hk => hk) trivial (Below.refl _ _) (Nat.le_refl _) (by simp) ?_; (case hd => rfl); (case hg => rfl); (case hr => first | (go_simp; done) | (go_simp; rfl)); (case hp => exact (Reps.one (show Kd.M (Kd.int .i64) _ _ _ 0 [.int .i64 0] from rfl) (Reps.none _ _))); intro v113 w14 ho15 hb hg_ hnew_; clear hg_ hnew_; (first | rw [← Ny112.out] at ho15 | (simp only [Int.reduceToNat] at ho15; rw [← Ny112.out] at ho15)); have n0_ := Aside0.mk (Kd.N_elder' (tR HO103) (Kd.R_base ho15) hb); have n1_ := Aside0.mk (Kd.R_below (tR HO106) hb); have n2_ := Aside0.mk (Kd.R_elder' (tR HO110) (Kd.R_base ho15) hb); have n3_ := Aside0.mk (Kd.R_lower (Kd.R_new' ho15 (Kd.R_lt (tR HO110))) (below_size (tB))); have n4_ := Aside0.mk (below_step (tB) hb); clear HO103; clear HO106; clear HO110; clear HB; have HO103 := n0_; have HO106 := n1_; have HO110 := n2_; have HO114 := n3_; have HB := n4_; clear n0_ n1_ n2_ n3_ n4_; clear hb ho15; obtain ⟨Ao16, co16, eo16⟩ := Kd.R_slice HO110.out; subst eo16; obtain ⟨Ao17, co17, eo17⟩ := Kd.R_slice HO114.out; subst eo17) | (go_at_call 13; (with_reducible refine (petrinetref04_Same.calls k _ _ t108 _ _ y112 true _ ?side1 ?side2 ?side3 ?side4 A4.out).mono ?_); (case side1 => exact tC (Kd.R_reads' HO110.out).2.2); (case side2 => exact (Kd.R_reads' HO110.out).2.1); (case side3 => exact tC (Kd.R_reads' HO114.out).2.2); (case side4 => exact (Kd.R_reads' HO114.out).2.1); rintro e w' ⟨rfl, ⟨nd, rfl⟩⟩) | (go_at_call 33; (with_reducible refine (petrinetlaw16_step.calls  t116 t119 t122 _ A6.out).mono ?_); rintro e w18 ⟨v117, v120, rfl, ho0, ho1, hb⟩; have n0_ := Aside0.mk (Kd.N_mono (Kd.N_told (Kd.N_told (Kd.N_old (tR HO103) hb) (Kd.N_base ho0)) (Kd.R_base ho1)) (fun _ h_ => h_.1)); have n1_ := Aside0.mk (Kd.R_elder' (tR HO106) (Kd.R_base ho1) hb); have n2_ := Aside0.mk (Kd.R_below (tR HO110) hb); have n3_ := Aside0.mk (Kd.R_below (tR HO114) hb); have n4_ := Aside0.mk (Kd.N_lower (Kd.N_mono (ok' := fun k_ => some k_ ≠ (v120 : Value).ownBlock ∧ some k_ ≠ (.slice Ao11 t101.length co11 : Value).ownBlock ∧ some k_ ≠ (.slice Ao12 t104.length co12 : Value).ownBlock ∧ some k_ ≠ (.slice Ao16 t108.length co16 : Value).ownBlock ∧ some k_ ≠ (.slice Ao17 y112.length co17 : Value).ownBlock) ho0 (fun k_ hk_ => ⟨hk_.2, (Kd.fresh' (Kd.N_lt (tR HO103)) k_ hk_.1), (Kd.fresh' (Kd.R_lt (tR HO106)) k_ hk_.1), (Kd.fresh' (Kd.R_lt (tR HO110)) k_ hk_.1), (Kd.fresh' (Kd.R_lt (tR HO114)) k_ hk_.1)⟩)) (below_size (tB))); have n5_ := Aside0.mk (Kd.R_lower (Kd.R_new' (Kd.R_mono (ok' := fun k_ => True) ho1 (fun _ hk_ => trivial)) (Kd.R_lt (tR HO106))) (below_size (tB))); have n6_ := Aside0.mk (below_step (tB) hb); clear HO103; clear HO106; clear HO110; clear HO114; clear HB; have HO103 := n0_; have HO106 := n1_; have HO110 := n2_; have HO114 := n3_; have HO118 := n4_; have HO121 := n5_; have HB := n6_; clear n0_ n1_ n2_ n3_ n4_ n5_ n6_; (try clear hb); (try clear hb2); (try clear hk); (try clear hi); (try clear ho0); (try clear ho1); obtain ⟨Ao19, co19, eo19⟩ := Kd.N_slice HO118.out; subst eo19; obtain ⟨Ao20, co20, eo20⟩ := Kd.R_slice HO121.out; subst eo20) | (go_at_call 14; (with_reducible refine (witness_Diameter.calls k _ _ t116 _ _ t119 t122 t123 _ ?side1 ?side2 ?side3 ?side4 A7.out).mono ?_); (case side1 => exact tC (Kd.N_reads' HO118.out).2.2); (case side2 => exact (Kd.N_reads' HO118.out).2.1); (case side3 => exact tC (Kd.R_reads' HO121.out).2.2); (case side4 => exact (Kd.R_reads' HO121.out).2.1); rintro e w21 ⟨rfl, hb⟩; have n0_ := Aside0.mk (Kd.N_below (tR HO103) hb); have n1_ := Aside0.mk (Kd.R_below (tR HO106) hb); have n2_ := Aside0.mk (Kd.R_below (tR HO110) hb); have n3_ := Aside0.mk (Kd.R_below (tR HO114) hb); have n4_ := Aside0.mk (Kd.N_below (tR HO118) hb); have n5_ := Aside0.mk (Kd.R_below (tR HO121) hb); have n6_ := Aside0.mk (below_step (tB) hb); clear HO103; clear HO106; clear HO110; clear HO114; clear HO118; clear HO121; clear HB; have HO103 := n0_; have HO106 := n1_; have HO110 := n2_; have HO114 := n3_; have HO118 := n4_; have HO121 := n5_; have HB := n6_; clear n0_ n1_ n2_ n3_ n4_ n5_ n6_; (try clear hb); (try clear hb2); (try clear hk); (try clear hi)) | (go_at_call 14; (refine (witness_Diameter.calls k _ _ ([] : List (List Int)) _ _ ([] : List (S80)) false t124 _ ?side1 ?side2 ?side3 ?side4 A9.out).mono ?_); (case side1 => exact Kd.C_nil _ _); (case side2 => exact Nat.le_refl _); (case side3 => exact Kd.C_nil _ _); (case side4 => exact Nat.le_refl _); rintro e w22 ⟨rfl, hb⟩; have n0_ := Aside0.mk (Kd.N_below (tR HO103) hb); have n1_ := Aside0.mk (Kd.R_below (tR HO106) hb); have n2_ := Aside0.mk (Kd.R_below (tR HO110) hb); have n3_ := Aside0.mk (Kd.R_below (tR HO114) hb); have n4_ := Aside0.mk (Kd.N_below (tR HO118) hb); have n5_ := Aside0.mk (Kd.R_below (tR HO121) hb); have n6_ := Aside0.mk (below_step (tB) hb); clear HO103; clear HO106; clear HO110; clear HO114; clear HO118; clear HO121; clear HB; have HO103 := n0_; have HO106 := n1_; have HO110 := n2_; have HO114 := n3_; have HO118 := n4_; have HO121 := n5_; have HB := n6_; clear n0_ n1_ n2_ n3_ n4_ n5_ n6_; (try clear hb); (try clear hb2); (try clear hk); (try clear hi)))
    go_ret
    exact ⟨tE, tB⟩
   ·rw [if_neg c8] at H
    have c8b0 : (t123 == 1) = false := beq_eq_false_iff_ne.mpr c8
    have c8b1 : (t123 != 1) = true := bne_iff_ne.mpr c8
    obtain rfl := Option.some.inj H
    go_enter Try.func10, Try.ntmps10
    go_wp2_with (first | ((with_reducible refine gate_callee (f := 33) rfl ?_); refine goesL_ (some 4) rfl rfl Try.func33 (by kernel_rfl) rfl #[] rfl (by (try simp only [List.map_toArray, List.map_cons, List.map_nil]); first | done | rfl | (simp only [List.length_drop, List.length_take]; rfl)) ?_; (with_reducible refine (petrinetlaw16_step.calls  t101 t104 t107 _ A1.out).mono ?_); rintro e w23 ⟨v102, v105, rfl, ho0, ho1, hb⟩; refine ⟨_, rfl, ?_⟩; have n0_ := Aside0.mk (Kd.N_lower (Kd.N_mono (ok' := fun k_ => some k_ ≠ (v105 : Value).ownBlock) ho0 (fun k_ hk_ => hk_.2)) (below_size (tB))); have n1_ := Aside0.mk (Kd.R_lower (Kd.R_mono (ok' := fun k_ => True) ho1 (fun _ hk_ => trivial)) (below_size (tB))); have n2_ := Aside0.mk (below_step (tB) hb); clear HB; have HO103 := n0_; have HO106 := n1_; have HB := n2_; clear n0_ n1_ n2_; (try clear hb); (try clear hb2); (try clear hk); (try clear hi); (try clear ho0); (try clear ho1); obtain ⟨Ao24, co24, eo24⟩ := Kd.N_slice HO103.out; subst eo24; obtain ⟨Ao25, co25, eo25⟩ := Kd.R_slice HO106.out; subst eo25) | ((with_reducible refine gate_callee (f := 11) rfl ?_); refine goesL_ (some 5) rfl rfl Try.func11 (by kernel_rfl) rfl #[.agg #[.slice Ao24 t101.length co24, .slice Ao25 t104.length co25, .bool t107]] rfl (by (try simp only [List.map_toArray, List.map_cons, List.map_nil]); first | done | rfl | (simp only [List.length_drop, List.length_take]; rfl)) ?_; (with_reducible refine (witness_Dead.calls k _ _ t101 _ _ t104 t107 t108 true _ ?side1 ?side2 ?side3 ?side4 A2.out).mono ?_); (case side1 => exact tC (Kd.N_reads' HO103.out).2.2); (case side2 => exact (Kd.N_reads' HO103.out).2.1); (case side3 => exact tC (Kd.R_reads' HO106.out).2.2); (case side4 => exact (Kd.R_reads' HO106.out).2.1); rintro e w26 ⟨v109, rfl, ho0, hb⟩; refine ⟨_, rfl, ?_⟩; have n0_ := Aside0.mk (Kd.N_elder' (tR HO103) (Kd.R_base ho0) hb); have n1_ := Aside0.mk (Kd.R_below (tR HO106) hb); have n2_ := Aside0.mk (Kd.R_lower ho0 (below_size (tB))); have n3_ := Aside0.mk (below_step (tB) hb); clear HO103; clear HO106; clear HB; have HO103 := n0_; have HO106 := n1_; have HO110 := n2_; have HB := n3_; clear n0_ n1_ n2_ n3_; (try clear hb); (try clear hb2); (try clear hk); (try clear hi); (try clear ho0)) | ((with_reducible refine gate_dst (N := 11) rfl ?_); (try (refine gate_guard (by rfl) ?_; dsimp only)); refine Kd.R_lit (Kd.int .i64) _ 3 ?hg (N := 11) ?hd (xs := ([0] : List Int)) (inner := [.int .i64 0]) (ok := fun _ => True) (okp := fun _ => True) ?hr ?hp (fun _ hk => hk) trivial (Below.refl _ _) (Nat.le_refl _) (by simp) ?_; (case hd => rfl); (case hg => rfl); (case hr => first | (go_simp; done) | (go_simp; rfl)); (case hp => exact (Reps.one (show Kd.M (Kd.int .i64) _ _ _ 0 [.int .i64 0] from rfl) (Reps.none _ _))); intro v113 w27 ho28 hb hg_ hnew_; clear hg_ hnew_; (first | rw [← Ny112.out] at ho28 | (simp only [Int.reduceToNat] at ho28; rw [← Ny112.out] at ho28)); have n0_ := Aside0.mk (Kd.N_elder' (tR HO103) (Kd.R_base ho28) hb); have n1_ := Aside0.mk (Kd.R_below (tR HO106) hb); have n2_ := Aside0.mk (Kd.R_elder' (tR HO110) (Kd.R_base ho28) hb); have n3_ := Aside0.mk (Kd.R_lower (Kd.R_new' ho28 (Kd.R_lt (tR HO110))) (below_size (tB))); have n4_ := Aside0.mk (below_step (tB) hb); clear HO103; clear HO106; clear HO110; clear HB; have HO103 := n0_; have HO106 := n1_; have HO110 := n2_; have HO114 := n3_; have HB := n4_; clear n0_ n1_ n2_ n3_ n4_; clear hb ho28; obtain ⟨Ao29, co29, eo29⟩ := Kd.R_slice HO110.out; subst eo29; obtain ⟨Ao30, co30, eo30⟩ := Kd.R_slice HO114.out; subst eo30) | (go_at_call 13; (with_reducible refine (petrinetref04_Same.calls k _ _ t108 _ _ y112 true _ ?side1 ?side2 ?side3 ?side4 A4.out).mono ?_); (case side1 => exact tC (Kd.R_reads' HO110.out).2.2); (case side2 => exact (Kd.R_reads' HO110.out).2.1); (case side3 => exact tC (Kd.R_reads' HO114.out).2.2); (case side4 => exact (Kd.R_reads' HO114.out).2.1); rintro e w' ⟨rfl, ⟨nd, rfl⟩⟩) | (go_at_call 33; (with_reducible refine (petrinetlaw16_step.calls  t116 t119 t122 _ A6.out).mono ?_); rintro e w31 ⟨v117, v120, rfl, ho0, ho1, hb⟩; have n0_ := Aside0.mk (Kd.N_mono (Kd.N_told (Kd.N_told (Kd.N_old (tR HO103) hb) (Kd.N_base ho0)) (Kd.R_base ho1)) (fun _ h_ => h_.1)); have n1_ := Aside0.mk (Kd.R_elder' (tR HO106) (Kd.R_base ho1) hb); have n2_ := Aside0.mk (Kd.R_below (tR HO110) hb); have n3_ := Aside0.mk (Kd.R_below (tR HO114) hb); have n4_ := Aside0.mk (Kd.N_lower (Kd.N_mono (ok' := fun k_ => some k_ ≠ (v120 : Value).ownBlock ∧ some k_ ≠ (.slice Ao24 t101.length co24 : Value).ownBlock ∧ some k_ ≠ (.slice Ao25 t104.length co25 : Value).ownBlock ∧ some k_ ≠ (.slice Ao29 t108.length co29 : Value).ownBlock ∧ some k_ ≠ (.slice Ao30 y112.length co30 : Value).ownBlock) ho0 (fun k_ hk_ => ⟨hk_.2, (Kd.fresh' (Kd.N_lt (tR HO103)) k_ hk_.1), (Kd.fresh' (Kd.R_lt (tR HO106)) k_ hk_.1), (Kd.fresh' (Kd.R_lt (tR HO110)) k_ hk_.1), (Kd.fresh' (Kd.R_lt (tR HO114)) k_ hk_.1)⟩)) (below_size (tB))); have n5_ := Aside0.mk (Kd.R_lower (Kd.R_new' (Kd.R_mono (ok' := fun k_ => True) ho1 (fun _ hk_ => trivial)) (Kd.R_lt (tR HO106))) (below_size (tB))); have n6_ := Aside0.mk (below_step (tB) hb); clear HO103; clear HO106; clear HO110; clear HO114; clear HB; have HO103 := n0_; have HO106 := n1_; have HO110 := n2_; have HO114 := n3_; have HO118 := n4_; have HO121 := n5_; have HB := n6_; clear n0_ n1_ n2_ n3_ n4_ n5_ n6_; (try clear hb); (try clear hb2); (try clear hk); (try clear hi); (try clear ho0); (try clear ho1); obtain ⟨Ao32, co32, eo32⟩ := Kd.N_slice HO118.out; subst eo32; obtain ⟨Ao33, co33, eo33⟩ := Kd.R_slice HO121.out; subst eo33) | (go_at_call 14; (with_reducible refine (witness_Diameter.calls k _ _ t116 _ _ t119 t122 t123 _ ?side1 ?side2 ?side3 ?side4 A7.out).mono ?_); (case side1 => exact tC (Kd.N_reads' HO118.out).2.2); (case side2 => exact (Kd.N_reads' HO118.out).2.1); (case side3 => exact tC (Kd.R_reads' HO121.out).2.2); (case side4 => exact (Kd.R_reads' HO121.out).2.1); rintro e w34 ⟨rfl, hb⟩; have n0_ := Aside0.mk (Kd.N_below (tR HO103) hb); have n1_ := Aside0.mk (Kd.R_below (tR HO106) hb); have n2_ := Aside0.mk (Kd.R_below (tR HO110) hb); have n3_ := Aside0.mk (Kd.R_below (tR HO114) hb); have n4_ := Aside0.mk (Kd.N_below (tR HO118) hb); have n5_ := Aside0.mk (Kd.R_below (tR HO121) hb); have n6_ := Aside0.mk (below_step (tB) hb); clear HO103; clear HO106; clear HO110; clear HO114; clear HO118; clear HO121; clear HB; have HO103 := n0_; have HO106 := n1_; have HO110 := n2_; have HO114 := n3_; have HO118 := n4_; have HO121 := n5_; have HB := n6_; clear n0_ n1_ n2_ n3_ n4_ n5_ n6_; (try clear hb); (try clear hb2); (try clear hk); (try clear hi)))
    go_ret
    exact ⟨tE, tB⟩
  ·replace c5 := Bool.eq_false_iff.mpr c5
   subst c5
   have H1 : (some false) = some r := by rw [if_neg (show ¬ (false = true) by decide)] at H; exact H
   clear H
   have H := H1
   clear H1
   obtain rfl := Option.some.inj H
   go_enter Try.func10, Try.ntmps10
   go_wp2_with (first | ((with_reducible refine gate_callee (f := 33) rfl ?_); refine goesL_ (some 4) rfl rfl Try.func33 (by kernel_rfl) rfl #[] rfl (by (try simp only [List.map_toArray, List.map_cons, List.map_nil]); first | done | rfl | (simp only [List.length_drop, List.length_take]; rfl)) ?_; (with_reducible refine (petrinetlaw16_step.calls  t101 t104 t107 _ A1.out).mono ?_); rintro e w35 ⟨v102, v105, rfl, ho0, ho1, hb⟩; refine ⟨_, rfl, ?_⟩; have n0_ := Aside0.mk (Kd.N_lower (Kd.N_mono (ok' := fun k_ => some k_ ≠ (v105 : Value).ownBlock) ho0 (fun k_ hk_ => hk_.2)) (below_size (tB))); have n1_ := Aside0.mk (Kd.R_lower (Kd.R_mono (ok' := fun k_ => True) ho1 (fun _ hk_ => trivial)) (below_size (tB))); have n2_ := Aside0.mk (below_step (tB) hb); clear HB; have HO103 := n0_; have HO106 := n1_; have HB := n2_; clear n0_ n1_ n2_; (try clear hb); (try clear hb2); (try clear hk); (try clear hi); (try clear ho0); (try clear ho1); obtain ⟨Ao36, co36, eo36⟩ := Kd.N_slice HO103.out; subst eo36; obtain ⟨Ao37, co37, eo37⟩ := Kd.R_slice HO106.out; subst eo37) | ((with_reducible refine gate_callee (f := 11) rfl ?_); refine goesL_ (some 5) rfl rfl Try.func11 (by kernel_rfl) rfl #[.agg #[.slice Ao36 t101.length co36, .slice Ao37 t104.length co37, .bool t107]] rfl (by (try simp only [List.map_toArray, List.map_cons, List.map_nil]); first | done | rfl | (simp only [List.length_drop, List.length_take]; rfl)) ?_; (with_reducible refine (witness_Dead.calls k _ _ t101 _ _ t104 t107 t108 true _ ?side1 ?side2 ?side3 ?side4 A2.out).mono ?_); (case side1 => exact tC (Kd.N_reads' HO103.out).2.2); (case side2 => exact (Kd.N_reads' HO103.out).2.1); (case side3 => exact tC (Kd.R_reads' HO106.out).2.2); (case side4 => exact (Kd.R_reads' HO106.out).2.1); rintro e w38 ⟨v109, rfl, ho0, hb⟩; refine ⟨_, rfl, ?_⟩; have n0_ := Aside0.mk (Kd.N_elder' (tR HO103) (Kd.R_base ho0) hb); have n1_ := Aside0.mk (Kd.R_below (tR HO106) hb); have n2_ := Aside0.mk (Kd.R_lower ho0 (below_size (tB))); have n3_ := Aside0.mk (below_step (tB) hb); clear HO103; clear HO106; clear HB; have HO103 := n0_; have HO106 := n1_; have HO110 := n2_; have HB := n3_; clear n0_ n1_ n2_ n3_; (try clear hb); (try clear hb2); (try clear hk); (try clear hi); (try clear ho0)) | ((with_reducible refine gate_dst (N := 11) rfl ?_); (try (refine gate_guard (by rfl) ?_; dsimp only)); refine Kd.R_lit (Kd.int .i64) _ 3 ?hg (N := 11) ?hd (xs := ([0] : List Int)) (inner := [.int .i64 0]) (ok := fun _ => True) (okp := fun _ => True) ?hr ?hp (fun _ hk => hk) trivial (Below.refl _ _) (Nat.le_refl _) (by simp) ?_; (case hd => rfl); (case hg => rfl); (case hr => first | (go_simp; done) | (go_simp; rfl)); (case hp => exact (Reps.one (show Kd.M (Kd.int .i64) _ _ _ 0 [.int .i64 0] from rfl) (Reps.none _ _))); intro v113 w39 ho40 hb hg_ hnew_; clear hg_ hnew_; (first | rw [← Ny112.out] at ho40 | (simp only [Int.reduceToNat] at ho40; rw [← Ny112.out] at ho40)); have n0_ := Aside0.mk (Kd.N_elder' (tR HO103) (Kd.R_base ho40) hb); have n1_ := Aside0.mk (Kd.R_below (tR HO106) hb); have n2_ := Aside0.mk (Kd.R_elder' (tR HO110) (Kd.R_base ho40) hb); have n3_ := Aside0.mk (Kd.R_lower (Kd.R_new' ho40 (Kd.R_lt (tR HO110))) (below_size (tB))); have n4_ := Aside0.mk (below_step (tB) hb); clear HO103; clear HO106; clear HO110; clear HB; have HO103 := n0_; have HO106 := n1_; have HO110 := n2_; have HO114 := n3_; have HB := n4_; clear n0_ n1_ n2_ n3_ n4_; clear hb ho40; obtain ⟨Ao41, co41, eo41⟩ := Kd.R_slice HO110.out; subst eo41; obtain ⟨Ao42, co42, eo42⟩ := Kd.R_slice HO114.out; subst eo42) | (go_at_call 13; (with_reducible refine (petrinetref04_Same.calls k _ _ t108 _ _ y112 false _ ?side1 ?side2 ?side3 ?side4 A4.out).mono ?_); (case side1 => exact tC (Kd.R_reads' HO110.out).2.2); (case side2 => exact (Kd.R_reads' HO110.out).2.1); (case side3 => exact tC (Kd.R_reads' HO114.out).2.2); (case side4 => exact (Kd.R_reads' HO114.out).2.1); rintro e w' ⟨rfl, ⟨nd, rfl⟩⟩))
   go_ret
   exact ⟨tE, tB⟩
 ·replace c3 := Bool.eq_false_iff.mpr c3
  subst c3
  have H1 : (some false) = some r := by rw [if_neg (show ¬ (false = true) by decide)] at H; exact H
  clear H
  have H := H1
  clear H1
  obtain rfl := Option.some.inj H
  go_enter Try.func10, Try.ntmps10
  go_wp2_with (first | ((with_reducible refine gate_callee (f := 33) rfl ?_); refine goesL_ (some 4) rfl rfl Try.func33 (by kernel_rfl) rfl #[] rfl (by (try simp only [List.map_toArray, List.map_cons, List.map_nil]); first | done | rfl | (simp only [List.length_drop, List.length_take]; rfl)) ?_; (with_reducible refine (petrinetlaw16_step.calls  t101 t104 t107 _ A1.out).mono ?_); rintro e w43 ⟨v102, v105, rfl, ho0, ho1, hb⟩; refine ⟨_, rfl, ?_⟩; have n0_ := Aside0.mk (Kd.N_lower (Kd.N_mono (ok' := fun k_ => some k_ ≠ (v105 : Value).ownBlock) ho0 (fun k_ hk_ => hk_.2)) (below_size (tB))); have n1_ := Aside0.mk (Kd.R_lower (Kd.R_mono (ok' := fun k_ => True) ho1 (fun _ hk_ => trivial)) (below_size (tB))); have n2_ := Aside0.mk (below_step (tB) hb); clear HB; have HO103 := n0_; have HO106 := n1_; have HB := n2_; clear n0_ n1_ n2_; (try clear hb); (try clear hb2); (try clear hk); (try clear hi); (try clear ho0); (try clear ho1); obtain ⟨Ao44, co44, eo44⟩ := Kd.N_slice HO103.out; subst eo44; obtain ⟨Ao45, co45, eo45⟩ := Kd.R_slice HO106.out; subst eo45) | ((with_reducible refine gate_callee (f := 11) rfl ?_); refine goesL_ (some 5) rfl rfl Try.func11 (by kernel_rfl) rfl #[.agg #[.slice Ao44 t101.length co44, .slice Ao45 t104.length co45, .bool t107]] rfl (by (try simp only [List.map_toArray, List.map_cons, List.map_nil]); first | done | rfl | (simp only [List.length_drop, List.length_take]; rfl)) ?_; (with_reducible refine (witness_Dead.calls k _ _ t101 _ _ t104 t107 t108 false _ ?side1 ?side2 ?side3 ?side4 A2.out).mono ?_); (case side1 => exact tC (Kd.N_reads' HO103.out).2.2); (case side2 => exact (Kd.N_reads' HO103.out).2.1); (case side3 => exact tC (Kd.R_reads' HO106.out).2.2); (case side4 => exact (Kd.R_reads' HO106.out).2.1); rintro e w46 ⟨v109, rfl, ho0, hb⟩; refine ⟨_, rfl, ?_⟩; have n0_ := Aside0.mk (Kd.N_elder' (tR HO103) (Kd.R_base ho0) hb); have n1_ := Aside0.mk (Kd.R_below (tR HO106) hb); have n2_ := Aside0.mk (Kd.R_lower ho0 (below_size (tB))); have n3_ := Aside0.mk (below_step (tB) hb); clear HO103; clear HO106; clear HB; have HO103 := n0_; have HO106 := n1_; have HO110 := n2_; have HB := n3_; clear n0_ n1_ n2_ n3_; (try clear hb); (try clear hb2); (try clear hk); (try clear hi); (try clear ho0)))
  go_ret
  exact ⟨tE, tB⟩
end Go.Proofs.Ytfnjbgggmddgpaa.Q
end
section
set_option linter.unusedVariables false
set_option linter.unusedSimpArgs false
namespace Go.Proofs.Ytfnjbgggmddgpaa.Q
open Go.RowKit Go.Proofs.Fn Go.Proofs.YtfnjbgggmddgpaaW.PrintWords Go.Proofs.Gr
theorem mem_row {n : Nat} {es : List S80} {s : Int} {e : S80} (h : e ∈ row n es s) : e ∈ es ∧ cnt n s e = true := by
  have key : ∀ (l a : List S80), e ∈ l.foldl (fun l e => insE e l) a → e ∈ a ∨ e ∈ l := by
    intro l
    induction l with
    | nil => intro a h; exact .inl h
    | cons x l ih =>
      intro a h
      rcases ih _ h with h | h
      · rcases mem_insE h with rfl | h
        · exact .inr List.mem_cons_self
        · exact .inl h
      · exact .inr (List.mem_cons_of_mem _ h)
  rcases key _ _ h with h | h
  · cases h
  · exact List.mem_filter.1 h
theorem row_len (n : Nat) (es : List S80) (s : Int) : (row n es s).length ≤ es.length := by
  have key : ∀ (l a : List S80), (l.foldl (fun l e => insE e l) a).length ≤ a.length + l.length := by
    intro l
    induction l with
    | nil => intro a; simp
    | cons x l ih =>
      intro a
      have h1 := ih (insE x a)
      have h2 := insE_len x a
      simp only [List.foldl_cons, List.length_cons]; omega
  have h1 := key (es.filter (cnt n s)) []
  have h2 := List.length_filter_le (cnt n s) es
  have h3 : (row n es s).length ≤ ([] : List S80).length + (es.filter (cnt n s)).length := h1
  simp only [List.length_nil] at h3
  omega
theorem tab_get {n : Nat} {es : List S80} {i : Nat} (h : i < n) : (tab n es).getD i [] = row n es (i : Int) := by simp [tab, h]
theorem tab_ok {n : Nat} {es : List S80} (hn : n ≤ 1000000) (he : es.length ≤ 1000000) : OkT n (tab n es) := by
  refine ⟨by simp [tab], hn, fun i hi => ?_, fun i hi e h => ?_⟩
  · rw [tab_get hi]; exact Nat.le_trans (row_len _ _ _) he
  · rw [tab_get hi] at h
    have := (mem_row h).2
    simp only [cnt, Bool.and_eq_true, decide_eq_true_eq] at this
    omega
theorem Found.none {n : Nat} {T : List (List S80)} {g : Nat → Bool} {a : Int} {l : List Int} {ok : Bool} (h : Found n T g a l ok) (hg : ∀ i, i < n → g i = false) : l = [] ∧ ok = false := by
  cases ok with
  | false => exact ⟨h.no rfl, rfl⟩
  | true =>
    obtain ⟨s, t, _, _, ht, _, h2⟩ := h.way rfl
    rw [hg t ht] at h2; cases h2
theorem same_ev (l : List Int) (hl : l.length ≤ 4000000) : Evn (fun k => petrinetref04_Same.f k l l) true := by
  unfold petrinetref04_Same.f
  refine Evn.pos rfl ?_
  have key : ∀ (m i : Nat), i + m = l.length → Evn (fun k => petrinetref04_Same.l0 k l l (i : Int)) true := by
    intro m
    induction m with
    | zero =>
      intro i hi
      refine Evn.succ ?_
      simp only [petrinetref04_Same.l0]
      (first | refine Evn.pos (by first | assumption | omega | (simp; done) | (simp; omega)) ?_ | refine Evn.neg (by first | assumption | omega | (simp; done) | (simp; omega)) ?_)
      exact Evn.const _
    | succ m ih =>
      intro i hi
      refine Evn.succ ?_
      simp only [petrinetref04_Same.l0, wrap_succ (show i < 9223372036854775807 by omega)]
      iterate 3 (first | refine Evn.pos (by first | assumption | omega | (simp; done) | (simp; omega)) ?_ | refine Evn.neg (by first | assumption | omega | (simp; done) | (simp; omega)) ?_)
      refine Evn.pos (by simp) ?_
      exact ih (i + 1) (by omega)
  exact key l.length 0 (by omega)
theorem alive_ev : Evn (fun k => petrinetlaw16_alive.f k) true :=
  Evn.of_mono 20 (fun k r h => petrinetlaw16_alive.mono k r h) (by decide +kernel)
theorem few_eq (st : List (List Int)) (es : List S80) (b : Bool) : petrinetlaw16_few.f st es b = some (decide (st.length ≤ 16 ∧ es.length ≤ 40)) := by
  unfold petrinetlaw16_few.f
  by_cases c : (st.length : Int) ≤ 16
  · rw [if_pos c]; congr 1; rw [Bool.eq_iff_iff]; simp only [decide_eq_true_eq]; omega
  · rw [if_neg c]; congr 1; symm; rw [decide_eq_false_iff_not]; omega
theorem Found.short {n : Nat} {T : List (List S80)} {g : Nat → Bool} {a : Int} {l : List Int} {ok : Bool} (hT : OkT n T) (h : Found n T g a l ok) : l.length ≤ 2000000 := by
  by_cases ha : 0 ≤ a ∧ a < (n : Int)
  · obtain ⟨s, rfl⟩ : ∃ s : Nat, a = (s : Int) := ⟨a.toNat, by omega⟩
    obtain ⟨d, ⟨hd, hL, hle⟩, _⟩ := distances_ev hT (fun i => some (g i.toNat)) g (fun i hi => by simp)
    have := (h.len s rfl (by omega) _ hL).1
    have := hle s (by omega)
    have := hT.small
    split at * <;> omega
  · rw [(h.out ha).1]; simp
end Go.Proofs.Ytfnjbgggmddgpaa.Q
end
section
namespace Go.Proofs.Ytfnjbgggmddgpaa.Q
open Go.RowKit Go.Proofs.Fn Go.Proofs.YtfnjbgggmddgpaaW.PrintWords Go.Proofs.YtfnjbgggmddgpaaW.PrintLast Go.Proofs.YtfnjbgggmddgpaaW.PrintMore
attribute [local go_sem] max2_int min2_int max_two min_two max_three min_three max_four min_four
set_option linter.unusedVariables false
set_option linter.unusedSimpArgs false
mutual
def petrinetref16_Fires.l0 : Nat → Int → List (List (S80)) → List Bool → Int → Option (List Int × Bool)
 | 0, _, _, _, _ => none
 | k + 1, x1, x6, x7, x8 => if x8 < (x6.length : Int) then (petrinetref16_Fires.l1 k x1 x6 x7 x8 false 0) else ((petrinetref16_follow.f k x6 0 x7).bind fun bt105 => (if bt105.2 = true then (if bt105.1.length < 17592186044416 then (some ((bt105.1 ++ [x1]), bt105.2)) else (none)) else (some (bt105.1, bt105.2))))
def petrinetref16_Fires.l1 : Nat → Int → List (List (S80)) → List Bool → Int → Bool → Int → Option (List Int × Bool)
 | 0, _, _, _, _, _, _ => none
 | k + 1, x1, x6, x7, x8, x9, x10 => if 0 ≤ x8 then (if x8 < (x6.length : Int) then (if x10 < ((rd_L80 x6 x8).length : Int) then (if x9 = true then (petrinetref16_Fires.l1 k x1 x6 x7 x8 true (wrap64 (x10 + 1))) else (if 0 ≤ x10 then (petrinetref16_Fires.l1 k x1 x6 x7 x8 (((rd_T80 (rd_L80 x6 x8) x10).f1) == x1) (wrap64 (x10 + 1))) else (none))) else (if x7.length < 140737488355328 then (petrinetref16_Fires.l0 k x1 x6 (x7 ++ [x9]) (wrap64 (x8 + 1))) else (none))) else (none)) else (none)
end
def petrinetref16_Fires.f (k : Nat) (l0_0 : List (List Int)) (l0_1 : List (S80)) (a0_2 : Bool) (a1 : Int) : Option (List Int × Bool) := (petrinetref16_Table.f k l0_0 l0_1 a0_2).bind fun t102 => (petrinetref16_Fires.l0 k a1 t102 ([] : List Bool) 0)
set_option maxHeartbeats 8000000 in
set_option maxRecDepth 100000 in
theorem petrinetref16_Fires.calls (k : Nat) (A0_0 : Option Addr) (c0_0 : Nat) (l0_0 : List (List Int)) (A0_1 : Option Addr) (c0_1 : Nat) (l0_1 : List (S80)) (a0_2 : Bool) (a1 : Int) (r1 : List Int) (r2 : Bool) (w : World) (hr0_0 : Kd.C (Kd.slice 3 (Kd.int .i64)) w A0_0 l0_0.length l0_0) (hc0_0 : l0_0.length ≤ c0_0) (hr0_1 : Kd.C k80 w A0_1 l0_1.length l0_1) (hc0_1 : l0_1.length ≤ c0_1) (h : petrinetref16_Fires.f k l0_0 l0_1 a0_2 a1 = some (r1, r2)) :
  Calls Try.prog 29 #[.agg #[.slice A0_0 l0_0.length c0_0, .slice A0_1 l0_1.length c0_1, .bool a0_2], .int .i64 a1] w fun e w' => ∃ v0_ : Value, e = .returned (.tuple #[v0_, .bool r2]) ∧ Kd.R (Kd.int .i64) 3 w' w.heap.size (fun _ => True) v0_ r1 ∧ Below w.heap.size w w' := by
 have hu25 := Try.underlying25
 have HR0_0 := Aside0.mk hr0_0
 have HC0_0 := Aside0.mk hc0_0
 clear hr0_0 hc0_0
 have HR0_1 := Aside0.mk hr0_1
 have HC0_1 := Aside0.mk hc0_1
 clear hr0_1 hc0_1
 have HB := Aside0.mk (Below.refl w.heap.size w)
 have H : ((petrinetref16_Table.f k l0_0 l0_1 a0_2).bind fun t102 => (petrinetref16_Fires.l0 k a1 t102 ([] : List Bool) 0)) = some (r1, r2) := h
 clear h
 replace H := Option.bind_eq_some_iff.mp H
 obtain ⟨t102, A30, H⟩ := H
 replace H : (petrinetref16_Fires.l0 k a1 t102 ([] : List Bool) 0) = some (r1, r2) := H
 have A3 := Aside0.mk A30
 clear A30
 have H' := Aside0.mk H
 clear H
 go_enter Try.func29, Try.ntmps29
 go_wp2_with (first | ((with_reducible refine gate_dst (N := 2) rfl ?_); refine box_event ?hg (N := 2) ?hd (cs := #[.slice A0_0 l0_0.length c0_0, .slice A0_1 l0_1.length c0_1, .bool a0_2]) (t := 25) ?hr ?_; (case hd => rfl); (case hg => rfl); (case hr => first | (go_simp; done) | (go_simp; rfl)); intro gb101 hg w4 hbox hb; have n0_ := Aside0.mk (below_step (tB) hb); have n1_ := Aside0.mk (hbox); have n2_ := Aside0.mk ((by rw [hg]; exact (below_size (tB)) : w.heap.size ≤ gb101)); have n3_ := Aside0.mk ((by rw [hg]; exact (below_size (tB)) : w.heap.size ≤ gb101)); clear HB; have HB := n0_; have BK101 := n1_; have GW101 := n2_; have GE101 := n3_; clear n0_ n1_ n2_ n3_; clear hb hbox hg; have hcz5_0 : w4.cell? ⟨gb101, 0, none⟩ = some (.slice A0_0 l0_0.length c0_0) := (blk_cell BK101.out 0).trans rfl; have hcz5_1 : w4.cell? ⟨gb101, 1, none⟩ = some (.slice A0_1 l0_1.length c0_1) := (blk_cell BK101.out 1).trans rfl; have hcz5_2 : w4.cell? ⟨gb101, 2, none⟩ = some (.bool a0_2) := (blk_cell BK101.out 2).trans rfl; have hfz5_0 := blk_frozen BK101.out 0; have hfz5_1 := blk_frozen BK101.out 1; have hfz5_2 := blk_frozen BK101.out 2) | ((with_reducible refine gate_callee (f := 37) rfl ?_); refine goesL_ (some 14) rfl rfl Try.func37 (by kernel_rfl) rfl #[.agg #[.slice A0_0 l0_0.length c0_0, .slice A0_1 l0_1.length c0_1, .bool a0_2]] rfl (by (try simp only [List.map_toArray, List.map_cons, List.map_nil]); first | done | rfl | (simp only [List.length_drop, List.length_take]; rfl)) ?_; (with_reducible refine (petrinetref16_Table.calls k _ _ l0_0 _ _ l0_1 a0_2 t102 _ ?side1 ?side2 ?side3 ?side4 A3.out).mono ?_); (case side1 => exact tC (Kd.C_below HR0_0.out HB.out)); (case side2 => exact HC0_0.out); (case side3 => exact tC (Kd.C_below HR0_1.out HB.out)); (case side4 => exact HC0_1.out); rintro e w6 ⟨v103, rfl, ho0, hb⟩; refine ⟨_, rfl, ?_⟩; have n0_ := Aside0.mk (Kd.S_lower ho0 (below_size (tB))); have n1_ := Aside0.mk (blk_below (g := gb101) (o := .cells #[.slice A0_0 l0_0.length c0_0, .slice A0_1 l0_1.length c0_1, .bool a0_2] 25 (0, 0)) (tK BK101) hb); have n2_ := Aside0.mk (below_step (tB) hb); clear BK101; clear HB; have HO104 := n0_; have BK101 := n1_; have HB := n2_; clear n0_ n1_ n2_; (try clear hb); (try clear hb2); (try clear hk); (try clear hi); (try clear ho0)))
 go_loopg [7, 8] k (fun kq v7 v8 w' => ∃ (x7_1 : List Bool) (x8_1 : Int), v8 = .int .i64 x8_1 ∧ Aside0 (petrinetref16_Fires.l0 kq a1 t102 x7_1 x8_1 = some (r1, r2)) ∧ Aside0 (kq ≤ k) ∧ Aside0 (Kd.S (Kd.slice 80 k80) 23 w' w.heap.size (fun _ => True) v103 t102) ∧ Aside0 (Kd.R Kd.bool 4 w' w.heap.size (fun _ => True) v7 x7_1) ∧ Aside0 (w'.heap[gb101]? = some (.cells #[(.slice A0_0 l0_0.length c0_0), (.slice A0_1 l0_1.length c0_1), .bool a0_2] 25 (0, 0))) ∧ Aside0 (Below w.heap.size w w'))
 case atStart => exact ⟨(([] : List Bool)), (0), (by first | rfl | (simp; done) | (simp [*]; done)), H', ⟨Nat.le_refl _⟩, ⟨tR HO104⟩, ⟨by first | exact Kd.R_nil _ _ _ _ _ | exact Kd.N_nil _ _ _ _ _ | exact Kd.V_nil _ _ _ _ _ | exact Kd.Q_nil _ _ _ _ _ | exact Kd.S_nil _ _ _ _ _⟩, ⟨tK BK101⟩, ⟨tB⟩⟩
 case round =>
  clear H'
  try clear c2
  try clear p2
  try clear c3
  try clear hcz5_0
  try clear hcz5_1
  try clear hcz5_2
  try clear hfz5_0
  try clear hfz5_1
  try clear hfz5_2
  obtain ⟨x7_1, x8_1, rfl, HA, HK1, HO_6, HO_7, BK101, HB⟩ := hrel
  cases gk with
  | zero => exact absurd HA.out (by simp [petrinetref16_Fires.l0])
  | succ k1 =>
   have H := HA.out
   clear HA
   simp only [petrinetref16_Fires.l0] at H
   by_cases c7 : x8_1 < (t102.length : Int)
   ·rw [if_pos c7] at H
    have c7b0 : decide (x8_1 < (t102.length : Int)) = true := decide_eq_true c7
    clear c7
    have H' := Aside0.mk H
    clear H
    obtain ⟨Ao8, co8, eo8⟩ := Kd.S_slice HO_6.out
    subst eo8
    go_wp2
    go_loopg [9, 10] k1 (fun kq v9 v10 w' => ∃ (x9_2 : Bool) (x10_2 : Int), v9 = .bool x9_2 ∧ v10 = .int .i64 x10_2 ∧ Aside0 (petrinetref16_Fires.l1 kq a1 t102 x7_1 x8_1 x9_2 x10_2 = some (r1, r2)) ∧ Aside0 (kq ≤ k1) ∧ Aside0 (Kd.S (Kd.slice 80 k80) 23 w' w.heap.size (fun _ => True) (.slice Ao8 t102.length co8) t102) ∧ Aside0 (Kd.R Kd.bool 4 w' w.heap.size (fun _ => True) u7 x7_1) ∧ Aside0 (w'.heap[gb101]? = some (.cells #[(.slice A0_0 l0_0.length c0_0), (.slice A0_1 l0_1.length c0_1), .bool a0_2] 25 (0, 0))) ∧ Aside0 (Below w.heap.size w w'))
    case atStart => exact ⟨(false), (0), (by first | rfl | (simp; done) | (simp [*]; done)), (by first | rfl | (simp; done) | (simp [*]; done)), H', ⟨Nat.le_refl _⟩, ⟨tR HO_6⟩, ⟨tR HO_7⟩, ⟨tK BK101⟩, ⟨tB⟩⟩
    case round =>
     clear H'
     try clear c2
     try clear p2
     try clear c3
     try clear c7
     try clear c7b0
     try clear hcz5_0
     try clear hcz5_1
     try clear hcz5_2
     try clear hfz5_0
     try clear hfz5_1
     try clear hfz5_2
     try clear p2
     obtain ⟨x9_2, x10_2, rfl, rfl, HA, HK2, HO_6, HO_7, BK101, HB⟩ := hrel
     cases gk with
     | zero => exact absurd HA.out (by simp [petrinetref16_Fires.l1])
     | succ k2 =>
      have H := HA.out
      clear HA
      simp only [petrinetref16_Fires.l1] at H
      by_cases c9 : 0 ≤ x8_1
      ·rw [if_pos c9] at H
       have c9b0 : decide (0 ≤ x8_1) = true := decide_eq_true c9
       clear c9
       by_cases c10 : x8_1 < (t102.length : Int)
       ·rw [if_pos c10] at H
        have c10b0 : decide (x8_1 < (t102.length : Int)) = true := decide_eq_true c10
        clear c10
        by_cases c11 : x10_2 < ((rd_L80 t102 x8_1).length : Int)
        ·rw [if_pos c11] at H
         have c11b0 : decide (x10_2 < ((rd_L80 t102 x8_1).length : Int)) = true := decide_eq_true c11
         clear c11
         by_cases c12 : x9_2 = true
         ·subst c12
          have H1 : (petrinetref16_Fires.l1 k2 a1 t102 x7_1 x8_1 true (wrap64 (x10_2 + 1))) = some (r1, r2) := by rw [if_pos rfl] at H; exact H
          clear H
          have H := H1
          clear H1
          have H' := Aside0.mk H
          clear H
          have p112 : 0 ≤ (x8_1 : Int) := tD
          have q112 : x8_1 < (t102.length : Int) := tD
          obtain ⟨ad112, A112_0, c112_0, e112, hx112_0, hl112_0, hi112_0⟩ := at_L80 (Kd.S_reads' HO_6.out).2.2 x8_1 p112 q112
          cases e112
          obtain ⟨ce112, hce112, hMe112, hcc112⟩ := Kd.S_get HO_6.out [] x8_1 p112 (by first | exact q112 | exact tD | (have e_ := (Kd.S_reads' HO_6.out).1; omega))
          obtain ⟨ve112_0, rfl, ge112_0⟩ := hMe112
          have hv112_0 := hcc112 0 _ rfl
          rw [Nat.add_zero, show ((Kd.slice 80 k80)).sz = 1 from rfl, Nat.mul_one] at hv112_0
          replace hv112_0 := Option.some.inj (hv112_0.symm.trans hx112_0)
          rw [hv112_0] at ge112_0
          have HL112_0 := Aside0.mk (show Kd.R k80 80 _ _ _ _ (rd_L80 t102 x8_1) from ge112_0)
          clear hv112_0 ge112_0
          clear hcc112 hce112
          have HR112_0 := Aside0.mk hi112_0
          have HC112_0 := Aside0.mk hl112_0
          clear hi112_0 hl112_0
          replace p112 := eq_true p112
          replace q112 := eq_true q112
          go_wp2
          go_roundg k2
          case measure => have := HK1.out; have := HK2.out; omega
          case rel => exact ⟨(true), (wrap64 (x10_2 + 1)), (by first | rfl | (simp; done) | (simp [*]; done)), (by first | rfl | (simp; done) | (simp [*]; done)), H', ⟨by have := HK1.out; have := HK2.out; omega⟩, ⟨tR HO_6⟩, ⟨tR HO_7⟩, ⟨tK BK101⟩, ⟨tB⟩⟩
         ·replace c12 := Bool.eq_false_iff.mpr c12
          subst c12
          have H1 : (if 0 ≤ x10_2 then (petrinetref16_Fires.l1 k2 a1 t102 x7_1 x8_1 (((rd_T80 (rd_L80 t102 x8_1) x10_2).f1) == a1) (wrap64 (x10_2 + 1))) else (none)) = some (r1, r2) := by rw [if_neg (show ¬ (false = true) by decide)] at H; exact H
          clear H
          have H := H1
          clear H1
          by_cases c13 : 0 ≤ x10_2
          ·rw [if_pos c13] at H
           have c13b0 : decide (0 ≤ x10_2) = true := decide_eq_true c13
           clear c13
           have H' := Aside0.mk H
           clear H
           have p112 : 0 ≤ (x8_1 : Int) := tD
           have q112 : x8_1 < (t102.length : Int) := tD
           obtain ⟨ad112, A112_0, c112_0, e112, hx112_0, hl112_0, hi112_0⟩ := at_L80 (Kd.S_reads' HO_6.out).2.2 x8_1 p112 q112
           cases e112
           obtain ⟨ce112, hce112, hMe112, hcc112⟩ := Kd.S_get HO_6.out [] x8_1 p112 (by first | exact q112 | exact tD | (have e_ := (Kd.S_reads' HO_6.out).1; omega))
           obtain ⟨ve112_0, rfl, ge112_0⟩ := hMe112
           have hv112_0 := hcc112 0 _ rfl
           rw [Nat.add_zero, show ((Kd.slice 80 k80)).sz = 1 from rfl, Nat.mul_one] at hv112_0
           replace hv112_0 := Option.some.inj (hv112_0.symm.trans hx112_0)
           rw [hv112_0] at ge112_0
           have HL112_0 := Aside0.mk (show Kd.R k80 80 _ _ _ _ (rd_L80 t102 x8_1) from ge112_0)
           clear hv112_0 ge112_0
           clear hcc112 hce112
           have HR112_0 := Aside0.mk hi112_0
           have HC112_0 := Aside0.mk hl112_0
           clear hi112_0 hl112_0
           replace p112 := eq_true p112
           replace q112 := eq_true q112
           have p113 : 0 ≤ (x8_1 : Int) := tD
           have q113 : x8_1 < (t102.length : Int) := tD
           obtain ⟨ad113, A113_0, c113_0, e113, hx113_0, hl113_0, hi113_0⟩ := at_L80 (Kd.S_reads' HO_6.out).2.2 x8_1 p113 q113
           obtain rfl : ad112 = ad113 := (by injection e113)
           obtain ⟨ce113, hce113, hMe113, hcc113⟩ := Kd.S_get HO_6.out [] x8_1 p113 (by first | exact q113 | exact tD | (have e_ := (Kd.S_reads' HO_6.out).1; omega))
           obtain ⟨ve113_0, rfl, ge113_0⟩ := hMe113
           have hv113_0 := hcc113 0 _ rfl
           rw [Nat.add_zero, show ((Kd.slice 80 k80)).sz = 1 from rfl, Nat.mul_one] at hv113_0
           replace hv113_0 := Option.some.inj (hv113_0.symm.trans hx113_0)
           rw [hv113_0] at ge113_0
           have HL113_0 := Aside0.mk (show Kd.R k80 80 _ _ _ _ (rd_L80 t102 x8_1) from ge113_0)
           clear hv113_0 ge113_0
           clear hcc113 hce113
           have HR113_0 := Aside0.mk hi113_0
           have HC113_0 := Aside0.mk hl113_0
           clear hi113_0 hl113_0
           replace p113 := eq_true p113
           replace q113 := eq_true q113
           have ea_ := Option.some.inj (hx112_0.symm.trans hx113_0)
           injection ea_ with ea_ en_ ec_
           subst ea_
           subst ec_
           clear en_
           have p114 : 0 ≤ (x10_2 : Int) := tD
           have q114 : x10_2 < ((rd_L80 t102 x8_1).length : Int) := tD
           obtain ⟨ad114, e114, hx114_0, hx114_1, hx114_2⟩ := at_T80 (by repeat (first | (with_reducible exact HR113_0.out) | (with_reducible refine Kd.C_alloc ?_ _) | (with_reducible refine Kd.C_drewN ?_ _) | (with_reducible refine Kd.C_drew ?_) | exact HR113_0.out)) x10_2 p114 q114
           cases e114
           replace p114 := eq_true p114
           replace q114 := eq_true q114
           go_wp2
           go_roundg k2
           case measure => have := HK1.out; have := HK2.out; omega
           case rel => exact ⟨((((rd_T80 (rd_L80 t102 x8_1) x10_2).f1) == a1)), (wrap64 (x10_2 + 1)), (by first | rfl | (simp; done) | (simp [*]; done)), (by first | rfl | (simp; done) | (simp [*]; done)), H', ⟨by have := HK1.out; have := HK2.out; omega⟩, ⟨tR HO_6⟩, ⟨tR HO_7⟩, ⟨tK BK101⟩, ⟨tB⟩⟩
          ·rw [if_neg c13] at H
           exact absurd H (by simp)
        ·rw [if_neg c11] at H
         have c11b0 : decide (x10_2 < ((rd_L80 t102 x8_1).length : Int)) = false := decide_eq_false c11
         clear c11
         by_cases c14 : x7_1.length < 140737488355328
         ·rw [if_pos c14] at H
          have LMc14 := Aside0.mk c14
          clear c14
          obtain ⟨y115, hy115⟩ : ∃ y_ : List Bool, y_ = (x7_1 ++ [x9_2]) := ⟨_, rfl⟩
          replace H : (petrinetref16_Fires.l0 k2 a1 t102 y115 (wrap64 (x8_1 + 1))) = some (r1, r2) := by first | (rw [hy115]; with_reducible exact H) | (have H2_ := (Option.bind_some _ _).symm.trans H; rw [hy115]; with_reducible exact H2_) | (have H2_ := (Option.bind_some _ _).symm.trans H; with_reducible exact H2_) | with_reducible exact H | (rw [hy115]; exact H) | exact H
          have Ny115 := Aside0.mk hy115
          clear hy115
          have H' := Aside0.mk H
          clear H
          have p112 : 0 ≤ (x8_1 : Int) := tD
          have q112 : x8_1 < (t102.length : Int) := tD
          obtain ⟨ad112, A112_0, c112_0, e112, hx112_0, hl112_0, hi112_0⟩ := at_L80 (Kd.S_reads' HO_6.out).2.2 x8_1 p112 q112
          cases e112
          obtain ⟨ce112, hce112, hMe112, hcc112⟩ := Kd.S_get HO_6.out [] x8_1 p112 (by first | exact q112 | exact tD | (have e_ := (Kd.S_reads' HO_6.out).1; omega))
          obtain ⟨ve112_0, rfl, ge112_0⟩ := hMe112
          have hv112_0 := hcc112 0 _ rfl
          rw [Nat.add_zero, show ((Kd.slice 80 k80)).sz = 1 from rfl, Nat.mul_one] at hv112_0
          replace hv112_0 := Option.some.inj (hv112_0.symm.trans hx112_0)
          rw [hv112_0] at ge112_0
          have HL112_0 := Aside0.mk (show Kd.R k80 80 _ _ _ _ (rd_L80 t102 x8_1) from ge112_0)
          clear hv112_0 ge112_0
          clear hcc112 hce112
          have HR112_0 := Aside0.mk hi112_0
          have HC112_0 := Aside0.mk hl112_0
          clear hi112_0 hl112_0
          replace p112 := eq_true p112
          replace q112 := eq_true q112
          go_wp2_with (first | ((with_reducible refine gate_builtin (b := .append) (xs := #[.tmp 43, .tmp 45]) rfl ?_); at_builtin; refine Kd.R_append Kd.bool (w0 := w) w.heap.size rfl (.tmp 43) (.tmp 45) 63 4 (.bool false) 1 rfl Try.underlying63 info4 rfl (by decide) (by omega) u7 x7_1 x9_2 [.bool x9_2] (fun _ => True) (fun _ => False) rfl rfl ?aP (fun _ hk => hk.elim) ?aF ?aO ?aB ?aS ?aL ?_; (case aP => exact rfl); (case aB => exact (tB)); (case aF => exact (fun _ _ => trivial)); (case aO => exact (tR HO_7)); (case aS => exact (below_size (tB))); (case aL => have := LMc14.out; omega); intro v116 w15 ho hb hg hat; rw [← Ny115.out] at ho; have n0_ := Aside0.mk (Kd.S_over' (tR HO_6) (Kd.R_typed (tR HO_7)) (by decide) hg); have n1_ := Aside0.mk (blk_grown (g := gb101) (o := .cells #[.slice A0_0 l0_0.length c0_0, .slice A0_1 l0_1.length c0_1, .bool a0_2] 25 (0, 0)) (tK BK101) hg (Kd.R_ne HO_7.out BK101.out (by decide))); have n2_ := Aside0.mk (Kd.R_over' (tR HL112_0) (Kd.R_typed (tR HO_7)) (by decide) hg); have n3_ := Aside0.mk (hb); have n4_ := Aside0.mk (ho); clear HO_6; clear BK101; clear HL112_0; clear HB; clear HO_7; have HO_6 := n0_; have BK101 := n1_; have HL112_0 := n2_; have HB := n3_; have HO117 := n4_; clear n0_ n1_ n2_ n3_ n4_; clear ho hb hg hat))
          go_roundg k2
          case measure => have := HK1.out; have := HK2.out; omega
          case rel => exact ⟨(y115), (wrap64 (x8_1 + 1)), (by first | rfl | (simp; done) | (simp [*]; done)), H', ⟨by have := HK1.out; have := HK2.out; omega⟩, ⟨tR HO_6⟩, ⟨tR HO117⟩, ⟨tK BK101⟩, ⟨tB⟩⟩
         ·rw [if_neg c14] at H
          exact absurd H (by simp)
       ·rw [if_neg c10] at H
        exact absurd H (by simp)
      ·rw [if_neg c9] at H
       exact absurd H (by simp)
   ·rw [if_neg c7] at H
    have c7b0 : decide (x8_1 < (t102.length : Int)) = false := decide_eq_false c7
    clear c7
    replace H := Option.bind_eq_some_iff.mp H
    obtain ⟨⟨t105, t106⟩, A160, H⟩ := H
    replace H : (if t106 = true then (if t105.length < 17592186044416 then (some ((t105 ++ [a1]), t106)) else (none)) else (some (t105, t106))) = some (r1, r2) := H
    have A16 := Aside0.mk A160
    clear A160
    by_cases c17 : t106 = true
    ·subst c17
     have H1 : (if t105.length < 17592186044416 then (some ((t105 ++ [a1]), true)) else (none)) = some (r1, r2) := by rw [if_pos rfl] at H; exact H
     clear H
     have H := H1
     clear H1
     by_cases c18 : t105.length < 17592186044416
     ·rw [if_pos c18] at H
      have LMc18 := Aside0.mk c18
      clear c18
      obtain ⟨y109, hy109⟩ : ∃ y_ : List Int, y_ = (t105 ++ [a1]) := ⟨_, rfl⟩
      replace H : (some (y109, true)) = some (r1, r2) := by first | (rw [hy109]; with_reducible exact H) | (have H2_ := (Option.bind_some _ _).symm.trans H; rw [hy109]; with_reducible exact H2_) | (have H2_ := (Option.bind_some _ _).symm.trans H; with_reducible exact H2_) | with_reducible exact H | (rw [hy109]; exact H) | exact H
      have Ny109 := Aside0.mk hy109
      clear hy109
      simp only [Option.some.injEq, Prod.mk.injEq] at H
      obtain ⟨rfl, rfl⟩ := H
      obtain ⟨Ao19, co19, eo19⟩ := Kd.S_slice HO_6.out
      subst eo19
      obtain ⟨Ao20, co20, eo20⟩ := Kd.R_slice HO_7.out
      subst eo20
      go_wp2_with (first | ((with_reducible refine gate_callee (f := 38) rfl ?_); refine goesL_ (some 50) rfl rfl Try.func38 (by kernel_rfl) rfl #[.slice Ao19 t102.length co19, .int .i64 0, .slice Ao20 x7_1.length co20] rfl (by (try simp only [List.map_toArray, List.map_cons, List.map_nil]); first | done | rfl | (simp only [List.length_drop, List.length_take]; rfl)) ?_; (with_reducible refine (petrinetref16_follow.calls k1 _ _ t102 0 _ _ x7_1 t105 true _ ?side1 ?side2 ?side3 ?side4 A16.out).mono ?_); (case side1 => exact tC (Kd.S_reads' HO_6.out).2.2); (case side2 => exact (Kd.S_reads' HO_6.out).2.1); (case side3 => exact tC (Kd.R_reads' HO_7.out).2.2); (case side4 => exact (Kd.R_reads' HO_7.out).2.1); rintro e w21 ⟨v107, rfl, ho0, hb⟩; refine ⟨_, rfl, ?_⟩; have n0_ := Aside0.mk (Kd.S_below (tR HO_6) hb); have n1_ := Aside0.mk (Kd.R_below (tR HO_7) hb); have n2_ := Aside0.mk (Kd.R_lower ho0 (below_size (tB))); have n3_ := Aside0.mk (blk_below (g := gb101) (o := .cells #[.slice A0_0 l0_0.length c0_0, .slice A0_1 l0_1.length c0_1, .bool a0_2] 25 (0, 0)) (tK BK101) hb); have n4_ := Aside0.mk (below_step (tB) hb); clear HO_6; clear HO_7; clear BK101; clear HB; have HO_6 := n0_; have HO_7 := n1_; have HO108 := n2_; have BK101 := n3_; have HB := n4_; clear n0_ n1_ n2_ n3_ n4_; (try clear hb); (try clear hb2); (try clear hk); (try clear hi); (try clear ho0)) | ((with_reducible refine gate_builtin (b := .append) (xs := #[.tmp 54, .tmp 56]) rfl ?_); at_builtin; refine Kd.R_append (Kd.int .i64) (w0 := w) w.heap.size rfl (.tmp 54) (.tmp 56) 28 3 (.int .i64 0) 8 rfl Try.underlying28 info3 rfl (by decide) (by omega) v107 t105 a1 [.int .i64 a1] (fun _ => True) (fun _ => False) rfl rfl ?aP (fun _ hk => hk.elim) ?aF ?aO ?aB ?aS ?aL ?_; (case aP => exact rfl); (case aB => exact (tB)); (case aF => exact (fun _ _ => trivial)); (case aO => exact (tR HO108)); (case aS => exact (below_size (tB))); (case aL => have := LMc18.out; omega); intro v110 w22 ho hb hg hat; rw [← Ny109.out] at ho; have n0_ := Aside0.mk (Kd.S_over' (tR HO_6) (Kd.R_typed (tR HO108)) (by decide) hg); have n1_ := Aside0.mk (Kd.R_over' (tR HO_7) (Kd.R_typed (tR HO108)) (by decide) hg); have n2_ := Aside0.mk (blk_grown (g := gb101) (o := .cells #[.slice A0_0 l0_0.length c0_0, .slice A0_1 l0_1.length c0_1, .bool a0_2] 25 (0, 0)) (tK BK101) hg (Kd.R_ne HO108.out BK101.out (by decide))); have n3_ := Aside0.mk (hb); have n4_ := Aside0.mk (ho); clear HO_6; clear HO_7; clear BK101; clear HB; clear HO108; have HO_6 := n0_; have HO_7 := n1_; have BK101 := n2_; have HB := n3_; have HO111 := n4_; clear n0_ n1_ n2_ n3_ n4_; clear ho hb hg hat))
      go_ret2
      exact ⟨_, tE, by (with_reducible repeat (first | apply Kd.R_alloc | apply Kd.R_drewN | apply Kd.R_drew)); exact HO111.out, tB⟩
     ·rw [if_neg c18] at H
      exact absurd H (by simp)
    ·replace c17 := Bool.eq_false_iff.mpr c17
     subst c17
     have H1 : (some (t105, false)) = some (r1, r2) := by rw [if_neg (show ¬ (false = true) by decide)] at H; exact H
     clear H
     have H := H1
     clear H1
     simp only [Option.some.injEq, Prod.mk.injEq] at H
     obtain ⟨rfl, rfl⟩ := H
     obtain ⟨Ao23, co23, eo23⟩ := Kd.S_slice HO_6.out
     subst eo23
     obtain ⟨Ao24, co24, eo24⟩ := Kd.R_slice HO_7.out
     subst eo24
     go_wp2_with (first | ((with_reducible refine gate_callee (f := 38) rfl ?_); refine goesL_ (some 50) rfl rfl Try.func38 (by kernel_rfl) rfl #[.slice Ao23 t102.length co23, .int .i64 0, .slice Ao24 x7_1.length co24] rfl (by (try simp only [List.map_toArray, List.map_cons, List.map_nil]); first | done | rfl | (simp only [List.length_drop, List.length_take]; rfl)) ?_; (with_reducible refine (petrinetref16_follow.calls k1 _ _ t102 0 _ _ x7_1 t105 false _ ?side1 ?side2 ?side3 ?side4 A16.out).mono ?_); (case side1 => exact tC (Kd.S_reads' HO_6.out).2.2); (case side2 => exact (Kd.S_reads' HO_6.out).2.1); (case side3 => exact tC (Kd.R_reads' HO_7.out).2.2); (case side4 => exact (Kd.R_reads' HO_7.out).2.1); rintro e w25 ⟨v107, rfl, ho0, hb⟩; refine ⟨_, rfl, ?_⟩; have n0_ := Aside0.mk (Kd.S_below (tR HO_6) hb); have n1_ := Aside0.mk (Kd.R_below (tR HO_7) hb); have n2_ := Aside0.mk (Kd.R_lower ho0 (below_size (tB))); have n3_ := Aside0.mk (blk_below (g := gb101) (o := .cells #[.slice A0_0 l0_0.length c0_0, .slice A0_1 l0_1.length c0_1, .bool a0_2] 25 (0, 0)) (tK BK101) hb); have n4_ := Aside0.mk (below_step (tB) hb); clear HO_6; clear HO_7; clear BK101; clear HB; have HO_6 := n0_; have HO_7 := n1_; have HO108 := n2_; have BK101 := n3_; have HB := n4_; clear n0_ n1_ n2_ n3_ n4_; (try clear hb); (try clear hb2); (try clear hk); (try clear hi); (try clear ho0)))
     go_ret2
     exact ⟨_, tE, by (with_reducible repeat (first | apply Kd.R_alloc | apply Kd.R_drewN | apply Kd.R_drew)); exact HO108.out, tB⟩
end Go.Proofs.Ytfnjbgggmddgpaa.Q
end
