/- Part 11 of a proof: Da. Words and walks that a program printed for this claim stand here without what the claim does not use. -/
import Derived.Test.YtfnjbgggmddgpaaDa10
import Derived.Test.YtfnjbgggmddgpaaDa2
import Derived.Test.YtfnjbgggmddgpaaDa8
section
namespace Go.Proofs.Ytfnjbgggmddgpaa.Q
open Go.RowKit Go.Proofs.Fn Go.Proofs.YtfnjbgggmddgpaaW.PrintWords Go.Proofs.YtfnjbgggmddgpaaW.PrintLast Go.Proofs.YtfnjbgggmddgpaaW.PrintMore
attribute [local go_sem] max2_int min2_int max_two min_two max_three min_three max_four min_four
set_option linter.unusedVariables false
set_option linter.unusedSimpArgs false
def petrinetlaw16_step.f  : Option ((List (List Int)) × (List (S80)) × Bool) := some ((([(([1] : List Int)), (([0] : List Int))] : List (List Int))), (([(⟨0, 0, 1⟩ : S80)] : List (S80))), true)
set_option maxHeartbeats 8000000 in
set_option maxRecDepth 100000 in
theorem petrinetlaw16_step.calls  (r1 : List (List Int)) (r2 : List (S80)) (r3 : Bool) (w : World) (h : petrinetlaw16_step.f  = some (r1, r2, r3)) :
  Calls Try.prog 33 #[] w fun e w' => ∃ v0_ v1_ : Value, e = .returned (.agg #[v0_, v1_, .bool r3]) ∧ Kd.N (Kd.slice 3 (Kd.int .i64)) 28 w' w.heap.size (fun k_ => (w.heap.size ≤ k_) ∧ some k_ ≠ (v1_ : Value).ownBlock) v0_ r1 ∧ Kd.R k80 80 w' w.heap.size (fun k_ => (w.heap.size ≤ k_)) v1_ r2 ∧ Below w.heap.size w w' := by
 have hu25 := Try.underlying25
 have hu80 := Try.underlying80
 have HB := Aside0.mk (Below.refl w.heap.size w)
 have H : (some ((([(([1] : List Int)), (([0] : List Int))] : List (List Int))), (([(⟨0, 0, 1⟩ : S80)] : List (S80))), true)) = some (r1, r2, r3) := h
 clear h
 obtain ⟨y102, hy102⟩ : ∃ y_ : List Int, y_ = (([1] : List Int)) := ⟨_, rfl⟩
 replace H : (some ((([y102, (([0] : List Int))] : List (List Int))), (([(⟨0, 0, 1⟩ : S80)] : List (S80))), true)) = some (r1, r2, r3) := by first | (rw [hy102]; with_reducible exact H) | (have H2_ := (Option.bind_some _ _).symm.trans H; rw [hy102]; with_reducible exact H2_) | (have H2_ := (Option.bind_some _ _).symm.trans H; with_reducible exact H2_) | with_reducible exact H | (rw [hy102]; exact H) | exact H
 have Ny102 := Aside0.mk hy102
 clear hy102
 obtain ⟨y105, hy105⟩ : ∃ y_ : List Int, y_ = (([0] : List Int)) := ⟨_, rfl⟩
 replace H : (some ((([y102, y105] : List (List Int))), (([(⟨0, 0, 1⟩ : S80)] : List (S80))), true)) = some (r1, r2, r3) := by first | (rw [hy105]; with_reducible exact H) | (have H2_ := (Option.bind_some _ _).symm.trans H; rw [hy105]; with_reducible exact H2_) | (have H2_ := (Option.bind_some _ _).symm.trans H; with_reducible exact H2_) | with_reducible exact H | (rw [hy105]; exact H) | exact H
 have Ny105 := Aside0.mk hy105
 clear hy105
 obtain ⟨y108, hy108⟩ : ∃ y_ : List (List Int), y_ = (([y102, y105] : List (List Int))) := ⟨_, rfl⟩
 replace H : (some (y108, (([(⟨0, 0, 1⟩ : S80)] : List (S80))), true)) = some (r1, r2, r3) := by first | (rw [hy108]; with_reducible exact H) | (have H2_ := (Option.bind_some _ _).symm.trans H; rw [hy108]; with_reducible exact H2_) | (have H2_ := (Option.bind_some _ _).symm.trans H; with_reducible exact H2_) | with_reducible exact H | (rw [hy108]; exact H) | exact H
 have Ny108 := Aside0.mk hy108
 clear hy108
 obtain ⟨y111, hy111⟩ : ∃ y_ : List (S80), y_ = (([(⟨0, 0, 1⟩ : S80)] : List (S80))) := ⟨_, rfl⟩
 replace H : (some (y108, y111, true)) = some (r1, r2, r3) := by first | (rw [hy111]; with_reducible exact H) | (have H2_ := (Option.bind_some _ _).symm.trans H; rw [hy111]; with_reducible exact H2_) | (have H2_ := (Option.bind_some _ _).symm.trans H; with_reducible exact H2_) | with_reducible exact H | (rw [hy111]; exact H) | exact H
 have Ny111 := Aside0.mk hy111
 clear hy111
 simp only [Option.some.injEq, Prod.mk.injEq] at H
 obtain ⟨rfl, rfl, rfl⟩ := H
 go_enter Try.func33, Try.ntmps33
 go_wp2_with (first | ((with_reducible refine gate_dst (N := 0) rfl ?_); refine box_event ?hg (N := 0) ?hd (cs := #[.slice none 0 0, .slice none 0 0, .bool false]) (t := 25) ?hr ?_; (case hd => rfl); (case hg => rfl); (case hr => first | (go_simp; done) | (go_simp; rfl)); intro gb101 hg w1 hbox hb; have n0_ := Aside0.mk (below_step (by repeat (first | (with_reducible first | exact HB.out | apply below_alloc | apply pw_below_drewN | apply below_drew1) | exact HB.out)) hb); have n1_ := Aside0.mk (hbox); have n2_ := Aside0.mk ((by rw [hg]; exact (below_size (by repeat (first | (with_reducible first | exact HB.out | apply below_alloc | apply pw_below_drewN | apply below_drew1) | exact HB.out))) : w.heap.size ≤ gb101)); have n3_ := Aside0.mk ((by rw [hg]; exact (below_size (by repeat (first | (with_reducible first | exact HB.out | apply below_alloc | apply pw_below_drewN | apply below_drew1) | exact HB.out))) : w.heap.size ≤ gb101)); clear HB; have HB := n0_; have BK101 := n1_; have GW101 := n2_; have GE101 := n3_; clear n0_ n1_ n2_ n3_; clear hb hbox hg) | ((with_reducible refine gate_dst (N := 1) rfl ?_); refine Kd.R_lit (Kd.int .i64) _ 3 ?hg (N := 1) ?hd (xs := ([1] : List Int)) (inner := [.int .i64 1]) (ok := fun _ => True) (okp := fun _ => True) ?hr ?hp (fun _ hk => hk) trivial (Below.refl _ _) (Nat.le_refl _) (by simp) ?_; (case hd => rfl); (case hg => rfl); (case hr => first | (go_simp; done) | (go_simp; rfl)); (case hp => exact (Reps.one (show Kd.M (Kd.int .i64) _ _ _ 1 [.int .i64 1] from rfl) (Reps.none _ _))); intro v103 w2 ho3 hb hg_ hnew_; clear hg_ hnew_; (first | rw [← Ny102.out] at ho3 | (simp only [Int.reduceToNat] at ho3; rw [← Ny102.out] at ho3)); have n0_ := Aside0.mk (Kd.R_lower (Kd.R_newM (M := fun k_ => (w.heap.size ≤ k_)) ho3 (below_size (by repeat (first | (with_reducible first | exact HB.out | apply below_alloc | apply pw_below_drewN | apply below_drew1 | refine below_set ?_ GE101.out) | exact HB.out))) (fun k_ h_ => h_)) (below_size (by repeat (first | (with_reducible first | exact HB.out | apply below_alloc | apply pw_below_drewN | apply below_drew1 | refine below_set ?_ GE101.out) | exact HB.out)))); have n1_ := Aside0.mk (blk_below (g := gb101) (o := .cells #[.slice none 0 0, .slice none 0 0, .bool false] 25 (0, 0)) (by (with_reducible repeat (first | refine blk_drewN ?_ _ | refine blk_drew ?_ | refine blk_alloc ?_ _)); exact BK101.out) hb); have n2_ := Aside0.mk (below_step (by repeat (first | (with_reducible first | exact HB.out | apply below_alloc | apply pw_below_drewN | apply below_drew1 | refine below_set ?_ GE101.out) | exact HB.out)) hb); clear BK101; clear HB; have HO104 := n0_; have BK101 := n1_; have HB := n2_; clear n0_ n1_ n2_; clear hb ho3) | ((with_reducible refine gate_dst (N := 2) rfl ?_); refine Kd.R_lit (Kd.int .i64) _ 3 ?hg (N := 2) ?hd (xs := ([0] : List Int)) (inner := [.int .i64 0]) (ok := fun _ => True) (okp := fun _ => True) ?hr ?hp (fun _ hk => hk) trivial (Below.refl _ _) (Nat.le_refl _) (by simp) ?_; (case hd => rfl); (case hg => rfl); (case hr => first | (go_simp; done) | (go_simp; rfl)); (case hp => exact (Reps.one (show Kd.M (Kd.int .i64) _ _ _ 0 [.int .i64 0] from rfl) (Reps.none _ _))); intro v106 w4 ho5 hb hg_ hnew_; clear hg_ hnew_; (first | rw [← Ny105.out] at ho5 | (simp only [Int.reduceToNat] at ho5; rw [← Ny105.out] at ho5)); have n0_ := Aside0.mk (Kd.R_elder' (by (with_reducible repeat (first | apply Kd.R_alloc | apply Kd.R_drewN | apply Kd.R_drew)); exact HO104.out) (Kd.R_base ho5) hb); have n1_ := Aside0.mk (Kd.R_lower (Kd.R_new' (Kd.R_newM (M := fun k_ => (w.heap.size ≤ k_)) ho5 (below_size (by repeat (first | (with_reducible first | exact HB.out | apply below_alloc | apply pw_below_drewN | apply below_drew1 | refine below_set ?_ GE101.out) | exact HB.out))) (fun k_ h_ => h_)) (Kd.R_lt (by (with_reducible repeat (first | apply Kd.R_alloc | apply Kd.R_drewN | apply Kd.R_drew)); exact HO104.out))) (below_size (by repeat (first | (with_reducible first | exact HB.out | apply below_alloc | apply pw_below_drewN | apply below_drew1 | refine below_set ?_ GE101.out) | exact HB.out)))); have n2_ := Aside0.mk (blk_below (g := gb101) (o := .cells #[.slice none 0 0, .slice none 0 0, .bool false] 25 (0, 0)) (by (with_reducible repeat (first | refine blk_drewN ?_ _ | refine blk_drew ?_ | refine blk_alloc ?_ _)); exact BK101.out) hb); have n3_ := Aside0.mk (below_step (by repeat (first | (with_reducible first | exact HB.out | apply below_alloc | apply pw_below_drewN | apply below_drew1 | refine below_set ?_ GE101.out) | exact HB.out)) hb); clear HO104; clear BK101; clear HB; have HO104 := n0_; have HO107 := n1_; have BK101 := n2_; have HB := n3_; clear n0_ n1_ n2_ n3_; clear hb ho5; obtain ⟨Ao6, co6, eo6⟩ := Kd.R_slice HO104.out; subst eo6; obtain ⟨Ao7, co7, eo7⟩ := Kd.R_slice HO107.out; subst eo7) | ((with_reducible refine gate_dst (N := 3) rfl ?_); refine Kd.N_lit (Kd.slice 3 (Kd.int .i64)) _ 28 ?hg (N' := 3) ?hd (xs := ([y102, y105] : List (List Int))) (inner := [.slice Ao6 y102.length co6, .slice Ao7 y105.length co7]) (ok := (fun k_ => (w.heap.size ≤ k_) ∧ k_ ≠ gb101)) (okp := (fun k_ => (w.heap.size ≤ k_) ∧ k_ ≠ gb101)) ?hr ?hp (fun _ hk => hk) ((show ∀ k_, w4.heap.size ≤ k_ → (fun k_ => (w.heap.size ≤ k_) ∧ k_ ≠ gb101) k_ from fun k_ hk => ⟨(Nat.le_trans (below_size (by repeat (first | (with_reducible first | exact HB.out | apply below_alloc | apply pw_below_drewN | apply below_drew1 | refine below_set ?_ GE101.out) | exact HB.out))) hk), Kd.freshB (g := gb101) (o := .cells #[.slice none 0 0, .slice none 0 0, .bool false] 25 (0, 0)) (by (with_reducible repeat (first | refine blk_drewN ?_ _ | refine blk_drew ?_ | refine blk_alloc ?_ _)); exact BK101.out) k_ hk⟩) _ (Nat.le_refl _)) (Below.refl _ _) (Nat.le_refl _) (by simp) ?_; (case hd => rfl); (case hg => rfl); (case hr => first | (go_simp; done) | (go_simp; rfl)); (case hp => exact (Reps.one (show Kd.FK (Kd.slice 3 (Kd.int .i64)) _ _ y102 [.slice Ao6 y102.length co6] from (Kd.FK_slice_mk (Kd.R_reads' (Kd.R_mono (ok' := (fun k_ => (w.heap.size ≤ k_) ∧ k_ ≠ gb101)) (Kd.R_types (HO104.out) BK101.out (by decide)) (fun k_ hk => ⟨hk.1.1.1, hk.2⟩))).2.1 (Kd.R_F (Kd.R_mono (ok' := (fun k_ => (w.heap.size ≤ k_) ∧ k_ ≠ gb101)) (Kd.R_types (HO104.out) BK101.out (by decide)) (fun k_ hk => ⟨hk.1.1.1, hk.2⟩))))) (Reps.one (show Kd.FK (Kd.slice 3 (Kd.int .i64)) _ _ y105 [.slice Ao7 y105.length co7] from (Kd.FK_slice_mk (Kd.R_reads' (Kd.R_mono (ok' := (fun k_ => (w.heap.size ≤ k_) ∧ k_ ≠ gb101)) (Kd.R_types (HO107.out) BK101.out (by decide)) (fun k_ hk => ⟨hk.1.1.1, hk.2⟩))).2.1 (Kd.R_F (Kd.R_mono (ok' := (fun k_ => (w.heap.size ≤ k_) ∧ k_ ≠ gb101)) (Kd.R_types (HO107.out) BK101.out (by decide)) (fun k_ hk => ⟨hk.1.1.1, hk.2⟩))))) (Reps.none _ _)))); intro v109 w8 ho9 hb hg_ hnew_; clear hg_ hnew_; (first | rw [← Ny108.out] at ho9 | (simp only [Int.reduceToNat] at ho9; rw [← Ny108.out] at ho9)); have n0_ := Aside0.mk (Kd.N_lower ho9 (below_size (by repeat (first | (with_reducible first | exact HB.out | apply below_alloc | apply pw_below_drewN | apply below_drew1 | refine below_set ?_ GE101.out) | exact HB.out)))); have n1_ := Aside0.mk (blk_below (g := gb101) (o := .cells #[.slice none 0 0, .slice none 0 0, .bool false] 25 (0, 0)) (by (with_reducible repeat (first | refine blk_drewN ?_ _ | refine blk_drew ?_ | refine blk_alloc ?_ _)); exact BK101.out) hb); have n2_ := Aside0.mk (below_step (by repeat (first | (with_reducible first | exact HB.out | apply below_alloc | apply pw_below_drewN | apply below_drew1 | refine below_set ?_ GE101.out) | exact HB.out)) hb); clear BK101; clear HB; clear HO104; clear HO107; have HO110 := n0_; have BK101 := n1_; have HB := n2_; clear n0_ n1_ n2_; clear hb ho9) | ((with_reducible refine gate_dst (N := 5) rfl ?_); refine Kd.R_lit k80 _ 80 ?hg (N := 5) ?hd (xs := ([(⟨0, 0, 1⟩ : S80)] : List (S80))) (inner := [.int .i64 0, .int .i64 0, .int .i64 1]) (ok := fun _ => True) (okp := fun _ => True) ?hr ?hp (fun _ hk => hk) trivial (Below.refl _ _) (Nat.le_refl _) (by simp) ?_; (case hd => rfl); (case hg => rfl); (case hr => first | (go_simp; done) | (go_simp; rfl)); (case hp => exact (Reps.c3 (show Kd.M k80 _ _ _ (⟨0, 0, 1⟩ : S80) [.int .i64 0, .int .i64 0, .int .i64 1] from (k80_mkM _ _ _ (⟨0, 0, 1⟩ : S80) )) (Reps.none _ _))); intro v112 w10 ho11 hb hg_ hnew_; clear hg_ hnew_; (first | rw [← Ny111.out] at ho11 | (simp only [Int.reduceToNat] at ho11; rw [← Ny111.out] at ho11)); have n0_ := Aside0.mk (Kd.N_elder' (by (with_reducible repeat (first | apply Kd.N_alloc | apply Kd.N_drewN | apply Kd.N_drew)); exact HO110.out) (Kd.R_base ho11) hb); have n1_ := Aside0.mk (Kd.R_lower (Kd.R_newM (M := fun k_ => (w.heap.size ≤ k_)) ho11 (below_size (by repeat (first | (with_reducible first | exact HB.out | apply below_alloc | apply pw_below_drewN | apply below_drew1 | refine below_set ?_ GE101.out) | exact HB.out))) (fun k_ h_ => h_)) (below_size (by repeat (first | (with_reducible first | exact HB.out | apply below_alloc | apply pw_below_drewN | apply below_drew1 | refine below_set ?_ GE101.out) | exact HB.out)))); have n2_ := Aside0.mk (blk_below (g := gb101) (o := .cells #[.slice none 0 0, .slice none 0 0, .bool false] 25 (0, 0)) (by (with_reducible repeat (first | refine blk_drewN ?_ _ | refine blk_drew ?_ | refine blk_alloc ?_ _)); exact BK101.out) hb); have n3_ := Aside0.mk (below_step (by repeat (first | (with_reducible first | exact HB.out | apply below_alloc | apply pw_below_drewN | apply below_drew1 | refine below_set ?_ GE101.out) | exact HB.out)) hb); clear HO110; clear BK101; clear HB; have HO110 := n0_; have HO113 := n1_; have BK101 := n2_; have HB := n3_; clear n0_ n1_ n2_ n3_; clear hb ho11; obtain ⟨Ao12, co12, eo12⟩ := Kd.R_slice HO113.out; subst eo12; obtain ⟨Ao13, co13, eo13⟩ := Kd.N_slice HO110.out; subst eo13; have hcz14_0 : w10.cell? ⟨gb101, 0, none⟩ = some (.slice none 0 0) := (blk_cell BK101.out 0).trans rfl; have hcz14_1 : w10.cell? ⟨gb101, 1, none⟩ = some (.slice none 0 0) := (blk_cell BK101.out 1).trans rfl; have hcz14_2 : w10.cell? ⟨gb101, 2, none⟩ = some (.bool false) := (blk_cell BK101.out 2).trans rfl; have hfz14_0 := blk_frozen BK101.out 0; have hfz14_1 := blk_frozen BK101.out 1; have hfz14_2 := blk_frozen BK101.out 2))
 refine bodyPost_ret (results_cell_row rfl _ _ gb101 25 #[.slice Ao13 y108.length co13, .slice Ao12 y111.length co12, .bool true] (0, 0) _ rfl (by (with_reducible repeat (first | refine blk_drewN ?_ _ | refine blk_drew ?_ | refine blk_alloc ?_ _)); refine blk_put (cs := #[.slice Ao13 y108.length co13, .slice Ao12 y111.length co12, .bool false]) ?_ 2 _ rfl; (with_reducible repeat (first | refine blk_drewN ?_ _ | refine blk_drew ?_ | refine blk_alloc ?_ _)); refine blk_put (cs := #[.slice Ao13 y108.length co13, .slice none 0 0, .bool false]) ?_ 1 _ rfl; (with_reducible repeat (first | refine blk_drewN ?_ _ | refine blk_drew ?_ | refine blk_alloc ?_ _)); refine blk_put (cs := #[.slice none 0 0, .slice none 0 0, .bool false]) ?_ 0 _ rfl; (with_reducible repeat (first | refine blk_drewN ?_ _ | refine blk_drew ?_ | refine blk_alloc ?_ _)); exact BK101.out) Try.underlying25 rfl (by kernel_rfl)) rfl ?_
 exact ⟨_, _, by first | rfl | (simp [errW_none, errW_some] <;> rfl) | (simp [*, errW_none, errW_some] <;> rfl), by (with_reducible repeat (first | apply Kd.N_alloc | apply Kd.N_drewN | apply Kd.N_drew)); exact Kd.N_mono (Kd.N_far (p := ⟨gb101, 2, none⟩) (Kd.N_far (p := ⟨gb101, 1, none⟩) (Kd.N_far (p := ⟨gb101, 0, none⟩) (Kd.N_mono HO110.out (fun k_ hk => (⟨hk, hk.1.2⟩ : _ ∧ k_ ≠ gb101))) (fun _ hk => hk.2) (.slice Ao13 y108.length co13)) (fun _ hk => hk.2) (.slice Ao12 y111.length co12)) (fun _ hk => hk.2) (.bool true)) (fun _ hk => ⟨hk.1.1.1, hk.1.2⟩), by (with_reducible repeat (first | apply Kd.R_alloc | apply Kd.R_drewN | apply Kd.R_drew)); exact Kd.R_mono (Kd.R_far (p := ⟨gb101, 2, none⟩) (Kd.R_far (p := ⟨gb101, 1, none⟩) (Kd.R_far (p := ⟨gb101, 0, none⟩) (Kd.R_types HO113.out BK101.out (by decide)) (fun _ hk => hk.2) (.slice Ao13 y108.length co13)) (fun _ hk => hk.2) (.slice Ao12 y111.length co12)) (fun _ hk => hk.2) (.bool true)) (fun _ hk => hk.1.1), by repeat (first | (with_reducible first | exact HB.out | apply below_alloc | apply pw_below_drewN | apply below_drew1 | refine below_set ?_ GE101.out) | exact HB.out)⟩
end Go.Proofs.Ytfnjbgggmddgpaa.Q
end
section
namespace Go.Proofs.Ytfnjbgggmddgpaa.Q
open Go.RowKit Go.Proofs.Fn Go.Proofs.YtfnjbgggmddgpaaW.PrintWords Go.Proofs.YtfnjbgggmddgpaaW.PrintLast Go.Proofs.YtfnjbgggmddgpaaW.PrintMore
attribute [local go_sem] max2_int min2_int max_two min_two max_three min_three max_four min_four
set_option linter.unusedVariables false
set_option linter.unusedSimpArgs false
def petrinetlaw16_alive.f (k : Nat)  : Option (Bool) := (petrinetlaw16_step.f).bind fun bt101 => ((witness_Dead.f k bt101.1 bt101.2.1 bt101.2.2).bind fun bt108 => (if bt108.2 = true then ((petrinetref04_Same.f k bt108.1 (([0] : List Int))).bind fun t115 => (if t115 = true then ((petrinetlaw16_step.f).bind fun bt116 => ((witness_Diameter.f k bt116.1 bt116.2.1 bt116.2.2).bind fun t123 => (if t123 = 1 then ((witness_Diameter.f k ([] : List (List Int)) ([] : List (S80)) false).bind fun t124 => (some (t124 == (-1)))) else (some false)))) else (some false))) else (some false)))
theorem petrinetlaw16_alive.mono : ∀ k, LeO (petrinetlaw16_alive.f k ) (petrinetlaw16_alive.f (k + 1) ) := by
 intro  k
 unfold petrinetlaw16_alive.f
 repeat' first
   | (with_reducible exact petrinetref04_Same.mono _ _ _)
   | (with_reducible exact witness_Dead.mono _ _ _ _)
   | (with_reducible exact witness_Diameter.mono _ _ _ _)
   | (with_reducible exact LeO.refl _)
   | (with_reducible exact LeO.none _)
   | (with_reducible refine LeO.ite ?_ ?_)
   | (with_reducible refine LeO.bind ?_ (fun _ => ?_))
   | exact petrinetref04_Same.mono _ _ _
   | exact witness_Dead.mono _ _ _ _
   | exact witness_Diameter.mono _ _ _ _
   | exact LeO.none _
   | refine LeO.ite ?_ ?_
   | refine LeO.bind ?_ (fun _ => ?_)
set_option maxHeartbeats 8000000 in
set_option maxRecDepth 100000 in
theorem petrinetlaw16_alive.calls (k : Nat)  (r : Bool) (w : World) (h : petrinetlaw16_alive.f k  = some r) :
  Calls Try.prog 10 #[] w fun e w' => e = .returned (.bool r) ∧ Below w.heap.size w w' := by
 have hu25 := Try.underlying25
 have HB := Aside0.mk (Below.refl w.heap.size w)
 have H : ((petrinetlaw16_step.f).bind fun bt101 => ((witness_Dead.f k bt101.1 bt101.2.1 bt101.2.2).bind fun bt108 => (if bt108.2 = true then ((petrinetref04_Same.f k bt108.1 (([0] : List Int))).bind fun t115 => (if t115 = true then ((petrinetlaw16_step.f).bind fun bt116 => ((witness_Diameter.f k bt116.1 bt116.2.1 bt116.2.2).bind fun t123 => (if t123 = 1 then ((witness_Diameter.f k ([] : List (List Int)) ([] : List (S80)) false).bind fun t124 => (some (t124 == (-1)))) else (some false)))) else (some false))) else (some false)))) = some r := h
 clear h
 replace H := Option.bind_eq_some_iff.mp H
 obtain ⟨⟨t101, t104, t107⟩, A10, H⟩ := H
 replace H : ((witness_Dead.f k t101 t104 t107).bind fun bt108 => (if bt108.2 = true then ((petrinetref04_Same.f k bt108.1 (([0] : List Int))).bind fun t115 => (if t115 = true then ((petrinetlaw16_step.f).bind fun bt116 => ((witness_Diameter.f k bt116.1 bt116.2.1 bt116.2.2).bind fun t123 => (if t123 = 1 then ((witness_Diameter.f k ([] : List (List Int)) ([] : List (S80)) false).bind fun t124 => (some (t124 == (-1)))) else (some false)))) else (some false))) else (some false))) = some r := H
 have A1 := Aside0.mk A10
 clear A10
 replace H := Option.bind_eq_some_iff.mp H
 obtain ⟨⟨t108, t111⟩, A20, H⟩ := H
 replace H : (if t111 = true then ((petrinetref04_Same.f k t108 (([0] : List Int))).bind fun t115 => (if t115 = true then ((petrinetlaw16_step.f).bind fun bt116 => ((witness_Diameter.f k bt116.1 bt116.2.1 bt116.2.2).bind fun t123 => (if t123 = 1 then ((witness_Diameter.f k ([] : List (List Int)) ([] : List (S80)) false).bind fun t124 => (some (t124 == (-1)))) else (some false)))) else (some false))) else (some false)) = some r := H
 have A2 := Aside0.mk A20
 clear A20
 by_cases c3 : t111 = true
 ·subst c3
  have H1 : ((petrinetref04_Same.f k t108 (([0] : List Int))).bind fun t115 => (if t115 = true then ((petrinetlaw16_step.f).bind fun bt116 => ((witness_Diameter.f k bt116.1 bt116.2.1 bt116.2.2).bind fun t123 => (if t123 = 1 then ((witness_Diameter.f k ([] : List (List Int)) ([] : List (S80)) false).bind fun t124 => (some (t124 == (-1)))) else (some false)))) else (some false))) = some r := by rw [if_pos rfl] at H; exact H
  clear H
  have H := H1
  clear H1
  obtain ⟨y112, hy112⟩ : ∃ y_ : List Int, y_ = (([0] : List Int)) := ⟨_, rfl⟩
  replace H : ((petrinetref04_Same.f k t108 y112).bind fun t115 => (if t115 = true then ((petrinetlaw16_step.f).bind fun bt116 => ((witness_Diameter.f k bt116.1 bt116.2.1 bt116.2.2).bind fun t123 => (if t123 = 1 then ((witness_Diameter.f k ([] : List (List Int)) ([] : List (S80)) false).bind fun t124 => (some (t124 == (-1)))) else (some false)))) else (some false))) = some r := by first | (rw [hy112]; with_reducible exact H) | (have H2_ := (Option.bind_some _ _).symm.trans H; rw [hy112]; with_reducible exact H2_) | (have H2_ := (Option.bind_some _ _).symm.trans H; with_reducible exact H2_) | with_reducible exact H | (rw [hy112]; exact H) | exact H
  have Ny112 := Aside0.mk hy112
  clear hy112
  replace H := Option.bind_eq_some_iff.mp H
  obtain ⟨t115, A40, H⟩ := H
  replace H : (if t115 = true then ((petrinetlaw16_step.f).bind fun bt116 => ((witness_Diameter.f k bt116.1 bt116.2.1 bt116.2.2).bind fun t123 => (if t123 = 1 then ((witness_Diameter.f k ([] : List (List Int)) ([] : List (S80)) false).bind fun t124 => (some (t124 == (-1)))) else (some false)))) else (some false)) = some r := H
  have A4 := Aside0.mk A40
  clear A40
  by_cases c5 : t115 = true
  ·subst c5
   have H1 : ((petrinetlaw16_step.f).bind fun bt116 => ((witness_Diameter.f k bt116.1 bt116.2.1 bt116.2.2).bind fun t123 => (if t123 = 1 then ((witness_Diameter.f k ([] : List (List Int)) ([] : List (S80)) false).bind fun t124 => (some (t124 == (-1)))) else (some false)))) = some r := by rw [if_pos rfl] at H; exact H
   clear H
   have H := H1
   clear H1
   replace H := Option.bind_eq_some_iff.mp H
   obtain ⟨⟨t116, t119, t122⟩, A60, H⟩ := H
   replace H : ((witness_Diameter.f k t116 t119 t122).bind fun t123 => (if t123 = 1 then ((witness_Diameter.f k ([] : List (List Int)) ([] : List (S80)) false).bind fun t124 => (some (t124 == (-1)))) else (some false))) = some r := H
   have A6 := Aside0.mk A60
   clear A60
   replace H := Option.bind_eq_some_iff.mp H
   obtain ⟨t123, A70, H⟩ := H
   replace H : (if t123 = 1 then ((witness_Diameter.f k ([] : List (List Int)) ([] : List (S80)) false).bind fun t124 => (some (t124 == (-1)))) else (some false)) = some r := H
   have A7 := Aside0.mk A70
   clear A70
   by_cases c8 : t123 = 1
   ·rw [if_pos c8] at H
    have c8b0 : (t123 == 1) = true := beq_iff_eq.mpr c8
    have c8b1 : (t123 != 1) = false := bne_eq_false_iff_eq.mpr c8
    clear c8
    replace H := Option.bind_eq_some_iff.mp H
    obtain ⟨t124, A90, H⟩ := H
    replace H : (some (t124 == (-1))) = some r := H
    have A9 := Aside0.mk A90
    clear A90
    obtain rfl := Option.some.inj H
    go_enter Try.func10, Try.ntmps10
    go_wp2_with (first | ((with_reducible refine gate_callee (f := 33) rfl ?_); refine goesL_ (some 4) rfl rfl Try.func33 (by kernel_rfl) rfl #[] rfl (by (try simp only [List.map_toArray, List.map_cons, List.map_nil]); first | done | rfl | (simp only [List.length_drop, List.length_take]; rfl)) ?_; (with_reducible refine (petrinetlaw16_step.calls  t101 t104 t107 _ A1.out).mono ?_); rintro e w10 ⟨v102, v105, rfl, ho0, ho1, hb⟩; refine ⟨_, rfl, ?_⟩; have n0_ := Aside0.mk (Kd.N_lower (Kd.N_mono (ok' := fun k_ => some k_ ≠ (v105 : Value).ownBlock) ho0 (fun k_ hk_ => hk_.2)) (below_size (by repeat (first | (with_reducible first | exact HB.out | apply below_alloc | apply pw_below_drewN | apply below_drew1) | exact HB.out)))); have n1_ := Aside0.mk (Kd.R_lower (Kd.R_mono (ok' := fun k_ => True) ho1 (fun _ hk_ => trivial)) (below_size (by repeat (first | (with_reducible first | exact HB.out | apply below_alloc | apply pw_below_drewN | apply below_drew1) | exact HB.out)))); have n2_ := Aside0.mk (below_step (by repeat (first | (with_reducible first | exact HB.out | apply below_alloc | apply pw_below_drewN | apply below_drew1) | exact HB.out)) hb); clear HB; have HO103 := n0_; have HO106 := n1_; have HB := n2_; clear n0_ n1_ n2_; (try clear hb); (try clear hb2); (try clear hk); (try clear hi); (try clear ho0); (try clear ho1); obtain ⟨Ao11, co11, eo11⟩ := Kd.N_slice HO103.out; subst eo11; obtain ⟨Ao12, co12, eo12⟩ := Kd.R_slice HO106.out; subst eo12) | ((with_reducible refine gate_callee (f := 11) rfl ?_); refine goesL_ (some 5) rfl rfl Try.func11 (by kernel_rfl) rfl #[.agg #[.slice Ao11 t101.length co11, .slice Ao12 t104.length co12, .bool t107]] rfl (by (try simp only [List.map_toArray, List.map_cons, List.map_nil]); first | done | rfl | (simp only [List.length_drop, List.length_take]; rfl)) ?_; (with_reducible refine (witness_Dead.calls k _ _ t101 _ _ t104 t107 t108 true _ ?side1 ?side2 ?side3 ?side4 A2.out).mono ?_); (case side1 => repeat (first | exact (Kd.N_reads' HO103.out).2.2 | (with_reducible refine Kd.C_alloc ?_ _) | (with_reducible refine Kd.C_drewN ?_ _) | (with_reducible refine Kd.C_drew ?_))); (case side2 => exact (Kd.N_reads' HO103.out).2.1); (case side3 => repeat (first | exact (Kd.R_reads' HO106.out).2.2 | (with_reducible refine Kd.C_alloc ?_ _) | (with_reducible refine Kd.C_drewN ?_ _) | (with_reducible refine Kd.C_drew ?_))); (case side4 => exact (Kd.R_reads' HO106.out).2.1); rintro e w13 ⟨v109, rfl, ho0, hb⟩; refine ⟨_, rfl, ?_⟩; have n0_ := Aside0.mk (Kd.N_elder' (by (with_reducible repeat (first | apply Kd.N_alloc | apply Kd.N_drewN | apply Kd.N_drew)); exact HO103.out) (Kd.R_base ho0) hb); have n1_ := Aside0.mk (Kd.R_below (by (with_reducible repeat (first | apply Kd.R_alloc | apply Kd.R_drewN | apply Kd.R_drew)); exact HO106.out) hb); have n2_ := Aside0.mk (Kd.R_lower ho0 (below_size (by repeat (first | (with_reducible first | exact HB.out | apply below_alloc | apply pw_below_drewN | apply below_drew1) | exact HB.out)))); have n3_ := Aside0.mk (below_step (by repeat (first | (with_reducible first | exact HB.out | apply below_alloc | apply pw_below_drewN | apply below_drew1) | exact HB.out)) hb); clear HO103; clear HO106; clear HB; have HO103 := n0_; have HO106 := n1_; have HO110 := n2_; have HB := n3_; clear n0_ n1_ n2_ n3_; (try clear hb); (try clear hb2); (try clear hk); (try clear hi); (try clear ho0)) | ((with_reducible refine gate_dst (N := 11) rfl ?_); (try (refine gate_guard (by rfl) ?_; dsimp only)); refine Kd.R_lit (Kd.int .i64) _ 3 ?hg (N := 11) ?hd (xs := ([0] : List Int)) (inner := [.int .i64 0]) (ok := fun _ => True) (okp := fun _ => True) ?hr ?hp (fun _ hk => hk) trivial (Below.refl _ _) (Nat.le_refl _) (by simp) ?_; (case hd => rfl); (case hg => rfl); (case hr => first | (go_simp; done) | (go_simp; rfl)); (case hp => exact (Reps.one (show Kd.M (Kd.int .i64) _ _ _ 0 [.int .i64 0] from rfl) (Reps.none _ _))); intro v113 w14 ho15 hb hg_ hnew_; clear hg_ hnew_; (first | rw [← Ny112.out] at ho15 | (simp only [Int.reduceToNat] at ho15; rw [← Ny112.out] at ho15)); have n0_ := Aside0.mk (Kd.N_elder' (by (with_reducible repeat (first | apply Kd.N_alloc | apply Kd.N_drewN | apply Kd.N_drew)); exact HO103.out) (Kd.R_base ho15) hb); have n1_ := Aside0.mk (Kd.R_below (by (with_reducible repeat (first | apply Kd.R_alloc | apply Kd.R_drewN | apply Kd.R_drew)); exact HO106.out) hb); have n2_ := Aside0.mk (Kd.R_elder' (by (with_reducible repeat (first | apply Kd.R_alloc | apply Kd.R_drewN | apply Kd.R_drew)); exact HO110.out) (Kd.R_base ho15) hb); have n3_ := Aside0.mk (Kd.R_lower (Kd.R_new' ho15 (Kd.R_lt (by (with_reducible repeat (first | apply Kd.R_alloc | apply Kd.R_drewN | apply Kd.R_drew)); exact HO110.out))) (below_size (by repeat (first | (with_reducible first | exact HB.out | apply below_alloc | apply pw_below_drewN | apply below_drew1) | exact HB.out)))); have n4_ := Aside0.mk (below_step (by repeat (first | (with_reducible first | exact HB.out | apply below_alloc | apply pw_below_drewN | apply below_drew1) | exact HB.out)) hb); clear HO103; clear HO106; clear HO110; clear HB; have HO103 := n0_; have HO106 := n1_; have HO110 := n2_; have HO114 := n3_; have HB := n4_; clear n0_ n1_ n2_ n3_ n4_; clear hb ho15; obtain ⟨Ao16, co16, eo16⟩ := Kd.R_slice HO110.out; subst eo16; obtain ⟨Ao17, co17, eo17⟩ := Kd.R_slice HO114.out; subst eo17) | (go_at_call 13; (with_reducible refine (petrinetref04_Same.calls k _ _ t108 _ _ y112 true _ ?side1 ?side2 ?side3 ?side4 A4.out).mono ?_); (case side1 => repeat (first | exact (Kd.R_reads' HO110.out).2.2 | (with_reducible refine Kd.C_alloc ?_ _) | (with_reducible refine Kd.C_drewN ?_ _) | (with_reducible refine Kd.C_drew ?_))); (case side2 => exact (Kd.R_reads' HO110.out).2.1); (case side3 => repeat (first | exact (Kd.R_reads' HO114.out).2.2 | (with_reducible refine Kd.C_alloc ?_ _) | (with_reducible refine Kd.C_drewN ?_ _) | (with_reducible refine Kd.C_drew ?_))); (case side4 => exact (Kd.R_reads' HO114.out).2.1); rintro e w' ⟨rfl, ⟨nd, rfl⟩⟩) | (go_at_call 33; (with_reducible refine (petrinetlaw16_step.calls  t116 t119 t122 _ A6.out).mono ?_); rintro e w18 ⟨v117, v120, rfl, ho0, ho1, hb⟩; have n0_ := Aside0.mk (Kd.N_mono (Kd.N_told (Kd.N_told (Kd.N_old (by (with_reducible repeat (first | apply Kd.N_alloc | apply Kd.N_drewN | apply Kd.N_drew)); exact HO103.out) hb) (Kd.N_base ho0)) (Kd.R_base ho1)) (fun _ h_ => h_.1)); have n1_ := Aside0.mk (Kd.R_elder' (by (with_reducible repeat (first | apply Kd.R_alloc | apply Kd.R_drewN | apply Kd.R_drew)); exact HO106.out) (Kd.R_base ho1) hb); have n2_ := Aside0.mk (Kd.R_below (by (with_reducible repeat (first | apply Kd.R_alloc | apply Kd.R_drewN | apply Kd.R_drew)); exact HO110.out) hb); have n3_ := Aside0.mk (Kd.R_below (by (with_reducible repeat (first | apply Kd.R_alloc | apply Kd.R_drewN | apply Kd.R_drew)); exact HO114.out) hb); have n4_ := Aside0.mk (Kd.N_lower (Kd.N_mono (ok' := fun k_ => some k_ ≠ (v120 : Value).ownBlock ∧ some k_ ≠ (.slice Ao11 t101.length co11 : Value).ownBlock ∧ some k_ ≠ (.slice Ao12 t104.length co12 : Value).ownBlock ∧ some k_ ≠ (.slice Ao16 t108.length co16 : Value).ownBlock ∧ some k_ ≠ (.slice Ao17 y112.length co17 : Value).ownBlock) ho0 (fun k_ hk_ => ⟨hk_.2, (Kd.fresh' (Kd.N_lt (by (with_reducible repeat (first | apply Kd.N_alloc | apply Kd.N_drewN | apply Kd.N_drew)); exact HO103.out)) k_ hk_.1), (Kd.fresh' (Kd.R_lt (by (with_reducible repeat (first | apply Kd.R_alloc | apply Kd.R_drewN | apply Kd.R_drew)); exact HO106.out)) k_ hk_.1), (Kd.fresh' (Kd.R_lt (by (with_reducible repeat (first | apply Kd.R_alloc | apply Kd.R_drewN | apply Kd.R_drew)); exact HO110.out)) k_ hk_.1), (Kd.fresh' (Kd.R_lt (by (with_reducible repeat (first | apply Kd.R_alloc | apply Kd.R_drewN | apply Kd.R_drew)); exact HO114.out)) k_ hk_.1)⟩)) (below_size (by repeat (first | (with_reducible first | exact HB.out | apply below_alloc | apply pw_below_drewN | apply below_drew1) | exact HB.out)))); have n5_ := Aside0.mk (Kd.R_lower (Kd.R_new' (Kd.R_mono (ok' := fun k_ => True) ho1 (fun _ hk_ => trivial)) (Kd.R_lt (by (with_reducible repeat (first | apply Kd.R_alloc | apply Kd.R_drewN | apply Kd.R_drew)); exact HO106.out))) (below_size (by repeat (first | (with_reducible first | exact HB.out | apply below_alloc | apply pw_below_drewN | apply below_drew1) | exact HB.out)))); have n6_ := Aside0.mk (below_step (by repeat (first | (with_reducible first | exact HB.out | apply below_alloc | apply pw_below_drewN | apply below_drew1) | exact HB.out)) hb); clear HO103; clear HO106; clear HO110; clear HO114; clear HB; have HO103 := n0_; have HO106 := n1_; have HO110 := n2_; have HO114 := n3_; have HO118 := n4_; have HO121 := n5_; have HB := n6_; clear n0_ n1_ n2_ n3_ n4_ n5_ n6_; (try clear hb); (try clear hb2); (try clear hk); (try clear hi); (try clear ho0); (try clear ho1); obtain ⟨Ao19, co19, eo19⟩ := Kd.N_slice HO118.out; subst eo19; obtain ⟨Ao20, co20, eo20⟩ := Kd.R_slice HO121.out; subst eo20) | (go_at_call 14; (with_reducible refine (witness_Diameter.calls k _ _ t116 _ _ t119 t122 t123 _ ?side1 ?side2 ?side3 ?side4 A7.out).mono ?_); (case side1 => repeat (first | exact (Kd.N_reads' HO118.out).2.2 | (with_reducible refine Kd.C_alloc ?_ _) | (with_reducible refine Kd.C_drewN ?_ _) | (with_reducible refine Kd.C_drew ?_))); (case side2 => exact (Kd.N_reads' HO118.out).2.1); (case side3 => repeat (first | exact (Kd.R_reads' HO121.out).2.2 | (with_reducible refine Kd.C_alloc ?_ _) | (with_reducible refine Kd.C_drewN ?_ _) | (with_reducible refine Kd.C_drew ?_))); (case side4 => exact (Kd.R_reads' HO121.out).2.1); rintro e w21 ⟨rfl, hb⟩; have n0_ := Aside0.mk (Kd.N_below (by (with_reducible repeat (first | apply Kd.N_alloc | apply Kd.N_drewN | apply Kd.N_drew)); exact HO103.out) hb); have n1_ := Aside0.mk (Kd.R_below (by (with_reducible repeat (first | apply Kd.R_alloc | apply Kd.R_drewN | apply Kd.R_drew)); exact HO106.out) hb); have n2_ := Aside0.mk (Kd.R_below (by (with_reducible repeat (first | apply Kd.R_alloc | apply Kd.R_drewN | apply Kd.R_drew)); exact HO110.out) hb); have n3_ := Aside0.mk (Kd.R_below (by (with_reducible repeat (first | apply Kd.R_alloc | apply Kd.R_drewN | apply Kd.R_drew)); exact HO114.out) hb); have n4_ := Aside0.mk (Kd.N_below (by (with_reducible repeat (first | apply Kd.N_alloc | apply Kd.N_drewN | apply Kd.N_drew)); exact HO118.out) hb); have n5_ := Aside0.mk (Kd.R_below (by (with_reducible repeat (first | apply Kd.R_alloc | apply Kd.R_drewN | apply Kd.R_drew)); exact HO121.out) hb); have n6_ := Aside0.mk (below_step (by repeat (first | (with_reducible first | exact HB.out | apply below_alloc | apply pw_below_drewN | apply below_drew1) | exact HB.out)) hb); clear HO103; clear HO106; clear HO110; clear HO114; clear HO118; clear HO121; clear HB; have HO103 := n0_; have HO106 := n1_; have HO110 := n2_; have HO114 := n3_; have HO118 := n4_; have HO121 := n5_; have HB := n6_; clear n0_ n1_ n2_ n3_ n4_ n5_ n6_; (try clear hb); (try clear hb2); (try clear hk); (try clear hi)) | (go_at_call 14; (refine (witness_Diameter.calls k _ _ ([] : List (List Int)) _ _ ([] : List (S80)) false t124 _ ?side1 ?side2 ?side3 ?side4 A9.out).mono ?_); (case side1 => exact Kd.C_nil _ _); (case side2 => exact Nat.le_refl _); (case side3 => exact Kd.C_nil _ _); (case side4 => exact Nat.le_refl _); rintro e w22 ⟨rfl, hb⟩; have n0_ := Aside0.mk (Kd.N_below (by (with_reducible repeat (first | apply Kd.N_alloc | apply Kd.N_drewN | apply Kd.N_drew)); exact HO103.out) hb); have n1_ := Aside0.mk (Kd.R_below (by (with_reducible repeat (first | apply Kd.R_alloc | apply Kd.R_drewN | apply Kd.R_drew)); exact HO106.out) hb); have n2_ := Aside0.mk (Kd.R_below (by (with_reducible repeat (first | apply Kd.R_alloc | apply Kd.R_drewN | apply Kd.R_drew)); exact HO110.out) hb); have n3_ := Aside0.mk (Kd.R_below (by (with_reducible repeat (first | apply Kd.R_alloc | apply Kd.R_drewN | apply Kd.R_drew)); exact HO114.out) hb); have n4_ := Aside0.mk (Kd.N_below (by (with_reducible repeat (first | apply Kd.N_alloc | apply Kd.N_drewN | apply Kd.N_drew)); exact HO118.out) hb); have n5_ := Aside0.mk (Kd.R_below (by (with_reducible repeat (first | apply Kd.R_alloc | apply Kd.R_drewN | apply Kd.R_drew)); exact HO121.out) hb); have n6_ := Aside0.mk (below_step (by repeat (first | (with_reducible first | exact HB.out | apply below_alloc | apply pw_below_drewN | apply below_drew1) | exact HB.out)) hb); clear HO103; clear HO106; clear HO110; clear HO114; clear HO118; clear HO121; clear HB; have HO103 := n0_; have HO106 := n1_; have HO110 := n2_; have HO114 := n3_; have HO118 := n4_; have HO121 := n5_; have HB := n6_; clear n0_ n1_ n2_ n3_ n4_ n5_ n6_; (try clear hb); (try clear hb2); (try clear hk); (try clear hi)))
    go_ret
    exact ⟨by first | rfl | (simp [errW_none, errW_some] <;> rfl) | (simp [*, errW_none, errW_some] <;> rfl), by repeat (first | (with_reducible first | exact HB.out | apply below_alloc | apply pw_below_drewN | apply below_drew1) | exact HB.out)⟩
   ·rw [if_neg c8] at H
    have c8b0 : (t123 == 1) = false := beq_eq_false_iff_ne.mpr c8
    have c8b1 : (t123 != 1) = true := bne_iff_ne.mpr c8
    obtain rfl := Option.some.inj H
    go_enter Try.func10, Try.ntmps10
    go_wp2_with (first | ((with_reducible refine gate_callee (f := 33) rfl ?_); refine goesL_ (some 4) rfl rfl Try.func33 (by kernel_rfl) rfl #[] rfl (by (try simp only [List.map_toArray, List.map_cons, List.map_nil]); first | done | rfl | (simp only [List.length_drop, List.length_take]; rfl)) ?_; (with_reducible refine (petrinetlaw16_step.calls  t101 t104 t107 _ A1.out).mono ?_); rintro e w23 ⟨v102, v105, rfl, ho0, ho1, hb⟩; refine ⟨_, rfl, ?_⟩; have n0_ := Aside0.mk (Kd.N_lower (Kd.N_mono (ok' := fun k_ => some k_ ≠ (v105 : Value).ownBlock) ho0 (fun k_ hk_ => hk_.2)) (below_size (by repeat (first | (with_reducible first | exact HB.out | apply below_alloc | apply pw_below_drewN | apply below_drew1) | exact HB.out)))); have n1_ := Aside0.mk (Kd.R_lower (Kd.R_mono (ok' := fun k_ => True) ho1 (fun _ hk_ => trivial)) (below_size (by repeat (first | (with_reducible first | exact HB.out | apply below_alloc | apply pw_below_drewN | apply below_drew1) | exact HB.out)))); have n2_ := Aside0.mk (below_step (by repeat (first | (with_reducible first | exact HB.out | apply below_alloc | apply pw_below_drewN | apply below_drew1) | exact HB.out)) hb); clear HB; have HO103 := n0_; have HO106 := n1_; have HB := n2_; clear n0_ n1_ n2_; (try clear hb); (try clear hb2); (try clear hk); (try clear hi); (try clear ho0); (try clear ho1); obtain ⟨Ao24, co24, eo24⟩ := Kd.N_slice HO103.out; subst eo24; obtain ⟨Ao25, co25, eo25⟩ := Kd.R_slice HO106.out; subst eo25) | ((with_reducible refine gate_callee (f := 11) rfl ?_); refine goesL_ (some 5) rfl rfl Try.func11 (by kernel_rfl) rfl #[.agg #[.slice Ao24 t101.length co24, .slice Ao25 t104.length co25, .bool t107]] rfl (by (try simp only [List.map_toArray, List.map_cons, List.map_nil]); first | done | rfl | (simp only [List.length_drop, List.length_take]; rfl)) ?_; (with_reducible refine (witness_Dead.calls k _ _ t101 _ _ t104 t107 t108 true _ ?side1 ?side2 ?side3 ?side4 A2.out).mono ?_); (case side1 => repeat (first | exact (Kd.N_reads' HO103.out).2.2 | (with_reducible refine Kd.C_alloc ?_ _) | (with_reducible refine Kd.C_drewN ?_ _) | (with_reducible refine Kd.C_drew ?_))); (case side2 => exact (Kd.N_reads' HO103.out).2.1); (case side3 => repeat (first | exact (Kd.R_reads' HO106.out).2.2 | (with_reducible refine Kd.C_alloc ?_ _) | (with_reducible refine Kd.C_drewN ?_ _) | (with_reducible refine Kd.C_drew ?_))); (case side4 => exact (Kd.R_reads' HO106.out).2.1); rintro e w26 ⟨v109, rfl, ho0, hb⟩; refine ⟨_, rfl, ?_⟩; have n0_ := Aside0.mk (Kd.N_elder' (by (with_reducible repeat (first | apply Kd.N_alloc | apply Kd.N_drewN | apply Kd.N_drew)); exact HO103.out) (Kd.R_base ho0) hb); have n1_ := Aside0.mk (Kd.R_below (by (with_reducible repeat (first | apply Kd.R_alloc | apply Kd.R_drewN | apply Kd.R_drew)); exact HO106.out) hb); have n2_ := Aside0.mk (Kd.R_lower ho0 (below_size (by repeat (first | (with_reducible first | exact HB.out | apply below_alloc | apply pw_below_drewN | apply below_drew1) | exact HB.out)))); have n3_ := Aside0.mk (below_step (by repeat (first | (with_reducible first | exact HB.out | apply below_alloc | apply pw_below_drewN | apply below_drew1) | exact HB.out)) hb); clear HO103; clear HO106; clear HB; have HO103 := n0_; have HO106 := n1_; have HO110 := n2_; have HB := n3_; clear n0_ n1_ n2_ n3_; (try clear hb); (try clear hb2); (try clear hk); (try clear hi); (try clear ho0)) | ((with_reducible refine gate_dst (N := 11) rfl ?_); (try (refine gate_guard (by rfl) ?_; dsimp only)); refine Kd.R_lit (Kd.int .i64) _ 3 ?hg (N := 11) ?hd (xs := ([0] : List Int)) (inner := [.int .i64 0]) (ok := fun _ => True) (okp := fun _ => True) ?hr ?hp (fun _ hk => hk) trivial (Below.refl _ _) (Nat.le_refl _) (by simp) ?_; (case hd => rfl); (case hg => rfl); (case hr => first | (go_simp; done) | (go_simp; rfl)); (case hp => exact (Reps.one (show Kd.M (Kd.int .i64) _ _ _ 0 [.int .i64 0] from rfl) (Reps.none _ _))); intro v113 w27 ho28 hb hg_ hnew_; clear hg_ hnew_; (first | rw [← Ny112.out] at ho28 | (simp only [Int.reduceToNat] at ho28; rw [← Ny112.out] at ho28)); have n0_ := Aside0.mk (Kd.N_elder' (by (with_reducible repeat (first | apply Kd.N_alloc | apply Kd.N_drewN | apply Kd.N_drew)); exact HO103.out) (Kd.R_base ho28) hb); have n1_ := Aside0.mk (Kd.R_below (by (with_reducible repeat (first | apply Kd.R_alloc | apply Kd.R_drewN | apply Kd.R_drew)); exact HO106.out) hb); have n2_ := Aside0.mk (Kd.R_elder' (by (with_reducible repeat (first | apply Kd.R_alloc | apply Kd.R_drewN | apply Kd.R_drew)); exact HO110.out) (Kd.R_base ho28) hb); have n3_ := Aside0.mk (Kd.R_lower (Kd.R_new' ho28 (Kd.R_lt (by (with_reducible repeat (first | apply Kd.R_alloc | apply Kd.R_drewN | apply Kd.R_drew)); exact HO110.out))) (below_size (by repeat (first | (with_reducible first | exact HB.out | apply below_alloc | apply pw_below_drewN | apply below_drew1) | exact HB.out)))); have n4_ := Aside0.mk (below_step (by repeat (first | (with_reducible first | exact HB.out | apply below_alloc | apply pw_below_drewN | apply below_drew1) | exact HB.out)) hb); clear HO103; clear HO106; clear HO110; clear HB; have HO103 := n0_; have HO106 := n1_; have HO110 := n2_; have HO114 := n3_; have HB := n4_; clear n0_ n1_ n2_ n3_ n4_; clear hb ho28; obtain ⟨Ao29, co29, eo29⟩ := Kd.R_slice HO110.out; subst eo29; obtain ⟨Ao30, co30, eo30⟩ := Kd.R_slice HO114.out; subst eo30) | (go_at_call 13; (with_reducible refine (petrinetref04_Same.calls k _ _ t108 _ _ y112 true _ ?side1 ?side2 ?side3 ?side4 A4.out).mono ?_); (case side1 => repeat (first | exact (Kd.R_reads' HO110.out).2.2 | (with_reducible refine Kd.C_alloc ?_ _) | (with_reducible refine Kd.C_drewN ?_ _) | (with_reducible refine Kd.C_drew ?_))); (case side2 => exact (Kd.R_reads' HO110.out).2.1); (case side3 => repeat (first | exact (Kd.R_reads' HO114.out).2.2 | (with_reducible refine Kd.C_alloc ?_ _) | (with_reducible refine Kd.C_drewN ?_ _) | (with_reducible refine Kd.C_drew ?_))); (case side4 => exact (Kd.R_reads' HO114.out).2.1); rintro e w' ⟨rfl, ⟨nd, rfl⟩⟩) | (go_at_call 33; (with_reducible refine (petrinetlaw16_step.calls  t116 t119 t122 _ A6.out).mono ?_); rintro e w31 ⟨v117, v120, rfl, ho0, ho1, hb⟩; have n0_ := Aside0.mk (Kd.N_mono (Kd.N_told (Kd.N_told (Kd.N_old (by (with_reducible repeat (first | apply Kd.N_alloc | apply Kd.N_drewN | apply Kd.N_drew)); exact HO103.out) hb) (Kd.N_base ho0)) (Kd.R_base ho1)) (fun _ h_ => h_.1)); have n1_ := Aside0.mk (Kd.R_elder' (by (with_reducible repeat (first | apply Kd.R_alloc | apply Kd.R_drewN | apply Kd.R_drew)); exact HO106.out) (Kd.R_base ho1) hb); have n2_ := Aside0.mk (Kd.R_below (by (with_reducible repeat (first | apply Kd.R_alloc | apply Kd.R_drewN | apply Kd.R_drew)); exact HO110.out) hb); have n3_ := Aside0.mk (Kd.R_below (by (with_reducible repeat (first | apply Kd.R_alloc | apply Kd.R_drewN | apply Kd.R_drew)); exact HO114.out) hb); have n4_ := Aside0.mk (Kd.N_lower (Kd.N_mono (ok' := fun k_ => some k_ ≠ (v120 : Value).ownBlock ∧ some k_ ≠ (.slice Ao24 t101.length co24 : Value).ownBlock ∧ some k_ ≠ (.slice Ao25 t104.length co25 : Value).ownBlock ∧ some k_ ≠ (.slice Ao29 t108.length co29 : Value).ownBlock ∧ some k_ ≠ (.slice Ao30 y112.length co30 : Value).ownBlock) ho0 (fun k_ hk_ => ⟨hk_.2, (Kd.fresh' (Kd.N_lt (by (with_reducible repeat (first | apply Kd.N_alloc | apply Kd.N_drewN | apply Kd.N_drew)); exact HO103.out)) k_ hk_.1), (Kd.fresh' (Kd.R_lt (by (with_reducible repeat (first | apply Kd.R_alloc | apply Kd.R_drewN | apply Kd.R_drew)); exact HO106.out)) k_ hk_.1), (Kd.fresh' (Kd.R_lt (by (with_reducible repeat (first | apply Kd.R_alloc | apply Kd.R_drewN | apply Kd.R_drew)); exact HO110.out)) k_ hk_.1), (Kd.fresh' (Kd.R_lt (by (with_reducible repeat (first | apply Kd.R_alloc | apply Kd.R_drewN | apply Kd.R_drew)); exact HO114.out)) k_ hk_.1)⟩)) (below_size (by repeat (first | (with_reducible first | exact HB.out | apply below_alloc | apply pw_below_drewN | apply below_drew1) | exact HB.out)))); have n5_ := Aside0.mk (Kd.R_lower (Kd.R_new' (Kd.R_mono (ok' := fun k_ => True) ho1 (fun _ hk_ => trivial)) (Kd.R_lt (by (with_reducible repeat (first | apply Kd.R_alloc | apply Kd.R_drewN | apply Kd.R_drew)); exact HO106.out))) (below_size (by repeat (first | (with_reducible first | exact HB.out | apply below_alloc | apply pw_below_drewN | apply below_drew1) | exact HB.out)))); have n6_ := Aside0.mk (below_step (by repeat (first | (with_reducible first | exact HB.out | apply below_alloc | apply pw_below_drewN | apply below_drew1) | exact HB.out)) hb); clear HO103; clear HO106; clear HO110; clear HO114; clear HB; have HO103 := n0_; have HO106 := n1_; have HO110 := n2_; have HO114 := n3_; have HO118 := n4_; have HO121 := n5_; have HB := n6_; clear n0_ n1_ n2_ n3_ n4_ n5_ n6_; (try clear hb); (try clear hb2); (try clear hk); (try clear hi); (try clear ho0); (try clear ho1); obtain ⟨Ao32, co32, eo32⟩ := Kd.N_slice HO118.out; subst eo32; obtain ⟨Ao33, co33, eo33⟩ := Kd.R_slice HO121.out; subst eo33) | (go_at_call 14; (with_reducible refine (witness_Diameter.calls k _ _ t116 _ _ t119 t122 t123 _ ?side1 ?side2 ?side3 ?side4 A7.out).mono ?_); (case side1 => repeat (first | exact (Kd.N_reads' HO118.out).2.2 | (with_reducible refine Kd.C_alloc ?_ _) | (with_reducible refine Kd.C_drewN ?_ _) | (with_reducible refine Kd.C_drew ?_))); (case side2 => exact (Kd.N_reads' HO118.out).2.1); (case side3 => repeat (first | exact (Kd.R_reads' HO121.out).2.2 | (with_reducible refine Kd.C_alloc ?_ _) | (with_reducible refine Kd.C_drewN ?_ _) | (with_reducible refine Kd.C_drew ?_))); (case side4 => exact (Kd.R_reads' HO121.out).2.1); rintro e w34 ⟨rfl, hb⟩; have n0_ := Aside0.mk (Kd.N_below (by (with_reducible repeat (first | apply Kd.N_alloc | apply Kd.N_drewN | apply Kd.N_drew)); exact HO103.out) hb); have n1_ := Aside0.mk (Kd.R_below (by (with_reducible repeat (first | apply Kd.R_alloc | apply Kd.R_drewN | apply Kd.R_drew)); exact HO106.out) hb); have n2_ := Aside0.mk (Kd.R_below (by (with_reducible repeat (first | apply Kd.R_alloc | apply Kd.R_drewN | apply Kd.R_drew)); exact HO110.out) hb); have n3_ := Aside0.mk (Kd.R_below (by (with_reducible repeat (first | apply Kd.R_alloc | apply Kd.R_drewN | apply Kd.R_drew)); exact HO114.out) hb); have n4_ := Aside0.mk (Kd.N_below (by (with_reducible repeat (first | apply Kd.N_alloc | apply Kd.N_drewN | apply Kd.N_drew)); exact HO118.out) hb); have n5_ := Aside0.mk (Kd.R_below (by (with_reducible repeat (first | apply Kd.R_alloc | apply Kd.R_drewN | apply Kd.R_drew)); exact HO121.out) hb); have n6_ := Aside0.mk (below_step (by repeat (first | (with_reducible first | exact HB.out | apply below_alloc | apply pw_below_drewN | apply below_drew1) | exact HB.out)) hb); clear HO103; clear HO106; clear HO110; clear HO114; clear HO118; clear HO121; clear HB; have HO103 := n0_; have HO106 := n1_; have HO110 := n2_; have HO114 := n3_; have HO118 := n4_; have HO121 := n5_; have HB := n6_; clear n0_ n1_ n2_ n3_ n4_ n5_ n6_; (try clear hb); (try clear hb2); (try clear hk); (try clear hi)))
    go_ret
    exact ⟨by first | rfl | (simp [errW_none, errW_some] <;> rfl) | (simp [*, errW_none, errW_some] <;> rfl), by repeat (first | (with_reducible first | exact HB.out | apply below_alloc | apply pw_below_drewN | apply below_drew1) | exact HB.out)⟩
  ·replace c5 := Bool.eq_false_iff.mpr c5
   subst c5
   have H1 : (some false) = some r := by rw [if_neg (show ¬ (false = true) by decide)] at H; exact H
   clear H
   have H := H1
   clear H1
   obtain rfl := Option.some.inj H
   go_enter Try.func10, Try.ntmps10
   go_wp2_with (first | ((with_reducible refine gate_callee (f := 33) rfl ?_); refine goesL_ (some 4) rfl rfl Try.func33 (by kernel_rfl) rfl #[] rfl (by (try simp only [List.map_toArray, List.map_cons, List.map_nil]); first | done | rfl | (simp only [List.length_drop, List.length_take]; rfl)) ?_; (with_reducible refine (petrinetlaw16_step.calls  t101 t104 t107 _ A1.out).mono ?_); rintro e w35 ⟨v102, v105, rfl, ho0, ho1, hb⟩; refine ⟨_, rfl, ?_⟩; have n0_ := Aside0.mk (Kd.N_lower (Kd.N_mono (ok' := fun k_ => some k_ ≠ (v105 : Value).ownBlock) ho0 (fun k_ hk_ => hk_.2)) (below_size (by repeat (first | (with_reducible first | exact HB.out | apply below_alloc | apply pw_below_drewN | apply below_drew1) | exact HB.out)))); have n1_ := Aside0.mk (Kd.R_lower (Kd.R_mono (ok' := fun k_ => True) ho1 (fun _ hk_ => trivial)) (below_size (by repeat (first | (with_reducible first | exact HB.out | apply below_alloc | apply pw_below_drewN | apply below_drew1) | exact HB.out)))); have n2_ := Aside0.mk (below_step (by repeat (first | (with_reducible first | exact HB.out | apply below_alloc | apply pw_below_drewN | apply below_drew1) | exact HB.out)) hb); clear HB; have HO103 := n0_; have HO106 := n1_; have HB := n2_; clear n0_ n1_ n2_; (try clear hb); (try clear hb2); (try clear hk); (try clear hi); (try clear ho0); (try clear ho1); obtain ⟨Ao36, co36, eo36⟩ := Kd.N_slice HO103.out; subst eo36; obtain ⟨Ao37, co37, eo37⟩ := Kd.R_slice HO106.out; subst eo37) | ((with_reducible refine gate_callee (f := 11) rfl ?_); refine goesL_ (some 5) rfl rfl Try.func11 (by kernel_rfl) rfl #[.agg #[.slice Ao36 t101.length co36, .slice Ao37 t104.length co37, .bool t107]] rfl (by (try simp only [List.map_toArray, List.map_cons, List.map_nil]); first | done | rfl | (simp only [List.length_drop, List.length_take]; rfl)) ?_; (with_reducible refine (witness_Dead.calls k _ _ t101 _ _ t104 t107 t108 true _ ?side1 ?side2 ?side3 ?side4 A2.out).mono ?_); (case side1 => repeat (first | exact (Kd.N_reads' HO103.out).2.2 | (with_reducible refine Kd.C_alloc ?_ _) | (with_reducible refine Kd.C_drewN ?_ _) | (with_reducible refine Kd.C_drew ?_))); (case side2 => exact (Kd.N_reads' HO103.out).2.1); (case side3 => repeat (first | exact (Kd.R_reads' HO106.out).2.2 | (with_reducible refine Kd.C_alloc ?_ _) | (with_reducible refine Kd.C_drewN ?_ _) | (with_reducible refine Kd.C_drew ?_))); (case side4 => exact (Kd.R_reads' HO106.out).2.1); rintro e w38 ⟨v109, rfl, ho0, hb⟩; refine ⟨_, rfl, ?_⟩; have n0_ := Aside0.mk (Kd.N_elder' (by (with_reducible repeat (first | apply Kd.N_alloc | apply Kd.N_drewN | apply Kd.N_drew)); exact HO103.out) (Kd.R_base ho0) hb); have n1_ := Aside0.mk (Kd.R_below (by (with_reducible repeat (first | apply Kd.R_alloc | apply Kd.R_drewN | apply Kd.R_drew)); exact HO106.out) hb); have n2_ := Aside0.mk (Kd.R_lower ho0 (below_size (by repeat (first | (with_reducible first | exact HB.out | apply below_alloc | apply pw_below_drewN | apply below_drew1) | exact HB.out)))); have n3_ := Aside0.mk (below_step (by repeat (first | (with_reducible first | exact HB.out | apply below_alloc | apply pw_below_drewN | apply below_drew1) | exact HB.out)) hb); clear HO103; clear HO106; clear HB; have HO103 := n0_; have HO106 := n1_; have HO110 := n2_; have HB := n3_; clear n0_ n1_ n2_ n3_; (try clear hb); (try clear hb2); (try clear hk); (try clear hi); (try clear ho0)) | ((with_reducible refine gate_dst (N := 11) rfl ?_); (try (refine gate_guard (by rfl) ?_; dsimp only)); refine Kd.R_lit (Kd.int .i64) _ 3 ?hg (N := 11) ?hd (xs := ([0] : List Int)) (inner := [.int .i64 0]) (ok := fun _ => True) (okp := fun _ => True) ?hr ?hp (fun _ hk => hk) trivial (Below.refl _ _) (Nat.le_refl _) (by simp) ?_; (case hd => rfl); (case hg => rfl); (case hr => first | (go_simp; done) | (go_simp; rfl)); (case hp => exact (Reps.one (show Kd.M (Kd.int .i64) _ _ _ 0 [.int .i64 0] from rfl) (Reps.none _ _))); intro v113 w39 ho40 hb hg_ hnew_; clear hg_ hnew_; (first | rw [← Ny112.out] at ho40 | (simp only [Int.reduceToNat] at ho40; rw [← Ny112.out] at ho40)); have n0_ := Aside0.mk (Kd.N_elder' (by (with_reducible repeat (first | apply Kd.N_alloc | apply Kd.N_drewN | apply Kd.N_drew)); exact HO103.out) (Kd.R_base ho40) hb); have n1_ := Aside0.mk (Kd.R_below (by (with_reducible repeat (first | apply Kd.R_alloc | apply Kd.R_drewN | apply Kd.R_drew)); exact HO106.out) hb); have n2_ := Aside0.mk (Kd.R_elder' (by (with_reducible repeat (first | apply Kd.R_alloc | apply Kd.R_drewN | apply Kd.R_drew)); exact HO110.out) (Kd.R_base ho40) hb); have n3_ := Aside0.mk (Kd.R_lower (Kd.R_new' ho40 (Kd.R_lt (by (with_reducible repeat (first | apply Kd.R_alloc | apply Kd.R_drewN | apply Kd.R_drew)); exact HO110.out))) (below_size (by repeat (first | (with_reducible first | exact HB.out | apply below_alloc | apply pw_below_drewN | apply below_drew1) | exact HB.out)))); have n4_ := Aside0.mk (below_step (by repeat (first | (with_reducible first | exact HB.out | apply below_alloc | apply pw_below_drewN | apply below_drew1) | exact HB.out)) hb); clear HO103; clear HO106; clear HO110; clear HB; have HO103 := n0_; have HO106 := n1_; have HO110 := n2_; have HO114 := n3_; have HB := n4_; clear n0_ n1_ n2_ n3_ n4_; clear hb ho40; obtain ⟨Ao41, co41, eo41⟩ := Kd.R_slice HO110.out; subst eo41; obtain ⟨Ao42, co42, eo42⟩ := Kd.R_slice HO114.out; subst eo42) | (go_at_call 13; (with_reducible refine (petrinetref04_Same.calls k _ _ t108 _ _ y112 false _ ?side1 ?side2 ?side3 ?side4 A4.out).mono ?_); (case side1 => repeat (first | exact (Kd.R_reads' HO110.out).2.2 | (with_reducible refine Kd.C_alloc ?_ _) | (with_reducible refine Kd.C_drewN ?_ _) | (with_reducible refine Kd.C_drew ?_))); (case side2 => exact (Kd.R_reads' HO110.out).2.1); (case side3 => repeat (first | exact (Kd.R_reads' HO114.out).2.2 | (with_reducible refine Kd.C_alloc ?_ _) | (with_reducible refine Kd.C_drewN ?_ _) | (with_reducible refine Kd.C_drew ?_))); (case side4 => exact (Kd.R_reads' HO114.out).2.1); rintro e w' ⟨rfl, ⟨nd, rfl⟩⟩))
   go_ret
   exact ⟨by first | rfl | (simp [errW_none, errW_some] <;> rfl) | (simp [*, errW_none, errW_some] <;> rfl), by repeat (first | (with_reducible first | exact HB.out | apply below_alloc | apply pw_below_drewN | apply below_drew1) | exact HB.out)⟩
 ·replace c3 := Bool.eq_false_iff.mpr c3
  subst c3
  have H1 : (some false) = some r := by rw [if_neg (show ¬ (false = true) by decide)] at H; exact H
  clear H
  have H := H1
  clear H1
  obtain rfl := Option.some.inj H
  go_enter Try.func10, Try.ntmps10
  go_wp2_with (first | ((with_reducible refine gate_callee (f := 33) rfl ?_); refine goesL_ (some 4) rfl rfl Try.func33 (by kernel_rfl) rfl #[] rfl (by (try simp only [List.map_toArray, List.map_cons, List.map_nil]); first | done | rfl | (simp only [List.length_drop, List.length_take]; rfl)) ?_; (with_reducible refine (petrinetlaw16_step.calls  t101 t104 t107 _ A1.out).mono ?_); rintro e w43 ⟨v102, v105, rfl, ho0, ho1, hb⟩; refine ⟨_, rfl, ?_⟩; have n0_ := Aside0.mk (Kd.N_lower (Kd.N_mono (ok' := fun k_ => some k_ ≠ (v105 : Value).ownBlock) ho0 (fun k_ hk_ => hk_.2)) (below_size (by repeat (first | (with_reducible first | exact HB.out | apply below_alloc | apply pw_below_drewN | apply below_drew1) | exact HB.out)))); have n1_ := Aside0.mk (Kd.R_lower (Kd.R_mono (ok' := fun k_ => True) ho1 (fun _ hk_ => trivial)) (below_size (by repeat (first | (with_reducible first | exact HB.out | apply below_alloc | apply pw_below_drewN | apply below_drew1) | exact HB.out)))); have n2_ := Aside0.mk (below_step (by repeat (first | (with_reducible first | exact HB.out | apply below_alloc | apply pw_below_drewN | apply below_drew1) | exact HB.out)) hb); clear HB; have HO103 := n0_; have HO106 := n1_; have HB := n2_; clear n0_ n1_ n2_; (try clear hb); (try clear hb2); (try clear hk); (try clear hi); (try clear ho0); (try clear ho1); obtain ⟨Ao44, co44, eo44⟩ := Kd.N_slice HO103.out; subst eo44; obtain ⟨Ao45, co45, eo45⟩ := Kd.R_slice HO106.out; subst eo45) | ((with_reducible refine gate_callee (f := 11) rfl ?_); refine goesL_ (some 5) rfl rfl Try.func11 (by kernel_rfl) rfl #[.agg #[.slice Ao44 t101.length co44, .slice Ao45 t104.length co45, .bool t107]] rfl (by (try simp only [List.map_toArray, List.map_cons, List.map_nil]); first | done | rfl | (simp only [List.length_drop, List.length_take]; rfl)) ?_; (with_reducible refine (witness_Dead.calls k _ _ t101 _ _ t104 t107 t108 false _ ?side1 ?side2 ?side3 ?side4 A2.out).mono ?_); (case side1 => repeat (first | exact (Kd.N_reads' HO103.out).2.2 | (with_reducible refine Kd.C_alloc ?_ _) | (with_reducible refine Kd.C_drewN ?_ _) | (with_reducible refine Kd.C_drew ?_))); (case side2 => exact (Kd.N_reads' HO103.out).2.1); (case side3 => repeat (first | exact (Kd.R_reads' HO106.out).2.2 | (with_reducible refine Kd.C_alloc ?_ _) | (with_reducible refine Kd.C_drewN ?_ _) | (with_reducible refine Kd.C_drew ?_))); (case side4 => exact (Kd.R_reads' HO106.out).2.1); rintro e w46 ⟨v109, rfl, ho0, hb⟩; refine ⟨_, rfl, ?_⟩; have n0_ := Aside0.mk (Kd.N_elder' (by (with_reducible repeat (first | apply Kd.N_alloc | apply Kd.N_drewN | apply Kd.N_drew)); exact HO103.out) (Kd.R_base ho0) hb); have n1_ := Aside0.mk (Kd.R_below (by (with_reducible repeat (first | apply Kd.R_alloc | apply Kd.R_drewN | apply Kd.R_drew)); exact HO106.out) hb); have n2_ := Aside0.mk (Kd.R_lower ho0 (below_size (by repeat (first | (with_reducible first | exact HB.out | apply below_alloc | apply pw_below_drewN | apply below_drew1) | exact HB.out)))); have n3_ := Aside0.mk (below_step (by repeat (first | (with_reducible first | exact HB.out | apply below_alloc | apply pw_below_drewN | apply below_drew1) | exact HB.out)) hb); clear HO103; clear HO106; clear HB; have HO103 := n0_; have HO106 := n1_; have HO110 := n2_; have HB := n3_; clear n0_ n1_ n2_ n3_; (try clear hb); (try clear hb2); (try clear hk); (try clear hi); (try clear ho0)))
  go_ret
  exact ⟨by first | rfl | (simp [errW_none, errW_some] <;> rfl) | (simp [*, errW_none, errW_some] <;> rfl), by repeat (first | (with_reducible first | exact HB.out | apply below_alloc | apply pw_below_drewN | apply below_drew1) | exact HB.out)⟩
end Go.Proofs.Ytfnjbgggmddgpaa.Q
end
section
set_option linter.unusedVariables false
set_option linter.unusedSimpArgs false
namespace Go.Proofs.Ytfnjbgggmddgpaa.Q
open Go.RowKit Go.Proofs.Fn Go.Proofs.YtfnjbgggmddgpaaW.PrintWords Go.Proofs.Gr
theorem mem_row {n : Nat} {es : List S80} {s : Int} {e : S80} (h : e ∈ row n es s) : e ∈ es ∧ cnt n s e = true := by
  have key : ∀ (l a : List S80), e ∈ l.foldl (fun l e => insE e l) a → e ∈ a ∨ e ∈ l := by
    intro l
    induction l with
    | nil => intro a h; exact .inl h
    | cons x l ih =>
      intro a h
      rcases ih _ h with h | h
      · rcases mem_insE h with rfl | h
        · exact .inr List.mem_cons_self
        · exact .inl h
      · exact .inr (List.mem_cons_of_mem _ h)
  rcases key _ _ h with h | h
  · cases h
  · exact List.mem_filter.1 h
theorem row_len (n : Nat) (es : List S80) (s : Int) : (row n es s).length ≤ es.length := by
  have key : ∀ (l a : List S80), (l.foldl (fun l e => insE e l) a).length ≤ a.length + l.length := by
    intro l
    induction l with
    | nil => intro a; simp
    | cons x l ih =>
      intro a
      have h1 := ih (insE x a)
      have h2 := insE_len x a
      simp only [List.foldl_cons, List.length_cons]; omega
  have h1 := key (es.filter (cnt n s)) []
  have h2 := List.length_filter_le (cnt n s) es
  have h3 : (row n es s).length ≤ ([] : List S80).length + (es.filter (cnt n s)).length := h1
  simp only [List.length_nil] at h3
  omega
theorem tab_get {n : Nat} {es : List S80} {i : Nat} (h : i < n) : (tab n es).getD i [] = row n es (i : Int) := by simp [tab, h]
theorem tab_ok {n : Nat} {es : List S80} (hn : n ≤ 1000000) (he : es.length ≤ 1000000) : OkT n (tab n es) := by
  refine ⟨by simp [tab], hn, fun i hi => ?_, fun i hi e h => ?_⟩
  · rw [tab_get hi]; exact Nat.le_trans (row_len _ _ _) he
  · rw [tab_get hi] at h
    have := (mem_row h).2
    simp only [cnt, Bool.and_eq_true, decide_eq_true_eq] at this
    omega
theorem Found.none {n : Nat} {T : List (List S80)} {g : Nat → Bool} {a : Int} {l : List Int} {ok : Bool} (h : Found n T g a l ok) (hg : ∀ i, i < n → g i = false) : l = [] ∧ ok = false := by
  cases ok with
  | false => exact ⟨h.no rfl, rfl⟩
  | true =>
    obtain ⟨s, t, _, _, ht, _, h2⟩ := h.way rfl
    rw [hg t ht] at h2; cases h2
theorem between_both (st : List (List Int)) (es : List S80) (b : Bool) (hn : st.length ≤ 1000000) (he : es.length ≤ 1000000) (a c : Int) :
    ∃ l ok, Found st.length (tab st.length es) (fun i => (i : Int) == c) a l ok ∧ Evn (fun k => witness_Between.f k st es b a c) (l, ok) ∧ Evn (fun k => petrinetref16_Between.f k st es b a c) (l, ok) := by
  have hT := tab_ok (n := st.length) hn he
  obtain ⟨l, ok, hF, h1, h2⟩ := search_both hT (fun s => some (s == c)) (fun i => (i : Int) == c) (fun i hi => rfl) a
  refine ⟨l, ok, hF, Evn.bind (steps_ev st es b hn he) h1, ?_⟩
  have out : (a < 0 ∨ a ≥ (st.length : Int) ∨ c < 0 ∨ c ≥ (st.length : Int)) → l = [] ∧ ok = false := by
    intro h
    by_cases ha : 0 ≤ a ∧ a < (st.length : Int)
    · refine hF.none (fun i hi => ?_)
      simp; omega
    · exact hF.out ha
  have j0 : ∀ f : Bool, f = decide (a < 0 ∨ a ≥ (st.length : Int) ∨ c < 0 ∨ c ≥ (st.length : Int)) → Evn (fun k => petrinetref16_Between.j0 k a c f st es b) (l, ok) := by
    intro f hf
    subst hf
    refine Evn.succ ?_
    simp only [petrinetref16_Between.j0]
    by_cases h : a < 0 ∨ a ≥ (st.length : Int) ∨ c < 0 ∨ c ≥ (st.length : Int)
    · refine Evn.pos (by simpa using h) ?_
      obtain ⟨rfl, rfl⟩ := out h
      exact Evn.const _
    · refine Evn.neg (by simpa using h) ?_
      refine Evn.bind (table_ev st es b hn he) ?_
      obtain ⟨c', rfl⟩ : ∃ c' : Nat, c = (c' : Int) := ⟨c.toNat, by omega⟩
      have hs : petrinetref16_single.f st es b (c' : Int) = some ((List.range st.length).map (fun (i : Nat) => (i : Int) == (c' : Int))) := by
        unfold petrinetref16_single.f
        rw [if_pos (by omega), if_pos (by simp only [Int.toNat_natCast]; omega), Option.bind_some, if_pos (by omega), if_pos (by simp; omega)]
        congr 1
        apply List.ext_getElem (by simp)
        intro i h1 h2
        rw [List.getElem_set]
        simp only [Int.toNat_natCast, List.getElem_replicate, List.getElem_map, List.getElem_range]
        split
        · symm; simp; omega
        · symm; simp; omega
      rw [hs]
      refine Evn.bind (Evn.const _) ?_
      refine Evn.bind h2 ?_
      exact Evn.const _
  unfold petrinetref16_Between.f
  by_cases c1 : a < 0
  · refine Evn.pos c1 (j0 _ ?_)
    symm; simp; omega
  · refine Evn.neg c1 ?_
    by_cases c2 : a ≥ (st.length : Int)
    · refine Evn.pos c2 (j0 _ ?_)
      symm; simp; omega
    · refine Evn.neg c2 ?_
      by_cases c3 : c < 0
      · refine Evn.pos c3 (j0 _ ?_)
        symm; simp; omega
      · refine Evn.neg c3 (j0 _ ?_)
        rw [Bool.eq_iff_iff]; simp only [decide_eq_true_eq]; omega
theorem dead_both (st : List (List Int)) (es : List S80) (b : Bool) (hn : st.length ≤ 1000000) (he : es.length ≤ 1000000) :
    ∃ l ok, Found st.length (tab st.length es) (fun i => ((((tab st.length es).getD i []).length : Int) == 0)) 0 l ok ∧ Evn (fun k => witness_Dead.f k st es b) (l, ok) ∧ Evn (fun k => petrinetref16_Dead.f k st es b) (l, ok) := by
  have hT := tab_ok (n := st.length) hn he
  have hln := hT.len
  generalize hTT : tab st.length es = T at hT hln
  obtain ⟨l, ok, hF, h1, h2⟩ := search_both hT (dead1 (T.map (List.map pr))) (fun i => (((T.getD i []).length : Int) == 0)) (fun i hi => by
    unfold dead1
    rw [if_pos (by omega), if_pos (by rw [List.length_map, hln]; omega), rdmap, List.length_map]) 0
  refine ⟨l, ok, hF, ?_, ?_⟩
  · have := steps_ev st es b hn he
    rw [hTT] at this
    exact Evn.bind this h1
  · have := table_ev st es b hn he
    rw [hTT] at this
    refine Evn.bind this ?_
    have key : ∀ (m i : Nat), i + m = st.length → Evn (fun k => petrinetref16_Dead.l0 k T ((List.range i).map (fun i => (((T.getD i []).length : Int) == 0))) (i : Int)) (l, ok) := by
      intro m
      induction m with
      | zero =>
        intro i hi
        obtain rfl : i = st.length := by omega
        refine Evn.succ ?_
        simp only [petrinetref16_Dead.l0, hln]
        (first | refine Evn.pos (by first | assumption | omega | (simp; done) | (simp; omega)) ?_ | refine Evn.neg (by first | assumption | omega | (simp; done) | (simp; omega)) ?_)
        refine Evn.bind h2 ?_
        exact Evn.const _
      | succ m ih =>
        intro i hi
        have := ih (i + 1) (by omega)
        rw [List.range_succ, List.map_append, List.map_singleton] at this
        refine Evn.succ ?_
        simp only [petrinetref16_Dead.l0, hln, rdL80, wrap_succ (show i < 9223372036854775807 by omega)]
        (first | refine Evn.pos (by first | assumption | omega | (simp; done) | (simp; omega)) ?_ | refine Evn.neg (by first | assumption | omega | (simp; done) | (simp; omega)) ?_); (first | refine Evn.pos (by first | assumption | omega | (simp; done) | (simp; omega)) ?_ | refine Evn.neg (by first | assumption | omega | (simp; done) | (simp; omega)) ?_)
        refine Evn.pos (by simp; omega) ?_
        exact this
    exact key st.length 0 (by omega)
theorem same_ev (l : List Int) (hl : l.length ≤ 4000000) : Evn (fun k => petrinetref04_Same.f k l l) true := by
  unfold petrinetref04_Same.f
  refine Evn.pos rfl ?_
  have key : ∀ (m i : Nat), i + m = l.length → Evn (fun k => petrinetref04_Same.l0 k l l (i : Int)) true := by
    intro m
    induction m with
    | zero =>
      intro i hi
      refine Evn.succ ?_
      simp only [petrinetref04_Same.l0]
      (first | refine Evn.pos (by first | assumption | omega | (simp; done) | (simp; omega)) ?_ | refine Evn.neg (by first | assumption | omega | (simp; done) | (simp; omega)) ?_)
      exact Evn.const _
    | succ m ih =>
      intro i hi
      refine Evn.succ ?_
      simp only [petrinetref04_Same.l0, wrap_succ (show i < 9223372036854775807 by omega)]
      iterate 3 (first | refine Evn.pos (by first | assumption | omega | (simp; done) | (simp; omega)) ?_ | refine Evn.neg (by first | assumption | omega | (simp; done) | (simp; omega)) ?_)
      refine Evn.pos (by simp) ?_
      exact ih (i + 1) (by omega)
  exact key l.length 0 (by omega)
theorem alive_ev : Evn (fun k => petrinetlaw16_alive.f k) true :=
  Evn.of_mono 20 (fun k r h => petrinetlaw16_alive.mono k r h) (by decide +kernel)
end Go.Proofs.Ytfnjbgggmddgpaa.Q
end
section
set_option linter.unusedVariables false
set_option linter.unusedSimpArgs false
namespace Go.Proofs.Ytfnjbgggmddgpaa.Q
open Go.RowKit Go.Proofs.Fn Go.Proofs.YtfnjbgggmddgpaaW.PrintWords Go.Proofs.Gr
def FD (xs : List Int) : Nat → Int := fun x => if x ≠ 0 ∧ D xs x = 0 then -1 else D xs x
def R (T : List (List S80)) (a b : Nat) : Prop := E T b a
structure Mo (n : Nat) (out : Nat → Int) (q : List Nat) (most : Int) : Prop where
  up : ∀ i, i < n → i ∉ q → out i ≤ most
  nn : 0 ≤ most
  some : ∃ i, i < n ∧ out i = most
theorem diam_l1 {n : Nat} {T : List (List S80)} (hT : OkT n T) (P : Int → Prop) (N s : Nat) (hs : s < n) (most : Int)
    (next : ∀ (q : List Nat) (d : List Int), d.length = n → Bfs n (R T) (fun i => i = 0) (FD d) q s [] (FD d s) → 0 ≤ FD d s → (∀ i, i < n → FD d i + neg n (FD d) ≤ n) → (∀ i, i < n → 0 ≤ D d i) → Mo n (FD d) q most → q.length + neg n (FD d) = N → ∃ r, P r ∧ Evn (fun k => witness_Diameter.l0 k (T.map (List.map pr)) d (QI q) most) r) :
    ∀ (m p : Nat) (q : List Nat) (d : List Int), p + m = (T.getD s []).length → d.length = n → Bfs n (R T) (fun i => i = 0) (FD d) q s (((T.getD s []).drop p).map (fun e => e.f2.toNat)) (FD d s) → 0 ≤ FD d s → (∀ i, i < n → FD d i + neg n (FD d) ≤ n) → (∀ i, i < n → 0 ≤ D d i) → Mo n (FD d) q most → q.length + neg n (FD d) = N → N ≤ 2000000 →
    ∃ r, P r ∧ Evn (fun k => witness_Diameter.l1 k (T.map (List.map pr)) d (QI q) most (s : Int) ((T.getD s []).map pr) ((T.getD s []).length : Int) (p : Int)) r := by
  have hsm := hT.small
  have hrow := hT.rows s hs
  intro m
  induction m with
  | zero =>
    intro p q d hp hd hb h0 hm hpos hM hN hN2
    rw [List.drop_of_length_le (by omega)] at hb
    obtain ⟨r, hP, hr⟩ := next q d hd hb h0 hm hpos hM hN
    refine ⟨r, hP, Evn.succ ?_⟩
    simp only [witness_Diameter.l1]
    (first | refine Evn.pos (by first | assumption | omega | (simp; done) | (simp; omega)) ?_ | refine Evn.neg (by first | assumption | omega | (simp; done) | (simp; omega)) ?_)
    exact hr
  | succ m ih =>
    intro p q d hp hd hb h0 hm hpos hM hN hN2
    have hpl : p < (T.getD s []).length := by omega
    have he : rd_T80 (T.getD s []) (p : Int) ∈ T.getD s [] := by rw [rd80 hpl]; exact List.getElem_mem _
    have htg := hT.tgt s hs _ he
    obtain ⟨t, ht⟩ : ∃ t : Nat, (rd_T80 (T.getD s []) (p : Int)).f2 = (t : Int) := ⟨_, (Int.toNat_of_nonneg htg.1).symm⟩
    have htn : t < n := by omega
    have ht2 : (rd_T66 ((T.getD s []).map pr) (p : Int)).f1 = (t : Int) := by rw [rd66map]; exact ht
    rw [drop80 hpl, List.map_cons, ht, Int.toNat_natCast] at hb
    have hFt : FD d t = if t ≠ 0 ∧ D d t = 0 then -1 else D d t := rfl
    have hFs : FD d s = if s ≠ 0 ∧ D d s = 0 then -1 else D d s := rfl
    by_cases c0 : t = 0
    · have hb2 := hb.old htn (by rw [hFt, if_neg (by omega)]; exact hpos t htn)
      obtain ⟨r, hP, hr⟩ := ih (p + 1) q d (by omega) hd hb2 h0 hm hpos hM hN hN2
      refine ⟨r, hP, Evn.succ ?_⟩
      simp only [witness_Diameter.l1, ht2, List.length_map, wrap_succ (show p < 9223372036854775807 by omega)]
      iterate 4 (first | refine Evn.pos (by first | assumption | omega | (simp; done) | (simp; omega)) ?_ | refine Evn.neg (by first | assumption | omega | (simp; done) | (simp; omega)) ?_)
      exact hr
    · by_cases c : D d t = 0
      · have hft : FD d t = -1 := by rw [hFt, if_pos ⟨c0, c⟩]
        have hfs : FD d s = D d s := by
          rw [hFs]; rw [hFs] at h0; split at h0
          · omega
          · rw [if_neg (by assumption)]
        have hmi := hm s hs
        have hnu : neg n (upd (FD d) t (FD d s + 1)) + 1 = neg n (FD d) := neg_upd htn (by omega) (by omega)
        have hset : ∀ x, x < n → upd (FD d) t (FD d s + 1) x = FD (d.set t (D d s + 1)) x := by
          intro x hx
          have e1 : FD (d.set t (D d s + 1)) x = if x ≠ 0 ∧ upd (D d) t (D d s + 1) x = 0 then -1 else upd (D d) t (D d s + 1) x := by
            have := D_set (xs := d) (r := t) (v := D d s + 1) (by omega) x (by omega)
            unfold FD; rw [this]
          rw [e1]
          by_cases ex : x = t
          · subst ex
            simp only [upd, if_true]
            rw [if_neg (by omega), hfs]
          · simp only [upd, if_neg ex]; rfl
        have hneg : neg n (FD (d.set t (D d s + 1))) = neg n (upd (FD d) t (FD d s + 1)) := (neg_congr hset).symm
        have hb2 := (hb.new hs h0 (show R T t s from ⟨_, he, ht⟩) htn (by omega)).congr hset
        rw [hset s hs] at hb2
        have hut : ∀ x, upd (FD d) t (FD d s + 1) x = if x = t then FD d s + 1 else FD d x := fun x => rfl
        obtain ⟨r, hP, hr⟩ := ih (p + 1) (q ++ [t]) (d.set t (D d s + 1)) (by omega) (by simpa using hd) hb2 (by
          rw [← hset s hs, hut]; split <;> omega) (fun x hx => by
          rw [hneg, ← hset x hx, hut]
          have := hm x hx
          split <;> omega) (fun x hx => by
          rw [D_set (by omega) x (by omega)]
          have := hpos x hx
          show 0 ≤ if x = t then _ else _
          split <;> omega) ⟨fun x hx hq => by
            rw [← hset x hx, hut, if_neg (fun e => hq (by simp [e]))]
            exact hM.up x hx (fun h => hq (by simp [h])), hM.nn, by
            have hnn := hM.nn
            obtain ⟨i, hi, h⟩ := hM.some
            exact ⟨i, hi, by rw [← hset i hi, hut, if_neg (fun e => by subst e; omega)]; exact h⟩⟩ (by rw [hneg]; simp; omega) hN2
        refine ⟨r, hP, Evn.succ ?_⟩
        have hw : wrap64 (D d s + 1) = D d s + 1 := by unfold wrap64; omega
        simp only [witness_Diameter.l1, ht2, List.length_map, rdD, hd, hw, Int.toNat_natCast, wrap_succ (show p < 9223372036854775807 by omega)]
        iterate 10 (first | refine Evn.pos (by first | assumption | omega | (simp; done) | (simp; omega)) ?_ | refine Evn.neg (by first | assumption | omega | (simp; done) | (simp; omega)) ?_)
        simpa [QI] using hr
      · have hb2 := hb.old htn (by rw [hFt, if_neg (by omega)]; exact hpos t htn)
        obtain ⟨r, hP, hr⟩ := ih (p + 1) q d (by omega) hd hb2 h0 hm hpos hM hN hN2
        refine ⟨r, hP, Evn.succ ?_⟩
        simp only [witness_Diameter.l1, ht2, List.length_map, rdD, hd, wrap_succ (show p < 9223372036854775807 by omega)]
        iterate 7 (first | refine Evn.pos (by first | assumption | omega | (simp; done) | (simp; omega)) ?_ | refine Evn.neg (by first | assumption | omega | (simp; done) | (simp; omega)) ?_)
        exact hr
theorem diam_l0 {n : Nat} {T : List (List S80)} (hT : OkT n T) :
    ∀ (N : Nat) (q : List Nat) (d : List Int) (s0 : Nat) (v most : Int), d.length = n → Bfs n (R T) (fun i => i = 0) (FD d) q s0 [] v → (∀ i, i < n → FD d i + neg n (FD d) ≤ n) → (∀ i, i < n → 0 ≤ D d i) → Mo n (FD d) q most → q.length + neg n (FD d) = N → N ≤ 2000000 →
    ∃ r, (∃ out, Lab n (R T) (fun i => i = 0) out ∧ Mo n out [] r) ∧ Evn (fun k => witness_Diameter.l0 k (T.map (List.map pr)) d (QI q) most) r := by
  have hsm := hT.small
  have hln := hT.len
  intro N
  induction N with
  | zero =>
    intro q d s0 v most hd hb hm hpos hM hN hN2
    obtain rfl : q = [] := List.length_eq_zero_iff.1 (by omega)
    refine ⟨most, ⟨FD d, hb.lab, hM⟩, Evn.succ ?_⟩
    simp only [witness_Diameter.l0, QI, List.map_nil]
    (first | refine Evn.pos (by first | assumption | omega | (simp; done) | (simp; omega)) ?_ | refine Evn.neg (by first | assumption | omega | (simp; done) | (simp; omega)) ?_)
    exact Evn.const _
  | succ N ih =>
    intro q d s0 v most hd hb hm hpos hM hN hN2
    cases q with
    | nil =>
      refine ⟨most, ⟨FD d, hb.lab, hM⟩, Evn.succ ?_⟩
      simp only [witness_Diameter.l0, QI, List.map_nil]
      (first | refine Evn.pos (by first | assumption | omega | (simp; done) | (simp; omega)) ?_ | refine Evn.neg (by first | assumption | omega | (simp; done) | (simp; omega)) ?_)
      exact Evn.const _
    | cons s q =>
      have hs := hb.qlt s List.mem_cons_self
      have hb2 := hb.pop (((T.getD s []).drop 0).map (fun e => e.f2.toNat)) (fun i hi hE => by
        obtain ⟨e, he, ht⟩ := hE
        exact List.mem_map.2 ⟨e, by simpa using he, by rw [ht]; simp⟩)
      have hFs : FD d s = D d s := by
        have h := hs.2.1
        have hFs : FD d s = if s ≠ 0 ∧ D d s = 0 then -1 else D d s := rfl
        rw [hFs] at h ⊢
        split at h
        · omega
        · rw [if_neg (by assumption)]
      have hM2 : Mo n (FD d) q (mx most (D d s)) := by
        have e : mx most (D d s) = if most < D d s then D d s else most := rfl
        have h1 := hM.nn
        refine ⟨fun i hi hq => ?_, by rw [e]; split <;> omega, ?_⟩
        · by_cases ei : i = s
          · subst ei; rw [hFs, e]; split <;> omega
          · have := hM.up i hi (by simp [ei, hq]); rw [e]; split <;> omega
        · rw [e]; split
          · exact ⟨s, hs.1, hFs⟩
          · exact hM.some
      obtain ⟨r, hP, hr⟩ := diam_l1 hT _ N s hs.1 (mx most (D d s)) (fun q d hd hb h0 hm hpos hM hN => ih q d s _ _ hd hb hm hpos hM hN (by omega)) _ 0 q d (by rw [Nat.zero_add]) hd hb2 hs.2.1 hm hpos hM2 (by simp at hN; omega) (by omega)
      refine ⟨r, hP, Evn.succ ?_⟩
      have e1 : rd (QI (s :: q)) 0 = (s : Int) := by simp [rd, QI]
      have e2 : (QI (s :: q)).drop (1 : Int).toNat = QI q := by simp [QI]
      have e4 : (QI (s :: q)).length = q.length + 1 := by simp [QI]
      simp only [witness_Diameter.l0, e1, e2, e4, rdD, hd, List.length_map, hln, rdmap]
      iterate 6 (first | refine Evn.pos (by first | assumption | omega | (simp; done) | (simp; omega)) ?_ | refine Evn.neg (by first | assumption | omega | (simp; done) | (simp; omega)) ?_)
      exact hr
theorem diameter_both (st : List (List Int)) (es : List S80) (b : Bool) (hn : st.length ≤ 1000000) (he : es.length ≤ 1000000) :
    ∃ r, (∀ i, i < st.length → ∀ d, Lab st.length (E (tab st.length es)) (fun j => ((j : Int) == (i : Int)) = true) d → d 0 ≤ r) ∧ (st.length = 0 → r = -1) ∧ (0 < st.length → ∃ i, i < st.length ∧ ∀ d, Lab st.length (E (tab st.length es)) (fun j => ((j : Int) == (i : Int)) = true) d → d 0 = r) ∧
      Evn (fun k => witness_Diameter.f k st es b) r ∧ Evn (fun k => petrinetref16_Diameter.f k st es b) r := by
  have hT := tab_ok (n := st.length) hn he
  have hln := hT.len
  have hst := steps_ev st es b hn he
  rcases Nat.eq_zero_or_pos st.length with h0 | h0
  · refine ⟨-1, fun i hi => by omega, fun _ => rfl, fun h => by omega, ?_, ?_⟩
    · refine Evn.bind hst ?_
      refine Evn.pos (by rw [List.length_map, hln]; omega) ?_
      exact Evn.const _
    · unfold petrinetref16_Diameter.f
      (first | refine Evn.pos (by first | assumption | omega | (simp; done) | (simp; omega)) ?_ | refine Evn.neg (by first | assumption | omega | (simp; done) | (simp; omega)) ?_)
      exact Evn.const _
  · have hz : ∀ i, D (List.replicate st.length 0) i = 0 := by
      intro i
      simp only [D, List.getD_eq_getElem?_getD, List.getElem?_replicate]
      split <;> rfl
    have hF : ∀ i, FD (List.replicate st.length 0) i = if i = 0 then 0 else -1 := by
      intro i
      unfold FD; rw [hz]
      by_cases c : i = 0 <;> simp [c]
    obtain ⟨r, ⟨out, hL, hM⟩, hev⟩ := diam_l0 hT _ [0] (List.replicate st.length 0) 0 0 0 (by simp) ⟨fun i hi => by rw [hF]; split <;> omega, fun i hi => by rw [hF]; split <;> simp_all, fun i hi h => by rw [hF] at h; split at h <;> omega, fun i j hi hj hE h hq => by
        rw [hF] at h
        split at h
        · exact absurd (by simp_all) hq
        · omega, fun x hx => by obtain rfl := List.mem_singleton.1 hx; rw [hF]; simp; omega, fun i hi => by rw [hF]; split <;> omega, by simp⟩ (fun i hi => by
        rw [hF]
        have h1 : neg st.length (FD (List.replicate st.length 0)) ≤ st.length := neg_le _ _
        split <;> omega) (fun i hi => by rw [hz]; omega) ⟨fun i hi hq => by rw [hF]; split <;> omega, by omega, 0, h0, by rw [hF]; simp⟩ rfl (by rw [List.length_singleton]; exact Nat.le_trans (Nat.add_le_add_left (neg_le _ _) 1) (by omega))
    have hrev : ∀ i, i < st.length → ∀ d, Lab st.length (E (tab st.length es)) (fun j => ((j : Int) == (i : Int)) = true) d → d 0 = out i := by
      intro i hi d hd
      refine Lab.rev h0 hi ?_ hL
      exact ⟨hd.lo, fun a ha => (hd.zero a ha).trans (by simp; omega), hd.step, hd.edge⟩
    refine ⟨r, fun i hi d hd => by rw [hrev i hi d hd]; exact hM.up i hi (by simp), fun h => by omega, fun _ => ?_, ?_, ?_⟩
    · obtain ⟨i, hi, e⟩ := hM.some
      exact ⟨i, hi, fun d hd => by rw [hrev i hi d hd]; exact e⟩
    · refine Evn.bind hst ?_
      refine Evn.neg (by rw [List.length_map, hln]; omega) ?_
      refine Evn.pos (by omega) ?_
      refine Evn.pos (by simp only [List.length_map, hln, Int.toNat_natCast]; omega) ?_
      simp only [List.length_map, hln, Int.toNat_natCast]
      exact hev
    · unfold petrinetref16_Diameter.f
      (first | refine Evn.pos (by first | assumption | omega | (simp; done) | (simp; omega)) ?_ | refine Evn.neg (by first | assumption | omega | (simp; done) | (simp; omega)) ?_)
      have hnn := hM.nn
      have exd : ∀ i, i < st.length → ∃ d : Nat → Int, Lab st.length (E (tab st.length es)) (fun j => ((j : Int) == (i : Int)) = true) d := by
        intro i hi
        obtain ⟨d, ⟨_, hd⟩, _⟩ := rdistances_ev hT (fun j => (j : Int) == (i : Int))
        exact ⟨_, hd⟩
      have key : ∀ (m i : Nat) (x : Int), i + m = st.length → 0 ≤ x → x ≤ r → (∀ j, j < i → out j ≤ x) → Evn (fun k => petrinetref16_Diameter.l0 k x (i : Int) st es b) r := by
        intro m
        induction m with
        | zero =>
          intro i x hi hx0 hx hj
          obtain ⟨z, hz1, hz2⟩ := hM.some
          have := hj z (by omega)
          obtain rfl : x = r := by omega
          refine Evn.succ ?_
          simp only [petrinetref16_Diameter.l0]
          (first | refine Evn.pos (by first | assumption | omega | (simp; done) | (simp; omega)) ?_ | refine Evn.neg (by first | assumption | omega | (simp; done) | (simp; omega)) ?_)
          exact Evn.const _
        | succ m ih =>
          intro i x hi hx0 hx hj
          obtain ⟨l, ok, hFd, _, h2⟩ := between_both st es b hn he 0 (i : Int)
          obtain ⟨d, hd⟩ := exd i (by omega)
          have hl := (hFd.len 0 rfl h0 d hd).1
          rw [hrev i (by omega) d hd] at hl
          have hup := hM.up i (by omega) (by simp)
          have e : mx x (l.length : Int) = if x < (l.length : Int) then (l.length : Int) else x := rfl
          refine Evn.succ ?_
          simp only [petrinetref16_Diameter.l0, wrap_succ (show i < 9223372036854775807 by omega)]
          (first | refine Evn.pos (by first | assumption | omega | (simp; done) | (simp; omega)) ?_ | refine Evn.neg (by first | assumption | omega | (simp; done) | (simp; omega)) ?_)
          refine Evn.bind h2 ?_
          refine ih (i + 1) _ (by omega) ?_ ?_ ?_
          · show 0 ≤ mx x (l.length : Int)
            rw [e]; split <;> omega
          · show mx x (l.length : Int) ≤ r
            rw [e]; split <;> split at hl <;> omega
          · intro j hj2
            show out j ≤ mx x (l.length : Int)
            by_cases ej : j = i
            · subst ej; rw [e]; split <;> split at hl <;> omega
            · have := hj j (by omega); rw [e]; split <;> omega
      exact key st.length 0 0 (by omega) (by omega) (by omega) (by intro j hj; omega)
theorem few_eq (st : List (List Int)) (es : List S80) (b : Bool) : petrinetlaw16_few.f st es b = some (decide (st.length ≤ 16 ∧ es.length ≤ 40)) := by
  unfold petrinetlaw16_few.f
  by_cases c : (st.length : Int) ≤ 16
  · rw [if_pos c]; congr 1; rw [Bool.eq_iff_iff]; simp only [decide_eq_true_eq]; omega
  · rw [if_neg c]; congr 1; symm; rw [decide_eq_false_iff_not]; omega
theorem Found.short {n : Nat} {T : List (List S80)} {g : Nat → Bool} {a : Int} {l : List Int} {ok : Bool} (hT : OkT n T) (h : Found n T g a l ok) : l.length ≤ 2000000 := by
  by_cases ha : 0 ≤ a ∧ a < (n : Int)
  · obtain ⟨s, rfl⟩ : ∃ s : Nat, a = (s : Int) := ⟨a.toNat, by omega⟩
    obtain ⟨d, ⟨hd, hL, hle⟩, _⟩ := distances_ev hT (fun i => some (g i.toNat)) g (fun i hi => by simp)
    have := (h.len s rfl (by omega) _ hL).1
    have := hle s (by omega)
    have := hT.small
    split at * <;> omega
  · rw [(h.out ha).1]; simp
end Go.Proofs.Ytfnjbgggmddgpaa.Q
end
