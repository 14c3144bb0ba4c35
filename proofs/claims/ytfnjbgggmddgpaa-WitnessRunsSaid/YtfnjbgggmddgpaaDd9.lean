/- Part 9 of a proof: Dd. Words and walks that a program printed for this claim stand here without what the claim does not use. -/
import Derived.Test.YtfnjbgggmddgpaaDd2
import Derived.Test.YtfnjbgggmddgpaaDd6
import Derived.Test.YtfnjbgggmddgpaaDd7
import Derived.Test.YtfnjbgggmddgpaaDd8
section
namespace Go.Proofs.Ytfnjbgggmddgpaa.Q
open Go.RowKit Go.Proofs.Fn Go.Proofs.YtfnjbgggmddgpaaW.PrintWords Go.Proofs.YtfnjbgggmddgpaaW.PrintLast Go.Proofs.YtfnjbgggmddgpaaW.PrintMore
attribute [local go_sem] max2_int min2_int max_two min_two max_three min_three max_four min_four
set_option linter.unusedVariables false
set_option linter.unusedSimpArgs false
mutual
def r14_Explore.j0 : Nat → Int → Bool → ByteArray → List (S71) → List (S74) → Option ((List (List Int)) × (List (S80)) × Bool × Int)
 | 0, _, _, _, _, _ => none
 | k + 1, x1, x29, x102000, x102001, x102002 => if x29 = true then (some (([] : List (List Int)), ([] : List (S80)), false, 1)) else (r14_Explore.l0 k x1 ([] : List Int) 0 x102000 x102001 x102002)
def r14_Explore.l0 : Nat → Int → List Int → Int → ByteArray → List (S71) → List (S74) → Option ((List (List Int)) × (List (S80)) × Bool × Int)
 | 0, _, _, _, _, _, _ => none
 | k + 1, x1, x7, x8, x102000, x102001, x102002 => if x8 < (x102001.length : Int) then (if 0 ≤ x8 then (if x7.length < 17592186044416 then (r14_Explore.l0 k x1 (x7 ++ [(rd_T71 x102001 x8).f1]) (wrap64 (x8 + 1)) x102000 x102001 x102002) else (none)) else (none)) else (r14_Explore.l1 k x1 0 x102000 x102001 x102002 (([x7] : List (List Int))) ([] : List (S80)) true)
def r14_Explore.l1 : Nat → Int → Int → ByteArray → List (S71) → List (S74) → List (List Int) → List (S80) → Bool → Option ((List (List Int)) × (List (S80)) × Bool × Int)
 | 0, _, _, _, _, _, _, _, _ => none
 | k + 1, x1, x10, x102000, x102001, x102002, x114000, x114001, x114002 => if x10 < (x114000.length : Int) then (if 0 ≤ x10 then ((r11_Fires.f k x102000 x102001 x102002 (rd_L3 x114000 x10)).bind fun t115 => (r14_Explore.l2 k x1 x10 t115 0 x102000 x102001 x102002 x114000 x114001 x114002)) else (none)) else (some (x114000, x114001, x114002, 0))
def r14_Explore.l2 : Nat → Int → Int → List Int → Int → ByteArray → List (S71) → List (S74) → List (List Int) → List (S80) → Bool → Option ((List (List Int)) × (List (S80)) × Bool × Int)
 | 0, _, _, _, _, _, _, _, _, _, _ => none
 | k + 1, x1, x10, x11, x12, x102000, x102001, x102002, x114000, x114001, x114002 => if x12 < (x11.length : Int) then (if 0 ≤ x10 then (if x10 < (x114000.length : Int) then (if 0 ≤ x12 then ((r11_After.f k x102000 x102001 x102002 (rd_L3 x114000 x10) (rd x11 x12)).bind fun bt120 => (if bt120.2 = true then ((r14_Find.f k x114000 bt120.1).bind fun t124 => (if t124 < 0 then (r14_Explore.j4 k x1 x10 x11 x12 bt120.1 t124 (decide ((x114000.length : Int) ≥ x1)) x102000 x102001 x102002 x114000 x114001 x114002) else (r14_Explore.j4 k x1 x10 x11 x12 bt120.1 t124 false x102000 x102001 x102002 x114000 x114001 x114002))) else (some (([] : List (List Int)), ([] : List (S80)), false, 3)))) else (none)) else (none)) else (none)) else (r14_Explore.l1 k x1 (wrap64 (x10 + 1)) x102000 x102001 x102002 x114000 x114001 x114002)
def r14_Explore.j4 : Nat → Int → Int → List Int → Int → List Int → Int → Bool → ByteArray → List (S71) → List (S74) → List (List Int) → List (S80) → Bool → Option ((List (List Int)) × (List (S80)) × Bool × Int)
 | 0, _, _, _, _, _, _, _, _, _, _, _, _, _ => none
 | k + 1, x1, x10, x11, x12, x13, x15, x99, x102000, x102001, x102002, x114000, x114001, x114002 => if x99 = true then (r14_Explore.l2 k x1 x10 x11 (wrap64 (x12 + 1)) x102000 x102001 x102002 x114000 x114001 false) else (if x15 < 0 then (if x114000.length < 5864062014805 then (if 0 ≤ x12 then (if x12 < (x11.length : Int) then (if x114001.length < 5864062014805 then (r14_Explore.l2 k x1 x10 x11 (wrap64 (x12 + 1)) x102000 x102001 x102002 (x114000 ++ [x13]) (x114001 ++ [(⟨x10, rd x11 x12, (x114000.length : Int)⟩ : S80)]) x114002) else (none)) else (none)) else (none)) else (none)) else (if 0 ≤ x12 then (if x12 < (x11.length : Int) then (if x114001.length < 5864062014805 then (r14_Explore.l2 k x1 x10 x11 (wrap64 (x12 + 1)) x102000 x102001 x102002 x114000 (x114001 ++ [(⟨x10, rd x11 x12, x15⟩ : S80)]) x114002) else (none)) else (none)) else (none)))
end
def r14_Explore.f (k : Nat) (a0_0 : ByteArray) (l0_1 : List (S71)) (l0_2 : List (S74)) (a1 : Int) : Option ((List (List Int)) × (List (S80)) × Bool × Int) := (r09_Check.f k a0_0 l0_1 l0_2).bind fun bt103 => (if bt103.1 = 0 then (if a1 < 1 then (r14_Explore.j0 k a1 true a0_0 l0_1 l0_2) else (r14_Explore.j0 k a1 (decide (a1 > 20000)) a0_0 l0_1 l0_2)) else (some (([] : List (List Int)), ([] : List (S80)), false, bt103.1)))
def r14_Explore.T15 : Bool × List (List Nat × List Nat) := (true, [([], []), ([], []), ([1], [1]), ([], []), ([2, 3], [2, 3]), ([4], [4]), ([0, 5], [0, 5]), ([6, 6, 0, 1, 2, 3, 4, 5, 6], [6])])
def r14_Explore.B15 : List Nat := [0, 0, 2, 0, 14, 30, 63, 127]
theorem r14_Explore.tab15 : rtab .any (opsOf Try.f21 15) = r14_Explore.T15 := by kernel_rfl
theorem r14_Explore.bits15 : waitsOk r14_Explore.T15.2 r14_Explore.B15 = true := by kernel_rfl
def r14_Explore.T19 : Bool × List (List Nat × List Nat) := (true, [([], []), ([], []), ([1], [1]), ([], []), ([2, 3], [2, 3]), ([4], [4]), ([], []), ([], []), ([6, 7], [6, 7]), ([8], [8]), ([0, 5, 9], [0, 5, 9]), ([10], [10]), ([11], [11]), ([11], [11]), ([12, 10, 0, 1, 2, 3, 4, 5, 6, 7, 8, 9, 10, 11, 12], [12]), ([13, 14, 0, 1, 2, 3, 4, 5, 6, 7, 8, 9, 10, 11, 12, 13, 14], [13])])
def r14_Explore.B19 : List Nat := [0, 0, 2, 0, 14, 30, 0, 0, 192, 448, 1023, 2047, 4095, 4095, 8191, 32767]
theorem r14_Explore.tab19 : rtab .any (opsOf Try.f21 19) = r14_Explore.T19 := by kernel_rfl
theorem r14_Explore.bits19 : waitsOk r14_Explore.T19.2 r14_Explore.B19 = true := by kernel_rfl
def r14_Explore.T28 : Bool × List (List Nat × List Nat) := (true, [([], []), ([0], [0]), ([], []), ([], []), ([], []), ([3, 4], [3, 4]), ([5], [5]), ([], []), ([2, 6, 7], [2, 6, 7]), ([8], [8]), ([1, 9], [1, 9]), ([0, 1, 2, 3, 4, 5, 6, 7, 8, 9, 10], []), ([11, 10, 10, 0, 1, 2, 3, 4, 5, 6, 7, 8, 9, 10], [10, 11])])
def r14_Explore.B28 : List Nat := [0, 1, 0, 0, 0, 24, 56, 0, 252, 508, 1023, 2047, 4095]
theorem r14_Explore.tab28 : rtab .any (opsOf Try.f21 28) = r14_Explore.T28 := by kernel_rfl
theorem r14_Explore.bits28 : waitsOk r14_Explore.T28.2 r14_Explore.B28 = true := by kernel_rfl
set_option maxHeartbeats 8000000 in
set_option maxRecDepth 100000 in
theorem r14_Explore.calls (k : Nat) (a0_0 : ByteArray) (A0_1 : Option Addr) (c0_1 : Nat) (l0_1 : List (S71)) (A0_2 : Option Addr) (c0_2 : Nat) (l0_2 : List (S74)) (a1 : Int) (r1 : List (List Int)) (r2 : List (S80)) (r3 : Bool) (r4 : Int) (w : World) (hr0_1 : Kd.C k71 w A0_1 l0_1.length l0_1) (hc0_1 : l0_1.length ≤ c0_1) (hr0_2 : Kd.C k74 w A0_2 l0_2.length l0_2) (hc0_2 : l0_2.length ≤ c0_2) (h : r14_Explore.f k a0_0 l0_1 l0_2 a1 = some (r1, r2, r3, r4)) :
  Calls Try.prog 21 #[.agg #[.string a0_0, .slice A0_1 l0_1.length c0_1, .slice A0_2 l0_2.length c0_2], .int .i64 a1] w fun e w' => ∃ v0_ v1_ : Value, e = .returned (.tuple #[.agg #[v0_, v1_, .bool r3], .int .i64 r4]) ∧ Kd.N (Kd.slice 3 (Kd.int .i64)) 28 w' w.heap.size (fun k_ => (w.heap.size ≤ k_) ∧ some k_ ≠ (v1_ : Value).ownBlock) v0_ r1 ∧ Kd.R k80 80 w' w.heap.size (fun k_ => (w.heap.size ≤ k_)) v1_ r2 ∧ Below w.heap.size w w' := by
 have hu39 := Try.underlying39
 have hu25 := Try.underlying25
 have hu46 := Try.underlying46
 have hu80 := Try.underlying80
 have HR0_1 := Aside0.mk hr0_1
 have HC0_1 := Aside0.mk hc0_1
 clear hr0_1 hc0_1
 have HR0_2 := Aside0.mk hr0_2
 have HC0_2 := Aside0.mk hc0_2
 clear hr0_2 hc0_2
 have HB := Aside0.mk (Below.refl w.heap.size w)
 have H : ((r09_Check.f k a0_0 l0_1 l0_2).bind fun bt103 => (if bt103.1 = 0 then (if a1 < 1 then (r14_Explore.j0 k a1 true a0_0 l0_1 l0_2) else (r14_Explore.j0 k a1 (decide (a1 > 20000)) a0_0 l0_1 l0_2)) else (some (([] : List (List Int)), ([] : List (S80)), false, bt103.1)))) = some (r1, r2, r3, r4) := h
 clear h
 replace H := Option.bind_eq_some_iff.mp H
 obtain ⟨⟨t103, t104⟩, A30, H⟩ := H
 (try dsimp only at H)
 have A3 := Aside0.mk A30
 clear A30
 by_cases c4 : t103 = 0
 ·rw [if_pos c4] at H
  have c4b0 := beq_iff_eq.mpr c4
  have c4b1 := bne_eq_false_iff_eq.mpr c4
  clear c4
  have HC5 := Aside0.mk H
  clear H
  go_enter Try.func21, Try.ntmps21
  go_upto_region 4 with (first | ((with_reducible refine gate_dst (N := 2) rfl ?_); (try (refine gate_guard (by rfl) ?_; dsimp only)); refine tBx 2 39 #[.string a0_0, .slice A0_1 l0_1.length c0_1, .slice A0_2 l0_2.length c0_2] ?_; intro gb101 hg w6 hbox hb; have BK101 := Aside0.mk (hbox); have GW101 := tW HB hg; have GE101 := tW HB hg; replace HB := tA HB hb; clear hb hbox hg) | ((with_reducible refine gate_dst (N := 4) rfl ?_); (try (refine gate_guard (by rfl) ?_; dsimp only)); refine tBx 4 25 #[.slice none 0 0, .slice none 0 0, .bool false] ?_; intro gb102 hg w7 hbox hb; have BK102 := Aside0.mk (hbox); have GW102 := tW HB hg; have GE102 := tW HB hg; replace HB := tA HB hb; have NB101_102 := tNl BK101 hg; have NB102_101 := tNg BK101 hg; replace BK101 := tL BK101 hb; clear hb hbox hg; have hnb8 := NB101_102.out; have hnc8 := NB102_101.out; obtain ⟨hcz9_0, hcz9_1, hcz9_2, hfz9_0, hfz9_1, hfz9_2⟩ := zc3 BK101) | ((with_reducible refine gate_callee (f := 43) rfl ?_); refine goesL_ (some 17) rfl rfl Try.func43 (by kernel_rfl) rfl #[.agg #[.string a0_0, .slice A0_1 l0_1.length c0_1, .slice A0_2 l0_2.length c0_2]] rfl (by (try simp only [List.map_toArray, List.map_cons, List.map_nil]); first | done | rfl | (simp only [List.length_drop, List.length_take]; rfl)) ?_; (with_reducible refine (r09_Check.calls k a0_0 _ _ l0_1 _ _ l0_2 t103 t104 _ (tG HR0_1 HB) HC0_1.out (tG HR0_2 HB) HC0_2.out A3.out).mono ?_); rintro e w10 ⟨rfl, hb⟩; refine ⟨_, rfl, ?_⟩; replace BK101 := tL BK101 hb; replace BK102 := tL BK102 hb; replace HB := tA HB hb; (try clear hb); (try clear hb2); (try clear hk); (try clear hi)) | ((with_reducible refine gate_dst (N := 6) rfl ?_); (try (refine gate_guard (by rfl) ?_; dsimp only)); refine tBx 6 46 #[.int .i64 0, .int .i64 0] ?_; intro gb105 hg w11 hbox hb; have BK105 := Aside0.mk (hbox); have GW105 := tW HB hg; have GE105 := tW HB hg; replace HB := tA HB hb; have NB101_105 := tNl BK101 hg; have NB105_101 := tNg BK101 hg; replace BK101 := tL BK101 hb; have NB102_105 := tNl BK102 hg; have NB105_102 := tNg BK102 hg; replace BK102 := tL BK102 hb; clear hb hbox hg; have hnb12 := NB105_101.out; have hnc12 := NB101_105.out; have hnb13 := NB105_102.out; have hnc13 := NB102_105.out; obtain ⟨hcz14_0, hcz14_1, hfz14_0, hfz14_1⟩ := zc2 BK105))
  (try simp only [Act.put, List.setIfInBounds_toArray, List.set_cons_zero, List.set_cons_succ])
  go_cut [29] (fun v29 wc => ∃ (kq : Nat) (x29_4 : Bool), v29 = .bool x29_4 ∧ Aside0 (r14_Explore.j0 kq a1 x29_4 a0_0 l0_1 l0_2 = some (r1, r2, r3, r4)) ∧ Aside0 (kq ≤ k) ∧ Aside0 (wc.heap[gb101]? = some (.cells #[.string a0_0, (.slice A0_1 l0_1.length c0_1), (.slice A0_2 l0_2.length c0_2)] 39 (0, 0))) ∧ Aside0 (wc.heap[gb102]? = some (.cells #[(.slice none 0 0), (.slice none 0 0), .bool false] 25 (0, 0))) ∧ Aside0 (wc.heap[gb105]? = some (.cells #[.int .i64 t103, .int .i64 t104] 46 (0, 0))) ∧ Aside0 (Below w.heap.size w wc))
  case first =>
   have H := HC5.out
   clear HC5
   by_cases c15 : a1 < 1
   ·rw [if_pos c15] at H
    have c15b0 := decide_eq_true c15
    clear c15
    (first | rw [c15b0] | (simp only [i64_w, i32_w]; rw [c15b0]) | skip)
    have H' := Aside0.mk H
    clear H
    go_wp2
    go_meet
    case rel => exact ⟨_, (true), tU, H', ⟨by first | omega | exact Nat.le_refl _⟩, ⟨by (with_reducible repeat (first | refine blk_drewN ?_ _ | refine blk_drew ?_ | refine blk_alloc ?_ _)); refine blk_far ?_ NB101_105.out _; (with_reducible repeat (first | refine blk_drewN ?_ _ | refine blk_drew ?_ | refine blk_alloc ?_ _)); refine blk_far ?_ NB101_105.out _; (with_reducible repeat (first | refine blk_drewN ?_ _ | refine blk_drew ?_ | refine blk_alloc ?_ _)); exact BK101.out⟩, ⟨by (with_reducible repeat (first | refine blk_drewN ?_ _ | refine blk_drew ?_ | refine blk_alloc ?_ _)); refine blk_far ?_ NB102_105.out _; (with_reducible repeat (first | refine blk_drewN ?_ _ | refine blk_drew ?_ | refine blk_alloc ?_ _)); refine blk_far ?_ NB102_105.out _; (with_reducible repeat (first | refine blk_drewN ?_ _ | refine blk_drew ?_ | refine blk_alloc ?_ _)); exact BK102.out⟩, ⟨by (with_reducible repeat (first | refine blk_drewN ?_ _ | refine blk_drew ?_ | refine blk_alloc ?_ _)); refine blk_put (cs := #[.int .i64 t103, .int .i64 0]) ?_ 1 _ rfl; (with_reducible repeat (first | refine blk_drewN ?_ _ | refine blk_drew ?_ | refine blk_alloc ?_ _)); refine blk_put (cs := #[.int .i64 0, .int .i64 0]) ?_ 0 _ rfl; (with_reducible repeat (first | refine blk_drewN ?_ _ | refine blk_drew ?_ | refine blk_alloc ?_ _)); exact BK105.out⟩, ⟨tB⟩⟩
   rw [if_neg c15] at H
   have c15b0 := decide_eq_false c15
   clear c15
   (first | rw [c15b0] | (simp only [i64_w, i32_w]; rw [c15b0]) | skip)
   have H' := Aside0.mk H
   clear H
   go_wp2
   go_meet
   case rel => exact ⟨_, (decide (a1 > 20000)), tU, H', ⟨by first | omega | exact Nat.le_refl _⟩, ⟨by (with_reducible repeat (first | refine blk_drewN ?_ _ | refine blk_drew ?_ | refine blk_alloc ?_ _)); refine blk_far ?_ NB101_105.out _; (with_reducible repeat (first | refine blk_drewN ?_ _ | refine blk_drew ?_ | refine blk_alloc ?_ _)); refine blk_far ?_ NB101_105.out _; (with_reducible repeat (first | refine blk_drewN ?_ _ | refine blk_drew ?_ | refine blk_alloc ?_ _)); exact BK101.out⟩, ⟨by (with_reducible repeat (first | refine blk_drewN ?_ _ | refine blk_drew ?_ | refine blk_alloc ?_ _)); refine blk_far ?_ NB102_105.out _; (with_reducible repeat (first | refine blk_drewN ?_ _ | refine blk_drew ?_ | refine blk_alloc ?_ _)); refine blk_far ?_ NB102_105.out _; (with_reducible repeat (first | refine blk_drewN ?_ _ | refine blk_drew ?_ | refine blk_alloc ?_ _)); exact BK102.out⟩, ⟨by (with_reducible repeat (first | refine blk_drewN ?_ _ | refine blk_drew ?_ | refine blk_alloc ?_ _)); refine blk_put (cs := #[.int .i64 t103, .int .i64 0]) ?_ 1 _ rfl; (with_reducible repeat (first | refine blk_drewN ?_ _ | refine blk_drew ?_ | refine blk_alloc ?_ _)); refine blk_put (cs := #[.int .i64 0, .int .i64 0]) ?_ 0 _ rfl; (with_reducible repeat (first | refine blk_drewN ?_ _ | refine blk_drew ?_ | refine blk_alloc ?_ _)); exact BK105.out⟩, ⟨tB⟩⟩
  case rest =>
   clear HC5
   (try clear c1); (try clear c2); (try clear p2); (try clear c4); (try clear c4b0); (try clear c4b1); (try clear c8); (try clear c12); (try clear c13); (try clear c15); (try clear c15b0); (try clear hcz14_0 hcz14_1 hfz14_0 hfz14_1); (try clear hcz9_0 hcz9_1 hcz9_2 hfz9_0 hfz9_1 hfz9_2)
   obtain ⟨kq, x29_4, rfl, HA, HJ4, BK101, BK102, BK105, HB⟩ := hcut
   cases kq with
   | zero => exact absurd HA.out (by simp [r14_Explore.j0])
   | succ kj4 =>
    have H := HA.out
    clear HA
    simp only [r14_Explore.j0] at H
    by_cases c16 : x29_4 = true
    ·subst c16
     rw [if_pos rfl] at H
     simp only [Option.some.injEq, Prod.mk.injEq] at H
     obtain ⟨rfl, rfl, rfl, rfl⟩ := H
     have hnb17 := NB102_101.out
     have hnc17 := NB101_102.out
     have hnb18 := NB102_105.out
     have hnc18 := NB105_102.out
     obtain ⟨hcz19_0, hcz19_1, hcz19_2, hfz19_0, hfz19_1, hfz19_2⟩ := zc3 BK102
     go_wp2
     refine bodyPost_ret (results_ct rfl _ _ gb102 25 #[.slice none 0 0, .slice none 0 0, .bool false] (0, 0) _ rfl (by (with_reducible repeat (first | refine blk_drewN ?_ _ | refine blk_drew ?_ | refine blk_alloc ?_ _)); refine blk_put (cs := #[.slice none 0 0, .slice none 0 0, .bool false]) ?_ 2 _ rfl; (with_reducible repeat (first | refine blk_drewN ?_ _ | refine blk_drew ?_ | refine blk_alloc ?_ _)); refine blk_put (cs := #[.slice none 0 0, .slice none 0 0, .bool false]) ?_ 1 _ rfl; (with_reducible repeat (first | refine blk_drewN ?_ _ | refine blk_drew ?_ | refine blk_alloc ?_ _)); refine blk_put (cs := #[.slice none 0 0, .slice none 0 0, .bool false]) ?_ 0 _ rfl; (with_reducible repeat (first | refine blk_drewN ?_ _ | refine blk_drew ?_ | refine blk_alloc ?_ _)); exact BK102.out) Try.underlying25 rfl (by kernel_rfl)) rfl ?_
     exact ⟨_, _, tE, by first | exact Kd.S_nil _ _ _ _ _ | exact Kd.N_nil _ _ _ _ _ | exact Kd.V_nil _ _ _ _ _ | exact Kd.Q_nil _ _ _ _ _ | exact Kd.R_nil _ _ _ _ _, by first | exact Kd.R_nil _ _ _ _ _ | exact Kd.N_nil _ _ _ _ _ | exact Kd.V_nil _ _ _ _ _ | exact Kd.Q_nil _ _ _ _ _ | exact Kd.S_nil _ _ _ _ _, tB⟩
    replace c16 := Bool.eq_false_iff.mpr c16
    subst c16
    rw [if_neg (show ¬ (false = true) by decide)] at H
    have H' := Aside0.mk H
    clear H
    go_wp2
    go_loopg [7, 8] kj4 (fun kq v7 v8 w' => ∃ (x7_2 : List Int) (x8_2 : Int), v8 = .int .i64 x8_2 ∧ Aside0 (r14_Explore.l0 kq a1 x7_2 x8_2 a0_0 l0_1 l0_2 = some (r1, r2, r3, r4)) ∧ Aside0 (kq ≤ kj4) ∧ Aside0 (Kd.R (Kd.int .i64) 3 w' w.heap.size (fun k_ => (w.heap.size ≤ k_)) v7 x7_2) ∧ Aside0 (w'.heap[gb101]? = some (.cells #[.string a0_0, (.slice A0_1 l0_1.length c0_1), (.slice A0_2 l0_2.length c0_2)] 39 (0, 0))) ∧ Aside0 (w'.heap[gb102]? = some (.cells #[(.slice none 0 0), (.slice none 0 0), .bool false] 25 (0, 0))) ∧ Aside0 (w'.heap[gb105]? = some (.cells #[.int .i64 t103, .int .i64 t104] 46 (0, 0))) ∧ Aside0 (Below w.heap.size w w'))
    case atStart => exact ⟨(([] : List Int)), (0), tU, H', ⟨Nat.le_refl _⟩, ⟨tV⟩, ⟨tK BK101⟩, ⟨tK BK102⟩, ⟨tK BK105⟩, ⟨tB⟩⟩
    case round =>
     clear H'
     (try clear c1); (try clear c2); (try clear p2); (try clear c4); (try clear c4b0); (try clear c4b1); (try clear c8); (try clear c12); (try clear c13); (try clear c15); (try clear c15b0); (try clear c16); (try clear c17); (try clear c18); (try clear hcz14_0 hcz14_1 hfz14_0 hfz14_1); (try clear hcz19_0 hcz19_1 hcz19_2 hfz19_0 hfz19_1 hfz19_2); (try clear hcz9_0 hcz9_1 hcz9_2 hfz9_0 hfz9_1 hfz9_2)
     obtain ⟨x7_2, x8_2, rfl, HA, HK2, HO_7, BK101, BK102, BK105, HB⟩ := hrel
     cases gk with
     | zero => exact absurd HA.out (by simp [r14_Explore.l0])
     | succ k2 =>
      have H := HA.out
      clear HA
      simp only [r14_Explore.l0] at H
      by_cases c20 : x8_2 < (l0_1.length : Int)
      ·rw [if_pos c20] at H
       have c20b0 := decide_eq_true c20
       clear c20
       replace H := tF H
       obtain ⟨c21, H⟩ := H
       have c21b0 := decide_eq_true c21
       clear c21
       replace H := tF H
       obtain ⟨c22, H⟩ := H
       have LMc22 := Aside0.mk c22
       clear c22
       obtain ⟨y107, hy107⟩ : ∃ y_ : List Int, y_ = (x7_2 ++ [(rd_T71 l0_1 x8_2).f1]) := ⟨_, rfl⟩
       replace H : (r14_Explore.l0 k2 a1 y107 (wrap64 (x8_2 + 1)) a0_0 l0_1 l0_2) = some (r1, r2, r3, r4) := tQ hy107 H
       have Ny107 := Aside0.mk hy107
       clear hy107
       have H' := Aside0.mk H
       clear H
       have hnb23 := NB101_102.out
       have hnc23 := NB102_101.out
       have hnb24 := NB101_105.out
       have hnc24 := NB105_101.out
       obtain ⟨hcz25_0, hcz25_1, hcz25_2, hfz25_0, hfz25_1, hfz25_2⟩ := zc3 BK101
       have p106 : 0 ≤ (x8_2 : Int) := tD
       have q106 : x8_2 < (l0_1.length : Int) := tD
       obtain ⟨ad106, e106, hx106_0, hx106_1, hx106_2⟩ := at_T71 HR0_1.out x8_2 p106 q106
       cases e106
       replace hx106_0 := tH HB hx106_0
       replace hx106_1 := tH HB hx106_1
       replace hx106_2 := tH HB hx106_2
       replace p106 := eq_true p106
       replace q106 := eq_true q106
       go_wp2_with (first | ((with_reducible refine gate_builtin (b := .append) (xs := #[.tmp 38, .tmp 45]) rfl ?_); (try (refine gate_guard (by rfl) ?_; dsimp only)); at_builtin; refine Kd.R_append (Kd.int .i64) (w0 := w) w.heap.size rfl (.tmp 38) (.tmp 45) 28 3 (.int .i64 0) 8 rfl Try.underlying28 info3 rfl (by decide) (by omega) u7 x7_2 ((rd_T71 l0_1 x8_2).f1) [.int .i64 ((rd_T71 l0_1 x8_2).f1)] (fun k_ => (w.heap.size ≤ k_)) (fun _ => False) rfl rfl ?aP (fun _ hk => hk.elim) ?aF ?aO ?aB ?aS ?aL ?_; (case aP => exact rfl); (case aB => exact (tB)); (case aF => exact (fun k_ hk => (Nat.le_trans (below_size (tB)) hk))); (case aO => exact (tR HO_7)); (case aS => exact (below_size (tB))); (case aL => have := LMc22.out; omega); intro v108 w26 ho hb hg hat; rw [← Ny107.out] at ho; replace BK101 := Aside0.mk (blk_grown (g := gb101) (o := .cells #[.string a0_0, .slice (some ad106) l0_1.length c0_1, .slice A0_2 l0_2.length c0_2] 39 (0, 0)) (tK BK101) hg (Kd.R_ne HO_7.out BK101.out (by decide))); replace BK102 := Aside0.mk (blk_grown (g := gb102) (o := .cells #[.slice none 0 0, .slice none 0 0, .bool false] 25 (0, 0)) (tK BK102) hg (Kd.R_ne HO_7.out BK102.out (by decide))); replace BK105 := Aside0.mk (blk_grown (g := gb105) (o := .cells #[.int .i64 t103, .int .i64 t104] 46 (0, 0)) (tK BK105) hg (Kd.R_ne HO_7.out BK105.out (by decide))); replace HB := Aside0.mk (hb); have HO109 := Aside0.mk (ho); clear HO_7; clear ho hb hg hat))
       go_roundg k2
       case measure => have := HJ4.out; have := HK2.out; omega
       case rel => exact ⟨(y107), (wrap64 (x8_2 + 1)), tU, H', ⟨by have := HJ4.out; have := HK2.out; omega⟩, ⟨tR HO109⟩, ⟨tK BK101⟩, ⟨tK BK102⟩, ⟨tK BK105⟩, ⟨tB⟩⟩
      rw [if_neg c20] at H
      have c20b0 := decide_eq_false c20
      clear c20
      obtain ⟨y110, hy110⟩ : ∃ y_ : List (List Int), y_ = (([x7_2] : List (List Int))) := ⟨_, rfl⟩
      replace H : (r14_Explore.l1 k2 a1 0 a0_0 l0_1 l0_2 y110 ([] : List (S80)) true) = some (r1, r2, r3, r4) := tQ hy110 H
      have Ny110 := Aside0.mk hy110
      clear hy110
      have H' := Aside0.mk H
      clear H
      have hnb27 := NB101_102.out
      have hnc27 := NB102_101.out
      have hnb28 := NB101_105.out
      have hnc28 := NB105_101.out
      obtain ⟨hcz29_0, hcz29_1, hcz29_2, hfz29_0, hfz29_1, hfz29_2⟩ := zc3 BK101
      obtain ⟨Ao30, co30, eo30⟩ := Kd.R_slice HO_7.out
      subst eo30
      go_wp2_with (first | ((with_reducible refine gate_dst (N := 48) rfl ?_); (try (refine gate_guard (by rfl) ?_; dsimp only)); refine Kd.N_lit (Kd.slice 3 (Kd.int .i64)) _ 28 ?hg (N' := 48) ?hd (xs := ([x7_2] : List (List Int))) (inner := [.slice Ao30 x7_2.length co30]) (ok := (fun k_ => (w.heap.size ≤ k_) ∧ k_ ≠ gb101 ∧ k_ ≠ gb102 ∧ k_ ≠ gb105)) (okp := (fun k_ => (w.heap.size ≤ k_) ∧ k_ ≠ gb101 ∧ k_ ≠ gb102 ∧ k_ ≠ gb105)) ?hr ?hp (fun _ hk => hk) ((show ∀ k_, wr.heap.size ≤ k_ → (fun k_ => (w.heap.size ≤ k_) ∧ k_ ≠ gb101 ∧ k_ ≠ gb102 ∧ k_ ≠ gb105) k_ from fun k_ hk => ⟨(Nat.le_trans (below_size (tB)) hk), Kd.freshB (g := gb101) (o := .cells #[.string a0_0, .slice A0_1 l0_1.length c0_1, .slice A0_2 l0_2.length c0_2] 39 (0, 0)) (tK BK101) k_ hk, Kd.freshB (g := gb102) (o := .cells #[.slice none 0 0, .slice none 0 0, .bool false] 25 (0, 0)) (tK BK102) k_ hk, Kd.freshB (g := gb105) (o := .cells #[.int .i64 t103, .int .i64 t104] 46 (0, 0)) (tK BK105) k_ hk⟩) _ (Nat.le_refl _)) (Below.refl _ _) (Nat.le_refl _) (by simp) ?_; (case hd => rfl); (case hg => rfl); (case hr => first | (go_simp; done) | (go_simp; rfl)); (case hp => exact (Reps.one (show Kd.FK (Kd.slice 3 (Kd.int .i64)) _ _ x7_2 [.slice Ao30 x7_2.length co30] from (Kd.FK_slice_mk (Kd.R_reads' (Kd.R_mono (ok' := (fun k_ => (w.heap.size ≤ k_) ∧ k_ ≠ gb101 ∧ k_ ≠ gb102 ∧ k_ ≠ gb105)) (Kd.R_types (Kd.R_types (Kd.R_types (HO_7.out) BK101.out (by decide)) BK102.out (by decide)) BK105.out (by decide)) (fun k_ hk => ⟨hk.1.1.1, ⟨hk.1.1.2, ⟨hk.1.2, hk.2⟩⟩⟩))).2.1 (Kd.R_F (Kd.R_mono (ok' := (fun k_ => (w.heap.size ≤ k_) ∧ k_ ≠ gb101 ∧ k_ ≠ gb102 ∧ k_ ≠ gb105)) (Kd.R_types (Kd.R_types (Kd.R_types (HO_7.out) BK101.out (by decide)) BK102.out (by decide)) BK105.out (by decide)) (fun k_ hk => ⟨hk.1.1.1, ⟨hk.1.1.2, ⟨hk.1.2, hk.2⟩⟩⟩))))) (Reps.none _ _))); intro v111 w31 ho32 hb hg_ hnew_; clear hg_ hnew_; (first | rw [← Ny110.out] at ho32 | (simp only [Int.reduceToNat] at ho32; rw [← Ny110.out] at ho32)); have HO112 := Aside0.mk (Kd.N_lower ho32 (below_size (tB))); replace BK101 := tL BK101 hb; replace BK102 := tL BK102 hb; replace BK105 := tL BK105 hb; replace HB := tA HB hb; clear HO_7; clear hb ho32; obtain ⟨Ao33, co33, eo33⟩ := Kd.N_slice HO112.out; subst eo33) | ((with_reducible refine gate_dst (N := 9) rfl ?_); (try (refine gate_guard (by rfl) ?_; dsimp only)); refine tBx 9 25 #[.slice none 0 0, .slice none 0 0, .bool false] ?_; intro gb113 hg w34 hbox hb; replace HO112 := Aside0.mk (Kd.N_below (Kd.N_elderB (tR HO112) gb113 (Nat.le_of_eq hg.symm)) hb); have BK113 := Aside0.mk (hbox); have GW113 := tW HB hg; have GE113 := tW HB hg; replace HB := tA HB hb; have NB101_113 := tNl BK101 hg; have NB113_101 := tNg BK101 hg; replace BK101 := tL BK101 hb; have NB102_113 := tNl BK102 hg; have NB113_102 := tNg BK102 hg; replace BK102 := tL BK102 hb; have NB105_113 := tNl BK105 hg; have NB113_105 := tNg BK105 hg; replace BK105 := tL BK105 hb; clear hb hbox hg; have hnb35 := NB113_101.out; have hnc35 := NB101_113.out; have hnb36 := NB113_102.out; have hnc36 := NB102_113.out; have hnb37 := NB113_105.out; have hnc37 := NB105_113.out; obtain ⟨hcz38_0, hcz38_1, hcz38_2, hfz38_0, hfz38_1, hfz38_2⟩ := zc3 BK113))
      go_loopg [10] k2 (fun kq v10 w' => ∃ (x10_3 : Int) (x103002_3 : Bool) (x114000_3 : List (List Int)) (x114001_3 : List (S80)) (x114002_3 : Bool) (u114000 : Value) (u114001 : Value), v10 = .int .i64 x10_3 ∧ Aside0 (r14_Explore.l1 kq a1 x10_3 a0_0 l0_1 l0_2 x114000_3 x114001_3 x114002_3 = some (r1, r2, r3, r4)) ∧ Aside0 (kq ≤ k2) ∧ Aside0 (Kd.N (Kd.slice 3 (Kd.int .i64)) 28 w' w.heap.size (fun k_ => (w.heap.size ≤ k_) ∧ some k_ ≠ (u114001 : Value).ownBlock ∧ k_ ≠ gb101 ∧ k_ ≠ gb102 ∧ k_ ≠ gb105 ∧ k_ ≠ gb113) u114000 x114000_3) ∧ Aside0 (Kd.R k80 80 w' w.heap.size (fun k_ => (w.heap.size ≤ k_)) u114001 x114001_3) ∧ Aside0 (w'.heap[gb101]? = some (.cells #[.string a0_0, (.slice A0_1 l0_1.length c0_1), (.slice A0_2 l0_2.length c0_2)] 39 (0, 0))) ∧ Aside0 (w'.heap[gb102]? = some (.cells #[(.slice none 0 0), (.slice none 0 0), .bool x103002_3] 25 (0, 0))) ∧ Aside0 (w'.heap[gb105]? = some (.cells #[.int .i64 t103, .int .i64 t104] 46 (0, 0))) ∧ Aside0 (w'.heap[gb113]? = some (.cells #[u114000, u114001, .bool x114002_3] 25 (0, 0))) ∧ Aside0 (Below w.heap.size w w'))
      case atStart => exact ⟨(0), (false), (y110), (([] : List (S80))), (true), (.slice Ao33 y110.length co33), (.slice none 0 0), tU, H', ⟨Nat.le_refl _⟩, ⟨by (with_reducible repeat (first | apply Kd.N_alloc | apply Kd.N_drewN | apply Kd.N_drew)); exact Kd.N_mono (Kd.N_far (p := ⟨gb113, 2, none⟩) (Kd.N_far (p := ⟨gb113, 1, none⟩) (Kd.N_far (p := ⟨gb113, 0, none⟩) (Kd.N_mono HO112.out (fun k_ hk => (⟨hk, hk.2⟩ : _ ∧ k_ ≠ gb113))) (fun _ hk => hk.2) (.slice Ao33 y110.length co33)) (fun _ hk => hk.2) (.slice none 0 0)) (fun _ hk => hk.2) (.bool true)) (fun _ hk => ⟨hk.1.1.1, ⟨(by simp [Value.ownBlock]), ⟨hk.1.1.2.1, ⟨hk.1.1.2.2.1, ⟨hk.1.1.2.2.2, hk.1.2⟩⟩⟩⟩⟩)⟩, ⟨tV⟩, ⟨by (with_reducible repeat (first | refine blk_drewN ?_ _ | refine blk_drew ?_ | refine blk_alloc ?_ _)); refine blk_far ?_ NB101_113.out _; (with_reducible repeat (first | refine blk_drewN ?_ _ | refine blk_drew ?_ | refine blk_alloc ?_ _)); refine blk_far ?_ NB101_113.out _; (with_reducible repeat (first | refine blk_drewN ?_ _ | refine blk_drew ?_ | refine blk_alloc ?_ _)); refine blk_far ?_ NB101_113.out _; (with_reducible repeat (first | refine blk_drewN ?_ _ | refine blk_drew ?_ | refine blk_alloc ?_ _)); exact BK101.out⟩, ⟨by (with_reducible repeat (first | refine blk_drewN ?_ _ | refine blk_drew ?_ | refine blk_alloc ?_ _)); refine blk_far ?_ NB102_113.out _; (with_reducible repeat (first | refine blk_drewN ?_ _ | refine blk_drew ?_ | refine blk_alloc ?_ _)); refine blk_far ?_ NB102_113.out _; (with_reducible repeat (first | refine blk_drewN ?_ _ | refine blk_drew ?_ | refine blk_alloc ?_ _)); refine blk_far ?_ NB102_113.out _; (with_reducible repeat (first | refine blk_drewN ?_ _ | refine blk_drew ?_ | refine blk_alloc ?_ _)); exact BK102.out⟩, ⟨by (with_reducible repeat (first | refine blk_drewN ?_ _ | refine blk_drew ?_ | refine blk_alloc ?_ _)); refine blk_far ?_ NB105_113.out _; (with_reducible repeat (first | refine blk_drewN ?_ _ | refine blk_drew ?_ | refine blk_alloc ?_ _)); refine blk_far ?_ NB105_113.out _; (with_reducible repeat (first | refine blk_drewN ?_ _ | refine blk_drew ?_ | refine blk_alloc ?_ _)); refine blk_far ?_ NB105_113.out _; (with_reducible repeat (first | refine blk_drewN ?_ _ | refine blk_drew ?_ | refine blk_alloc ?_ _)); exact BK105.out⟩, ⟨by (with_reducible repeat (first | refine blk_drewN ?_ _ | refine blk_drew ?_ | refine blk_alloc ?_ _)); refine blk_put (cs := #[.slice Ao33 y110.length co33, .slice none 0 0, .bool false]) ?_ 2 _ rfl; (with_reducible repeat (first | refine blk_drewN ?_ _ | refine blk_drew ?_ | refine blk_alloc ?_ _)); refine blk_put (cs := #[.slice Ao33 y110.length co33, .slice none 0 0, .bool false]) ?_ 1 _ rfl; (with_reducible repeat (first | refine blk_drewN ?_ _ | refine blk_drew ?_ | refine blk_alloc ?_ _)); refine blk_put (cs := #[.slice none 0 0, .slice none 0 0, .bool false]) ?_ 0 _ rfl; (with_reducible repeat (first | refine blk_drewN ?_ _ | refine blk_drew ?_ | refine blk_alloc ?_ _)); exact BK113.out⟩, ⟨tB⟩⟩
      case round =>
       clear H'
       (try clear c1); (try clear p1); (try clear q1); (try clear hx1); (try clear c2); (try clear p2); (try clear c3); (try clear c4); (try clear c4b0); (try clear c4b1); (try clear p6); (try clear c8); (try clear p10); (try clear q10); (try clear hx10); (try clear c12); (try clear c13); (try clear c15); (try clear c15b0); (try clear c16); (try clear c17); (try clear c18); (try clear c20); (try clear c20b0); (try clear c21); (try clear c21b0); (try clear c22); (try clear c23); (try clear c24); (try clear c27); (try clear c28); (try clear c35); (try clear c36); (try clear c37); (try clear hcz14_0 hcz14_1 hfz14_0 hfz14_1); (try clear hcz19_0 hcz19_1 hcz19_2 hfz19_0 hfz19_1 hfz19_2); (try clear hcz25_0 hcz25_1 hcz25_2 hfz25_0 hfz25_1 hfz25_2); (try clear hcz29_0 hcz29_1 hcz29_2 hfz29_0 hfz29_1 hfz29_2); (try clear hcz38_0 hcz38_1 hcz38_2 hfz38_0 hfz38_1 hfz38_2); (try clear hcz9_0 hcz9_1 hcz9_2 hfz9_0 hfz9_1 hfz9_2); (try clear hx106_0); (try clear hx106_1); (try clear hx106_2); (try clear p106); (try clear q106)
       obtain ⟨x10_3, x103002_3, x114000_3, x114001_3, x114002_3, u114000, u114001, rfl, HA, HK3, HO_114000, HO_114001, BK101, BK102, BK105, BK113, HB⟩ := hrel
       cases gk with
       | zero => exact absurd HA.out (by simp [r14_Explore.l1])
       | succ k3 =>
        have H := HA.out
        clear HA
        simp only [r14_Explore.l1] at H
        by_cases c39 : x10_3 < (x114000_3.length : Int)
        ·rw [if_pos c39] at H
         have c39b0 := decide_eq_true c39
         clear c39
         replace H := tF H
         obtain ⟨c40, H⟩ := H
         have c40b0 := decide_eq_true c40
         clear c40
         replace H := Option.bind_eq_some_iff.mp H
         obtain ⟨t115, A410, H⟩ := H
         (try dsimp only at H)
         have A41 := Aside0.mk A410
         clear A410
         have H' := Aside0.mk H
         clear H
         have hnb42 := NB113_101.out
         have hnc42 := NB101_113.out
         have hnb43 := NB113_102.out
         have hnc43 := NB102_113.out
         have hnb44 := NB113_105.out
         have hnc44 := NB105_113.out
         obtain ⟨hcz45_0, hcz45_1, hcz45_2, hfz45_0, hfz45_1, hfz45_2⟩ := zc3 BK113
         obtain ⟨Ao46, co46, eo46⟩ := Kd.N_slice HO_114000.out
         subst eo46
         try go_wp2
         replace HO_114000 := Aside0.mk (Kd.N_drew HO_114000.out)
         replace HO_114001 := Aside0.mk (Kd.R_drew HO_114001.out)
         replace BK101 := Aside0.mk (blk_drew BK101.out)
         replace BK102 := Aside0.mk (blk_drew BK102.out)
         replace BK105 := Aside0.mk (blk_drew BK105.out)
         replace BK113 := Aside0.mk (blk_drew BK113.out)
         replace HB := Aside0.mk (below_drew1 HB.out)
         have p114 : 0 ≤ (x10_3 : Int) := tD
         have q114 : x10_3 < (x114000_3.length : Int) := tD
         obtain ⟨ad114, A114_0, c114_0, e114, hx114_0, hl114_0, hi114_0⟩ := at_L3 (Kd.N_reads' HO_114000.out).2.2 x10_3 p114 q114
         cases e114
         obtain ⟨ce114, hce114, hMe114, hcc114⟩ := Kd.N_get HO_114000.out [] x10_3 p114 (by first | exact q114 | exact tD | (have e_ := (Kd.N_reads' HO_114000.out).1; omega))
         obtain ⟨ua114_0, uc114_0, rfl, ul114_0, ge114_0⟩ := Kd.FK_slice_open hMe114
         have hv114_0 := hcc114 0 _ rfl
         rw [Nat.add_zero, show ((Kd.slice 3 (Kd.int .i64))).sz = 1 from rfl, Nat.mul_one] at hv114_0
         replace hv114_0 := Option.some.inj (hv114_0.symm.trans hx114_0)
         injection hv114_0 with hva_ hvn_ hvc_
         rw [hva_] at ge114_0
         rw [hvc_] at ul114_0
         have HL114_0 := Aside0.mk (show Kd.V (Kd.int .i64) 3 _ w.heap.size _ _ (rd_L3 x114000_3 x10_3) from Kd.V_mk ul114_0 ge114_0)
         clear hva_ hvn_ hvc_ ge114_0 ul114_0
         clear hcc114 hce114
         have HR114_0 := Aside0.mk hi114_0
         have HC114_0 := Aside0.mk hl114_0
         clear hi114_0 hl114_0
         replace p114 := eq_true p114
         replace q114 := eq_true q114
         refine sS7 8 [] rfl r14_Explore.tab15 r14_Explore.bits15 ⟨tz BK101 0, tz BK101 1, tz BK101 2, tz BK113 0, tz BK113 1, tz BK113 2, hx114_0⟩ (fun hHeld HT_ HW_ => ?_)
         generalize wr.drew = w47 at HO_114000 HO_114001 BK101 BK102 BK105 BK113 HB HL114_0 HR114_0 hx114_0 hHeld ⊢
         refine sP 1 58 HT_ rfl rfl ?_
         refine sP 3 60 HT_ rfl rfl ?_
         refine sT 0 57 HT_ HW_ rfl rfl hHeld ?_
         refine sT 2 59 HT_ HW_ rfl rfl hHeld ?_
         refine sP 4 61 HT_ rfl rfl ?_
         refine sT 5 62 HT_ HW_ rfl rfl hHeld ?_
         refine sO 6 (some 63) HT_ rfl rfl (fun K hK => ?_)
         refine goes_ Try.func44 (by kernel_rfl) rfl #[.agg #[.string a0_0, .slice A0_1 l0_1.length c0_1, .slice A0_2 l0_2.length c0_2], .slice A114_0 (rd_L3 x114000_3 x10_3).length c114_0] (by rfl) rfl rfl (by (try simp only [List.map_toArray, List.map_cons, List.map_nil]); first | done | rfl | (simp only [List.length_drop, List.length_take]; rfl)) ?_
         (with_reducible refine (r11_Fires.calls k3 a0_0 _ _ l0_1 _ _ l0_2 _ _ (rd_L3 x114000_3 x10_3) t115 _ ?side1 ?side2 ?side3 ?side4 ?side5 ?side6 A41.out).mono ?_)
         (case side1 => exact tG HR0_1 HB)
         (case side2 => exact HC0_1.out)
         (case side3 => exact tG HR0_2 HB)
         (case side4 => exact HC0_2.out)
         (case side5 => repeat (first | exact (by repeat (first | (with_reducible exact HR114_0.out) | (with_reducible refine Kd.C_alloc ?_ _) | (with_reducible refine Kd.C_drewN ?_ _) | (with_reducible refine Kd.C_drew ?_) | exact HR114_0.out)) | (with_reducible refine Kd.C_alloc ?_ _) | (with_reducible refine Kd.C_drewN ?_ _) | (with_reducible refine Kd.C_drew ?_)))
         (case side6 => exact HC114_0.out)
         rintro e w48 ⟨v116, rfl, ho0, hb⟩
         have HS6_ := (hb.cell (World.block_lt_of_cell? _ _ (hHeld.2.2.2.2.2.2))).trans (hHeld.2.2.2.2.2.2)
         refine ⟨_, rfl, ?_⟩
         replace HO_114000 := Aside0.mk (Kd.N_elder' (tR HO_114000) (Kd.R_base ho0) hb)
         replace HO_114001 := Aside0.mk (Kd.R_below (tR HO_114001) hb)
         replace HL114_0 := Aside0.mk (Kd.V_elder' (by (with_reducible repeat (first | apply Kd.V_alloc | apply Kd.V_drewN | apply Kd.V_drew)); exact HL114_0.out) (Kd.R_base ho0) hb)
         have HO117 := Aside0.mk (Kd.R_lower (Kd.R_newM (M := fun k_ => (w.heap.size ≤ k_)) ho0 (below_size (tB)) (fun k_ h_ => h_)) (below_size (tB)))
         replace BK101 := tL BK101 hb
         replace BK102 := tL BK102 hb
         replace BK105 := tL BK105 hb
         replace BK113 := tL BK113 hb
         replace HR114_0 := Aside0.mk (Kd.C_below (by repeat (first | (with_reducible exact HR114_0.out) | (with_reducible refine Kd.C_alloc ?_ _) | (with_reducible refine Kd.C_drewN ?_ _) | (with_reducible refine Kd.C_drew ?_) | exact HR114_0.out)) hb)
         replace HB := tA HB hb
         (try clear hb)
         (try clear hb2)
         (try clear hk)
         (try clear hi)
         (try clear ho0)
         refine hK.out _ _ ⟨tz BK101 0, tz BK101 1, tz BK101 2, tz BK113 0, tz BK113 1, tz BK113 2, HS6_⟩ (fun hHeld => ?_)
         clear hK K
         refine sN 63 ?_
         refine sP 7 11 HT_ rfl rfl ?_
         refine sD HT_ ?_
         try go_wp2
         go_loopg [12] k3 (fun kq v12 w' => ∃ (x12_4 : Int) (x103002_4 : Bool) (x114000_4 : List (List Int)) (x114001_4 : List (S80)) (x114002_4 : Bool) (u114000 : Value) (u114001 : Value), v12 = .int .i64 x12_4 ∧ Aside0 (r14_Explore.l2 kq a1 x10_3 t115 x12_4 a0_0 l0_1 l0_2 x114000_4 x114001_4 x114002_4 = some (r1, r2, r3, r4)) ∧ Aside0 (kq ≤ k3) ∧ Aside0 (Kd.R (Kd.int .i64) 3 w' w.heap.size (fun k_ => (w.heap.size ≤ k_)) v116 t115) ∧ Aside0 (Kd.N (Kd.slice 3 (Kd.int .i64)) 28 w' w.heap.size (fun k_ => (w.heap.size ≤ k_) ∧ some k_ ≠ (v116 : Value).ownBlock ∧ some k_ ≠ (u114001 : Value).ownBlock ∧ k_ ≠ gb101 ∧ k_ ≠ gb102 ∧ k_ ≠ gb105 ∧ k_ ≠ gb113) u114000 x114000_4) ∧ Aside0 (Kd.R k80 80 w' w.heap.size (fun k_ => (w.heap.size ≤ k_)) u114001 x114001_4) ∧ Aside0 (w'.heap[gb101]? = some (.cells #[.string a0_0, (.slice A0_1 l0_1.length c0_1), (.slice A0_2 l0_2.length c0_2)] 39 (0, 0))) ∧ Aside0 (w'.heap[gb102]? = some (.cells #[(.slice none 0 0), (.slice none 0 0), .bool x103002_4] 25 (0, 0))) ∧ Aside0 (w'.heap[gb105]? = some (.cells #[.int .i64 t103, .int .i64 t104] 46 (0, 0))) ∧ Aside0 (w'.heap[gb113]? = some (.cells #[u114000, u114001, .bool x114002_4] 25 (0, 0))) ∧ Aside0 (Below w.heap.size w w'))
         case atStart => exact ⟨(0), (x103002_3), (x114000_3), (x114001_3), (x114002_3), (.slice (some ad114) x114000_3.length co46), (u114001), tU, H', ⟨Nat.le_refl _⟩, ⟨by (with_reducible repeat (first | apply Kd.R_alloc | apply Kd.R_drewN | apply Kd.R_drew)); exact Kd.R_mono HO117.out (fun _ hk => hk.1)⟩, ⟨by (with_reducible repeat (first | apply Kd.N_alloc | apply Kd.N_drewN | apply Kd.N_drew)); exact Kd.N_mono HO_114000.out (fun _ hk => ⟨hk.1.1, ⟨hk.2, ⟨hk.1.2.1, ⟨hk.1.2.2.1, ⟨hk.1.2.2.2.1, ⟨hk.1.2.2.2.2.1, hk.1.2.2.2.2.2⟩⟩⟩⟩⟩⟩)⟩, ⟨tR HO_114001⟩, ⟨tK BK101⟩, ⟨tK BK102⟩, ⟨tK BK105⟩, ⟨tK BK113⟩, ⟨tB⟩⟩
         case round =>
          clear H'
          (try clear c1); (try clear p1); (try clear q1); (try clear hx1); (try clear c2); (try clear p2); (try clear c3); (try clear c4); (try clear c4b0); (try clear c4b1); (try clear p6); (try clear c8); (try clear p10); (try clear q10); (try clear hx10); (try clear c11); (try clear p11); (try clear q11); (try clear hx11); (try clear c12); (try clear c13); (try clear c15); (try clear c15b0); (try clear c16); (try clear c17); (try clear c18); (try clear c20); (try clear c20b0); (try clear c21); (try clear c21b0); (try clear c22); (try clear c23); (try clear c24); (try clear c27); (try clear c28); (try clear c35); (try clear c36); (try clear c37); (try clear c39); (try clear c39b0); (try clear c40); (try clear c40b0); (try clear c42); (try clear c43); (try clear c44); (try clear hcz14_0 hcz14_1 hfz14_0 hfz14_1); (try clear hcz19_0 hcz19_1 hcz19_2 hfz19_0 hfz19_1 hfz19_2); (try clear hcz25_0 hcz25_1 hcz25_2 hfz25_0 hfz25_1 hfz25_2); (try clear hcz29_0 hcz29_1 hcz29_2 hfz29_0 hfz29_1 hfz29_2); (try clear hcz38_0 hcz38_1 hcz38_2 hfz38_0 hfz38_1 hfz38_2); (try clear hcz45_0 hcz45_1 hcz45_2 hfz45_0 hfz45_1 hfz45_2); (try clear hcz9_0 hcz9_1 hcz9_2 hfz9_0 hfz9_1 hfz9_2); (try clear hx106_0); (try clear hx106_1); (try clear hx106_2); (try clear hx114_0); (try clear p106); (try clear p114); (try clear q106); (try clear q114)
          obtain ⟨x12_4, x103002_4, x114000_4, x114001_4, x114002_4, u114000, u114001, rfl, HA, HK4, HO_11, HO_114000, HO_114001, BK101, BK102, BK105, BK113, HB⟩ := hrel
          cases gk with
          | zero => exact absurd HA.out (by simp [r14_Explore.l2])
          | succ k4 =>
           have H := HA.out
           clear HA
           simp only [r14_Explore.l2] at H
           by_cases c49 : x12_4 < (t115.length : Int)
           ·rw [if_pos c49] at H
            have c49b0 := decide_eq_true c49
            clear c49
            replace H := tF H
            obtain ⟨c50, H⟩ := H
            have c50b0 := decide_eq_true c50
            clear c50
            replace H := tF H
            obtain ⟨c51, H⟩ := H
            have c51b0 := decide_eq_true c51
            clear c51
            replace H := tF H
            obtain ⟨c52, H⟩ := H
            have c52b0 := decide_eq_true c52
            clear c52
            replace H := Option.bind_eq_some_iff.mp H
            obtain ⟨⟨t120, t123⟩, A530, H⟩ := H
            (try dsimp only at H)
            have A53 := Aside0.mk A530
            clear A530
            by_cases c54 : t123 = true
            ·subst c54
             rw [if_pos rfl] at H
             replace H := Option.bind_eq_some_iff.mp H
             obtain ⟨t124, A550, H⟩ := H
             (try dsimp only at H)
             have A55 := Aside0.mk A550
             clear A550
             have HC56 := Aside0.mk H
             clear H
             obtain ⟨Ao57, co57, eo57⟩ := Kd.R_slice HO_11.out
             subst eo57
             try go_wp2
             replace HO_11 := Aside0.mk (Kd.R_drew HO_11.out)
             replace HO_114000 := Aside0.mk (Kd.N_drew HO_114000.out)
             replace HO_114001 := Aside0.mk (Kd.R_drew HO_114001.out)
             replace BK101 := Aside0.mk (blk_drew BK101.out)
             replace BK102 := Aside0.mk (blk_drew BK102.out)
             replace BK105 := Aside0.mk (blk_drew BK105.out)
             replace BK113 := Aside0.mk (blk_drew BK113.out)
             replace HB := Aside0.mk (below_drew1 HB.out)
             obtain ⟨Ao59, co59, eo59⟩ := Kd.N_slice HO_114000.out
             (first | subst eo59 | (injection eo59 with f1_ f2_ f3_; have f4_ := f1_.symm; have f5_ := f3_.symm; clear f1_ f2_ f3_; subst f4_; subst f5_))
             have p118 : 0 ≤ (x10_3 : Int) := tD
             have q118 : x10_3 < (x114000_4.length : Int) := tD
             obtain ⟨ad118, A118_0, c118_0, e118, hx118_0, hl118_0, hi118_0⟩ := at_L3 (Kd.N_reads' HO_114000.out).2.2 x10_3 p118 q118
             cases e118
             obtain ⟨ce118, hce118, hMe118, hcc118⟩ := Kd.N_get HO_114000.out [] x10_3 p118 (by first | exact q118 | exact tD | (have e_ := (Kd.N_reads' HO_114000.out).1; omega))
             obtain ⟨ua118_0, uc118_0, rfl, ul118_0, ge118_0⟩ := Kd.FK_slice_open hMe118
             have hv118_0 := hcc118 0 _ rfl
             rw [Nat.add_zero, show ((Kd.slice 3 (Kd.int .i64))).sz = 1 from rfl, Nat.mul_one] at hv118_0
             replace hv118_0 := Option.some.inj (hv118_0.symm.trans hx118_0)
             injection hv118_0 with hva_ hvn_ hvc_
             rw [hva_] at ge118_0
             rw [hvc_] at ul118_0
             have HL118_0 := Aside0.mk (show Kd.V (Kd.int .i64) 3 _ w.heap.size _ _ (rd_L3 x114000_4 x10_3) from Kd.V_mk ul118_0 ge118_0)
             clear hva_ hvn_ hvc_ ge118_0 ul118_0
             clear hcc118 hce118
             have HR118_0 := Aside0.mk hi118_0
             have HC118_0 := Aside0.mk hl118_0
             clear hi118_0 hl118_0
             replace p118 := eq_true p118
             replace q118 := eq_true q118
             have p119 : 0 ≤ (x12_4 : Int) := tD
             have q119 : x12_4 < (t115.length : Int) := tD
             obtain ⟨ad119, e119, hx119_0⟩ := Kd.at_int (Kd.R_reads' HO_11.out).2.2 x12_4 p119 q119
             cases e119
             replace p119 := eq_true p119
             replace q119 := eq_true q119
             refine sS8 16 [] rfl r14_Explore.tab19 r14_Explore.bits19 ⟨tz BK101 0, tz BK101 1, tz BK101 2, tz BK113 0, tz BK113 1, tz BK113 2, hx118_0, hx119_0⟩ (fun hHeld HT_ HW_ => ?_)
             generalize wr.drew = w58 at HO_11 HO_114000 HO_114001 BK101 BK102 BK105 BK113 HB HL118_0 HR118_0 hx118_0 hx119_0 hHeld ⊢
             refine sP 1 72 HT_ rfl rfl ?_
             refine sP 3 74 HT_ rfl rfl ?_
             refine sP 6 77 HT_ rfl rfl ?_
             refine sP 7 78 HT_ rfl rfl ?_
             refine sP 8 79 HT_ rfl rfl ?_
             refine sT 0 71 HT_ HW_ rfl rfl hHeld ?_
             refine sT 2 73 HT_ HW_ rfl rfl hHeld ?_
             refine sP 4 75 HT_ rfl rfl ?_
             refine sT 5 76 HT_ HW_ rfl rfl hHeld ?_
             refine sT 9 80 HT_ HW_ rfl rfl hHeld ?_
             refine sO 10 (some 81) HT_ rfl rfl (fun K hK => ?_)
             refine goes_ Try.func45 (by kernel_rfl) rfl #[.agg #[.string a0_0, .slice A0_1 l0_1.length c0_1, .slice A0_2 l0_2.length c0_2], .slice A118_0 (rd_L3 x114000_4 x10_3).length c118_0, .int .i64 (rd t115 x12_4)] (by rfl) rfl rfl (by (try simp only [List.map_toArray, List.map_cons, List.map_nil]); first | done | rfl | (simp only [List.length_drop, List.length_take]; rfl)) ?_
             (with_reducible refine (r11_After.calls k4 a0_0 _ _ l0_1 _ _ l0_2 _ _ (rd_L3 x114000_4 x10_3) (rd t115 x12_4) t120 true _ ?side1 ?side2 ?side3 ?side4 ?side5 ?side6 A53.out).mono ?_)
             (case side1 => exact tG HR0_1 HB)
             (case side2 => exact HC0_1.out)
             (case side3 => exact tG HR0_2 HB)
             (case side4 => exact HC0_2.out)
             (case side5 => repeat (first | exact (by repeat (first | (with_reducible exact HR118_0.out) | (with_reducible refine Kd.C_alloc ?_ _) | (with_reducible refine Kd.C_drewN ?_ _) | (with_reducible refine Kd.C_drew ?_) | exact HR118_0.out)) | (with_reducible refine Kd.C_alloc ?_ _) | (with_reducible refine Kd.C_drewN ?_ _) | (with_reducible refine Kd.C_drew ?_)))
             (case side6 => exact HC118_0.out)
             rintro e w60 ⟨v121, rfl, ho0, hb⟩
             have HS6_ := (hb.cell (World.block_lt_of_cell? _ _ (hHeld.2.2.2.2.2.2.1))).trans (hHeld.2.2.2.2.2.2.1)
             have HS7_ := (hb.cell (World.block_lt_of_cell? _ _ (hHeld.2.2.2.2.2.2.2))).trans (hHeld.2.2.2.2.2.2.2)
             refine ⟨_, rfl, ?_⟩
             replace HO_114000 := Aside0.mk (Kd.N_elder' (tR HO_114000) (Kd.R_base ho0) hb)
             replace HO_114001 := Aside0.mk (Kd.R_below (tR HO_114001) hb)
             replace HL118_0 := Aside0.mk (Kd.V_elder' (by (with_reducible repeat (first | apply Kd.V_alloc | apply Kd.V_drewN | apply Kd.V_drew)); exact HL118_0.out) (Kd.R_base ho0) hb)
             have HO122 := Aside0.mk (Kd.R_lower (Kd.R_new' (Kd.R_newM (M := fun k_ => (w.heap.size ≤ k_)) ho0 (below_size (tB)) (fun k_ h_ => h_)) (Kd.R_lt (tR HO_11))) (below_size (tB)))
             replace HO_11 := Aside0.mk (Kd.R_elder' (tR HO_11) (Kd.R_base ho0) hb)
             replace BK101 := tL BK101 hb
             replace BK102 := tL BK102 hb
             replace BK105 := tL BK105 hb
             replace BK113 := tL BK113 hb
             replace HR118_0 := Aside0.mk (Kd.C_below (by repeat (first | (with_reducible exact HR118_0.out) | (with_reducible refine Kd.C_alloc ?_ _) | (with_reducible refine Kd.C_drewN ?_ _) | (with_reducible refine Kd.C_drew ?_) | exact HR118_0.out)) hb)
             replace HB := tA HB hb
             (try clear hb)
             (try clear hb2)
             (try clear hk)
             (try clear hi)
             (try clear ho0)
             refine hK.out _ _ ⟨tz BK101 0, tz BK101 1, tz BK101 2, tz BK113 0, tz BK113 1, tz BK113 2, HS6_, HS7_⟩ (fun hHeld => ?_)
             clear hK K
             refine sN 81 ?_
             refine sP 11 70 HT_ rfl rfl ?_
             refine sP 12 82 HT_ rfl rfl ?_
             refine sP 13 83 HT_ rfl rfl ?_
             refine sP 14 13 HT_ rfl rfl ?_
             refine sP 15 14 HT_ rfl rfl ?_
             refine sD HT_ ?_
             have hnb61 := NB113_101.out
             have hnc61 := NB101_113.out
             have hnb62 := NB113_102.out
             have hnc62 := NB102_113.out
             have hnb63 := NB113_105.out
             have hnc63 := NB105_113.out
             obtain ⟨hcz64_0, hcz64_1, hcz64_2, hfz64_0, hfz64_1, hfz64_2⟩ := zc3 BK113
             obtain ⟨Ao65, co65, eo65⟩ := Kd.R_slice HO122.out
             subst eo65
             go_upto_region 23 with (first | ((with_reducible refine gate_callee (f := 32) rfl ?_); refine goesL_ (some 90) rfl rfl Try.func32 (by kernel_rfl) rfl #[.slice (some ad118) x114000_4.length co59, .slice Ao65 t120.length co65] rfl (by (try simp only [List.map_toArray, List.map_cons, List.map_nil]); first | done | rfl | (simp only [List.length_drop, List.length_take]; rfl)) ?_; (with_reducible refine (r14_Find.calls k4 _ _ x114000_4 _ _ t120 t124 _ (tC (Kd.N_reads' HO_114000.out).2.2) ((Kd.N_reads' HO_114000.out).2.1) (tC (Kd.R_reads' HO122.out).2.2) ((Kd.R_reads' HO122.out).2.1) A55.out).mono ?_); rintro e w' ⟨rfl, ⟨nd, rfl⟩⟩; refine ⟨_, rfl, ?_⟩))
             (try simp only [Act.put, List.setIfInBounds_toArray, List.set_cons_zero, List.set_cons_succ])
             go_cut [99] (fun v99 wc => ∃ (kq : Nat) (x99_55 : Bool), v99 = .bool x99_55 ∧ Aside0 (r14_Explore.j4 kq a1 x10_3 t115 x12_4 t120 t124 x99_55 a0_0 l0_1 l0_2 x114000_4 x114001_4 x114002_4 = some (r1, r2, r3, r4)) ∧ Aside0 (kq ≤ k4) ∧ Aside0 (Kd.R (Kd.int .i64) 3 wc w.heap.size (fun k_ => (w.heap.size ≤ k_) ∧ some k_ ≠ ((.slice Ao65 t120.length co65) : Value).ownBlock) (.slice (some ad119) t115.length co57) t115) ∧ Aside0 (Kd.R (Kd.int .i64) 3 wc w.heap.size (fun k_ => (w.heap.size ≤ k_) ∧ some k_ ≠ ((.slice (some ad119) t115.length co57) : Value).ownBlock) (.slice Ao65 t120.length co65) t120) ∧ Aside0 (Kd.N (Kd.slice 3 (Kd.int .i64)) 28 wc w.heap.size (fun k_ => (w.heap.size ≤ k_) ∧ some k_ ≠ ((.slice (some ad119) t115.length co57) : Value).ownBlock ∧ some k_ ≠ ((.slice Ao65 t120.length co65) : Value).ownBlock ∧ some k_ ≠ (u114001 : Value).ownBlock ∧ k_ ≠ gb101 ∧ k_ ≠ gb102 ∧ k_ ≠ gb105 ∧ k_ ≠ gb113) (.slice (some ad118) x114000_4.length co59) x114000_4) ∧ Aside0 (Kd.R k80 80 wc w.heap.size (fun k_ => (w.heap.size ≤ k_)) u114001 x114001_4) ∧ Aside0 (wc.heap[gb101]? = some (.cells #[.string a0_0, (.slice A0_1 l0_1.length c0_1), (.slice A0_2 l0_2.length c0_2)] 39 (0, 0))) ∧ Aside0 (wc.heap[gb102]? = some (.cells #[(.slice none 0 0), (.slice none 0 0), .bool x103002_4] 25 (0, 0))) ∧ Aside0 (wc.heap[gb105]? = some (.cells #[.int .i64 t103, .int .i64 t104] 46 (0, 0))) ∧ Aside0 (wc.heap[gb113]? = some (.cells #[(.slice (some ad118) x114000_4.length co59), u114001, .bool x114002_4] 25 (0, 0))) ∧ Aside0 (Kd.C (Kd.int .i64) wc A118_0 (rd_L3 x114000_4 x10_3).length (rd_L3 x114000_4 x10_3)) ∧ Aside0 (Below w.heap.size w wc))
             case first =>
              have H := HC56.out
              clear HC56
              by_cases c66 : t124 < 0
              ·rw [if_pos c66] at H
               have c66b0 := decide_eq_true c66
               clear c66
               (first | rw [c66b0] | (simp only [i64_w, i32_w]; rw [c66b0]) | skip)
               have H' := Aside0.mk H
               clear H
               have hnb67 := NB113_101.out
               have hnc67 := NB101_113.out
               have hnb68 := NB113_102.out
               have hnc68 := NB102_113.out
               have hnb69 := NB113_105.out
               have hnc69 := NB105_113.out
               obtain ⟨hcz70_0, hcz70_1, hcz70_2, hfz70_0, hfz70_1, hfz70_2⟩ := zc3 BK113
               go_wp2
               go_meet
               case rel => exact ⟨_, (decide ((x114000_4.length : Int) ≥ a1)), tU, H', ⟨by have := HJ4.out; have := HK2.out; have := HK3.out; have := HK4.out; first | omega | exact Nat.le_refl _⟩, ⟨tR HO_11⟩, ⟨by (with_reducible repeat (first | apply Kd.R_alloc | apply Kd.R_drewN | apply Kd.R_drew)); exact Kd.R_mono HO122.out (fun _ hk => ⟨hk.1.1, hk.2⟩)⟩, ⟨by (with_reducible repeat (first | apply Kd.N_alloc | apply Kd.N_drewN | apply Kd.N_drew)); exact Kd.N_mono HO_114000.out (fun _ hk => ⟨hk.1.1, ⟨hk.1.2.1, ⟨hk.2, ⟨hk.1.2.2.1, ⟨hk.1.2.2.2.1, ⟨hk.1.2.2.2.2.1, ⟨hk.1.2.2.2.2.2.1, hk.1.2.2.2.2.2.2⟩⟩⟩⟩⟩⟩⟩)⟩, ⟨tR HO_114001⟩, ⟨tK BK101⟩, ⟨tK BK102⟩, ⟨tK BK105⟩, ⟨tK BK113⟩, ⟨by repeat (first | (with_reducible exact HR118_0.out) | (with_reducible refine Kd.C_alloc ?_ _) | (with_reducible refine Kd.C_drewN ?_ _) | (with_reducible refine Kd.C_drew ?_) | exact HR118_0.out)⟩, ⟨tB⟩⟩
              rw [if_neg c66] at H
              have c66b0 := decide_eq_false c66
              clear c66
              (first | rw [c66b0] | (simp only [i64_w, i32_w]; rw [c66b0]) | skip)
              have H' := Aside0.mk H
              clear H
              go_wp2
              go_meet
              case rel => exact ⟨_, (false), tU, H', ⟨by have := HJ4.out; have := HK2.out; have := HK3.out; have := HK4.out; first | omega | exact Nat.le_refl _⟩, ⟨tR HO_11⟩, ⟨by (with_reducible repeat (first | apply Kd.R_alloc | apply Kd.R_drewN | apply Kd.R_drew)); exact Kd.R_mono HO122.out (fun _ hk => ⟨hk.1.1, hk.2⟩)⟩, ⟨by (with_reducible repeat (first | apply Kd.N_alloc | apply Kd.N_drewN | apply Kd.N_drew)); exact Kd.N_mono HO_114000.out (fun _ hk => ⟨hk.1.1, ⟨hk.1.2.1, ⟨hk.2, ⟨hk.1.2.2.1, ⟨hk.1.2.2.2.1, ⟨hk.1.2.2.2.2.1, ⟨hk.1.2.2.2.2.2.1, hk.1.2.2.2.2.2.2⟩⟩⟩⟩⟩⟩⟩)⟩, ⟨tR HO_114001⟩, ⟨tK BK101⟩, ⟨tK BK102⟩, ⟨tK BK105⟩, ⟨tK BK113⟩, ⟨by repeat (first | (with_reducible exact HR118_0.out) | (with_reducible refine Kd.C_alloc ?_ _) | (with_reducible refine Kd.C_drewN ?_ _) | (with_reducible refine Kd.C_drew ?_) | exact HR118_0.out)⟩, ⟨tB⟩⟩
             case rest =>
              clear HC56
              (try clear c1); (try clear p1); (try clear q1); (try clear hx1); (try clear c2); (try clear p2); (try clear c3); (try clear c4); (try clear c4b0); (try clear c4b1); (try clear c5); (try clear c6); (try clear p6); (try clear c8); (try clear p10); (try clear q10); (try clear hx10); (try clear c11); (try clear p11); (try clear q11); (try clear hx11); (try clear c12); (try clear c13); (try clear c15); (try clear c15b0); (try clear c16); (try clear c17); (try clear c18); (try clear c20); (try clear c20b0); (try clear c21); (try clear c21b0); (try clear c22); (try clear c23); (try clear c24); (try clear c27); (try clear c28); (try clear c32); (try clear c35); (try clear c36); (try clear c37); (try clear c39); (try clear c39b0); (try clear c40); (try clear c40b0); (try clear c42); (try clear c43); (try clear c44); (try clear c45); (try clear c49); (try clear c49b0); (try clear c50); (try clear c50b0); (try clear c51); (try clear c51b0); (try clear c52); (try clear c52b0); (try clear c54); (try clear c61); (try clear c62); (try clear c63); (try clear c66); (try clear c66b0); (try clear c67); (try clear c68); (try clear c69); (try clear hcz14_0 hcz14_1 hfz14_0 hfz14_1); (try clear hcz19_0 hcz19_1 hcz19_2 hfz19_0 hfz19_1 hfz19_2); (try clear hcz25_0 hcz25_1 hcz25_2 hfz25_0 hfz25_1 hfz25_2); (try clear hcz29_0 hcz29_1 hcz29_2 hfz29_0 hfz29_1 hfz29_2); (try clear hcz38_0 hcz38_1 hcz38_2 hfz38_0 hfz38_1 hfz38_2); (try clear hcz45_0 hcz45_1 hcz45_2 hfz45_0 hfz45_1 hfz45_2); (try clear hcz64_0 hcz64_1 hcz64_2 hfz64_0 hfz64_1 hfz64_2); (try clear hcz70_0 hcz70_1 hcz70_2 hfz70_0 hfz70_1 hfz70_2); (try clear hcz9_0 hcz9_1 hcz9_2 hfz9_0 hfz9_1 hfz9_2); (try clear hx106_0); (try clear hx106_1); (try clear hx106_2); (try clear hx114_0); (try clear hx118_0); (try clear hx119_0); (try clear p106); (try clear p114); (try clear p118); (try clear p119); (try clear q106); (try clear q114); (try clear q118); (try clear q119)
              obtain ⟨kq, x99_55, rfl, HA, HJ55, HO_11, HO_13, HO_114000, HO_114001, BK101, BK102, BK105, BK113, HR118_0, HB⟩ := hcut
              cases kq with
              | zero => exact absurd HA.out (by simp [r14_Explore.j4])
              | succ kj55 =>
               have H := HA.out
               clear HA
               simp only [r14_Explore.j4] at H
               by_cases c71 : x99_55 = true
               ·subst c71
                rw [if_pos rfl] at H
                have H' := Aside0.mk H
                clear H
                have hnb72 := NB113_101.out
                have hnc72 := NB101_113.out
                have hnb73 := NB113_102.out
                have hnc73 := NB102_113.out
                have hnb74 := NB113_105.out
                have hnc74 := NB105_113.out
                obtain ⟨hcz75_0, hcz75_1, hcz75_2, hfz75_0, hfz75_1, hfz75_2⟩ := zc3 BK113
                go_wp2
                go_roundg kj55
                case measure => have := HJ4.out; have := HK2.out; have := HK3.out; have := HK4.out; have := HJ55.out; omega
                case rel => exact ⟨(wrap64 (x12_4 + 1)), (x103002_4), (x114000_4), (x114001_4), (false), (.slice (some ad118) x114000_4.length co59), (u114001), tU, H', ⟨by have := HJ4.out; have := HK2.out; have := HK3.out; have := HK4.out; have := HJ55.out; omega⟩, ⟨by (with_reducible repeat (first | apply Kd.R_alloc | apply Kd.R_drewN | apply Kd.R_drew)); exact Kd.R_mono (Kd.R_far (p := ⟨gb113, 2, none⟩) (Kd.R_types HO_11.out BK113.out (by decide)) (fun _ hk => hk.2) (.bool false)) (fun _ hk => hk.1.1)⟩, ⟨by (with_reducible repeat (first | apply Kd.N_alloc | apply Kd.N_drewN | apply Kd.N_drew)); exact Kd.N_mono (Kd.N_far (p := ⟨gb113, 2, none⟩) (Kd.N_mono HO_114000.out (fun k_ hk => (⟨hk, hk.2.2.2.2.2.2.2⟩ : _ ∧ k_ ≠ gb113))) (fun _ hk => hk.2) (.bool false)) (fun _ hk => ⟨hk.1.1, ⟨hk.1.2.1, ⟨hk.1.2.2.2.1, ⟨hk.1.2.2.2.2.1, ⟨hk.1.2.2.2.2.2.1, ⟨hk.1.2.2.2.2.2.2.1, hk.1.2.2.2.2.2.2.2⟩⟩⟩⟩⟩⟩)⟩, ⟨by (with_reducible repeat (first | apply Kd.R_alloc | apply Kd.R_drewN | apply Kd.R_drew)); exact Kd.R_mono (Kd.R_far (p := ⟨gb113, 2, none⟩) (Kd.R_types HO_114001.out BK113.out (by decide)) (fun _ hk => hk.2) (.bool false)) (fun _ hk => hk.1)⟩, ⟨by (with_reducible repeat (first | refine blk_drewN ?_ _ | refine blk_drew ?_ | refine blk_alloc ?_ _)); refine blk_far ?_ NB101_113.out _; (with_reducible repeat (first | refine blk_drewN ?_ _ | refine blk_drew ?_ | refine blk_alloc ?_ _)); exact BK101.out⟩, ⟨by (with_reducible repeat (first | refine blk_drewN ?_ _ | refine blk_drew ?_ | refine blk_alloc ?_ _)); refine blk_far ?_ NB102_113.out _; (with_reducible repeat (first | refine blk_drewN ?_ _ | refine blk_drew ?_ | refine blk_alloc ?_ _)); exact BK102.out⟩, ⟨by (with_reducible repeat (first | refine blk_drewN ?_ _ | refine blk_drew ?_ | refine blk_alloc ?_ _)); refine blk_far ?_ NB105_113.out _; (with_reducible repeat (first | refine blk_drewN ?_ _ | refine blk_drew ?_ | refine blk_alloc ?_ _)); exact BK105.out⟩, ⟨by (with_reducible repeat (first | refine blk_drewN ?_ _ | refine blk_drew ?_ | refine blk_alloc ?_ _)); refine blk_put (cs := #[.slice (some ad118) x114000_4.length co59, u114001, .bool x114002_4]) ?_ 2 _ rfl; (with_reducible repeat (first | refine blk_drewN ?_ _ | refine blk_drew ?_ | refine blk_alloc ?_ _)); exact BK113.out⟩, ⟨tB⟩⟩
               replace c71 := Bool.eq_false_iff.mpr c71
               subst c71
               rw [if_neg (show ¬ (false = true) by decide)] at H
               by_cases c76 : t124 < 0
               ·rw [if_pos c76] at H
                have c76b0 := decide_eq_true c76
                clear c76
                replace H := tF H
                obtain ⟨c77, H⟩ := H
                have LMc77 := Aside0.mk c77
                clear c77
                obtain ⟨y125, hy125⟩ : ∃ y_ : List (List Int), y_ = (x114000_4 ++ [t120]) := ⟨_, rfl⟩
                replace H : (if 0 ≤ x12_4 then (if x12_4 < (t115.length : Int) then (if x114001_4.length < 5864062014805 then (r14_Explore.l2 kj55 a1 x10_3 t115 (wrap64 (x12_4 + 1)) a0_0 l0_1 l0_2 y125 (x114001_4 ++ [(⟨x10_3, rd t115 x12_4, (x114000_4.length : Int)⟩ : S80)]) x114002_4) else (none)) else (none)) else (none)) = some (r1, r2, r3, r4) := tQ hy125 H
                have Ny125 := Aside0.mk hy125
                clear hy125
                replace H := tF H
                obtain ⟨c78, H⟩ := H
                have c78b0 := decide_eq_true c78
                clear c78
                replace H := tF H
                obtain ⟨c79, H⟩ := H
                have c79b0 := decide_eq_true c79
                clear c79
                replace H := tF H
                obtain ⟨c80, H⟩ := H
                have LMc80 := Aside0.mk c80
                clear c80
                obtain ⟨y129, hy129⟩ : ∃ y_ : List (S80), y_ = (x114001_4 ++ [(⟨x10_3, rd t115 x12_4, (x114000_4.length : Int)⟩ : S80)]) := ⟨_, rfl⟩
                replace H : (r14_Explore.l2 kj55 a1 x10_3 t115 (wrap64 (x12_4 + 1)) a0_0 l0_1 l0_2 y125 y129 x114002_4) = some (r1, r2, r3, r4) := tQ hy129 H
                have Ny129 := Aside0.mk hy129
                clear hy129
                have H' := Aside0.mk H
                clear H
                have hnb81 := NB113_101.out
                have hnc81 := NB101_113.out
                have hnb82 := NB113_102.out
                have hnc82 := NB102_113.out
                have hnb83 := NB113_105.out
                have hnc83 := NB105_113.out
                obtain ⟨hcz84_0, hcz84_1, hcz84_2, hfz84_0, hfz84_1, hfz84_2⟩ := zc3 BK113
                try go_wp2_with (first | ((with_reducible refine gate_builtin (b := .append) (xs := #[.tmp 107, .tmp 109]) rfl ?_); (try (refine gate_guard (by rfl) ?_; dsimp only)); at_builtin; refine Kd.N_append (Kd.slice 3 (Kd.int .i64)) (w0 := w) w.heap.size rfl (.tmp 107) (.tmp 109) 22 28 (.slice none 0 0) 24 rfl Try.underlying22 info28 rfl (by decide) (by omega) (.slice (some ad118) x114000_4.length co59) x114000_4 t120 [.slice Ao65 t120.length co65] (fun k_ => (w.heap.size ≤ k_) ∧ some k_ ≠ (.slice (some ad119) t115.length co57 : Value).ownBlock ∧ some k_ ≠ (u114001 : Value).ownBlock ∧ k_ ≠ gb101 ∧ k_ ≠ gb102 ∧ k_ ≠ gb105 ∧ k_ ≠ gb113) (fun k_ => ((fun k_ => (w.heap.size ≤ k_) ∧ some k_ ≠ (.slice (some ad119) t115.length co57 : Value).ownBlock ∧ some k_ ≠ (u114001 : Value).ownBlock ∧ k_ ≠ gb101 ∧ k_ ≠ gb102 ∧ k_ ≠ gb105 ∧ k_ ≠ gb113)) k_ ∧ some k_ ≠ (.slice (some ad118) x114000_4.length co59 : Value).ownBlock) rfl rfl ?aP (fun _ hk => hk) ?aF ?aO ?aB ?aS ?aL ?_; (case aP => exact (Kd.FK_slice_mk (Kd.R_reads' (Kd.R_mono (ok' := (fun k_ => ((fun k_ => (w.heap.size ≤ k_) ∧ some k_ ≠ (.slice (some ad119) t115.length co57 : Value).ownBlock ∧ some k_ ≠ (u114001 : Value).ownBlock ∧ k_ ≠ gb101 ∧ k_ ≠ gb102 ∧ k_ ≠ gb105 ∧ k_ ≠ gb113)) k_ ∧ some k_ ≠ (.slice (some ad118) x114000_4.length co59 : Value).ownBlock)) (Kd.R_types (Kd.R_types (Kd.R_types (Kd.R_types (Kd.R_apart' (Kd.R_apart' (HO_13.out) (Kd.R_typed HO_114001.out) (by decide)) (Kd.N_typed HO_114000.out) (by decide)) BK101.out (by decide)) BK102.out (by decide)) BK105.out (by decide)) BK113.out (by decide)) (fun k_ hk => ⟨⟨hk.1.1.1.1.1.1.1, ⟨hk.1.1.1.1.1.1.2, ⟨hk.1.1.1.1.1.2, ⟨hk.1.1.1.2, ⟨hk.1.1.2, ⟨hk.1.2, hk.2⟩⟩⟩⟩⟩⟩, hk.1.1.1.1.2⟩))).2.1 (Kd.R_F (Kd.R_mono (ok' := (fun k_ => ((fun k_ => (w.heap.size ≤ k_) ∧ some k_ ≠ (.slice (some ad119) t115.length co57 : Value).ownBlock ∧ some k_ ≠ (u114001 : Value).ownBlock ∧ k_ ≠ gb101 ∧ k_ ≠ gb102 ∧ k_ ≠ gb105 ∧ k_ ≠ gb113)) k_ ∧ some k_ ≠ (.slice (some ad118) x114000_4.length co59 : Value).ownBlock)) (Kd.R_types (Kd.R_types (Kd.R_types (Kd.R_types (Kd.R_apart' (Kd.R_apart' (HO_13.out) (Kd.R_typed HO_114001.out) (by decide)) (Kd.N_typed HO_114000.out) (by decide)) BK101.out (by decide)) BK102.out (by decide)) BK105.out (by decide)) BK113.out (by decide)) (fun k_ hk => ⟨⟨hk.1.1.1.1.1.1.1, ⟨hk.1.1.1.1.1.1.2, ⟨hk.1.1.1.1.1.2, ⟨hk.1.1.1.2, ⟨hk.1.1.2, ⟨hk.1.2, hk.2⟩⟩⟩⟩⟩⟩, hk.1.1.1.1.2⟩))))); (case aB => exact (tB)); (case aF => exact (fun k_ hk => ⟨(Nat.le_trans (below_size (tB)) hk), Kd.fresh' (Kd.R_lt (tR HO_11)) k_ hk, Kd.fresh' (Kd.R_lt (tR HO_114001)) k_ hk, Kd.freshB (g := gb101) (o := .cells #[.string a0_0, .slice A0_1 l0_1.length c0_1, .slice A0_2 l0_2.length c0_2] 39 (0, 0)) (tK BK101) k_ hk, Kd.freshB (g := gb102) (o := .cells #[.slice none 0 0, .slice none 0 0, .bool x103002_4] 25 (0, 0)) (tK BK102) k_ hk, Kd.freshB (g := gb105) (o := .cells #[.int .i64 t103, .int .i64 t104] 46 (0, 0)) (tK BK105) k_ hk, Kd.freshB (g := gb113) (o := .cells #[.slice (some ad118) x114000_4.length co59, u114001, .bool x114002_4] 25 (0, 0)) (tK BK113) k_ hk⟩)); (case aO => exact (by (with_reducible repeat (first | apply Kd.N_alloc | apply Kd.N_drewN | apply Kd.N_drew)); exact Kd.N_mono HO_114000.out (fun _ hk => ⟨hk.1, ⟨hk.2.1, ⟨hk.2.2.2.1, ⟨hk.2.2.2.2.1, ⟨hk.2.2.2.2.2.1, ⟨hk.2.2.2.2.2.2.1, hk.2.2.2.2.2.2.2⟩⟩⟩⟩⟩⟩))); (case aS => exact (below_size (tB))); (case aL => have := LMc77.out; omega); intro v126 w85 ho hb hg hat; rw [← Ny125.out] at ho; replace HO_11 := Aside0.mk (Kd.R_over' (tR HO_11) (Kd.N_typed (tR HO_114000)) (by decide) hg); replace HO_114001 := Aside0.mk (Kd.R_over' (tR HO_114001) (Kd.N_typed (tR HO_114000)) (by decide) hg); replace BK101 := Aside0.mk (blk_grown (g := gb101) (o := .cells #[.string a0_0, .slice A0_1 l0_1.length c0_1, .slice A0_2 l0_2.length c0_2] 39 (0, 0)) (tK BK101) hg (Kd.N_ne HO_114000.out BK101.out (by decide))); replace BK102 := Aside0.mk (blk_grown (g := gb102) (o := .cells #[.slice none 0 0, .slice none 0 0, .bool x103002_4] 25 (0, 0)) (tK BK102) hg (Kd.N_ne HO_114000.out BK102.out (by decide))); replace BK105 := Aside0.mk (blk_grown (g := gb105) (o := .cells #[.int .i64 t103, .int .i64 t104] 46 (0, 0)) (tK BK105) hg (Kd.N_ne HO_114000.out BK105.out (by decide))); replace BK113 := Aside0.mk (blk_grown (g := gb113) (o := .cells #[.slice (some ad118) x114000_4.length co59, u114001, .bool x114002_4] 25 (0, 0)) (tK BK113) hg (Kd.N_ne HO_114000.out BK113.out (by decide))); replace HB := Aside0.mk (hb); have HO127 := Aside0.mk (ho); clear HO_114000 HO_13; clear ho hb hg hat; obtain ⟨Ao86, co86, eo86⟩ := Kd.N_slice HO127.out; subst eo86; obtain ⟨hcz87_0, hcz87_1, hcz87_2, hfz87_0, hfz87_1, hfz87_2⟩ := zc3 BK113))
                have n0_ : Aside0 (Kd.R (Kd.int .i64) 3 (w85.setCell ⟨gb113, 0, none⟩ (.slice Ao86 y125.length co86)) w.heap.size (fun k_ => (w.heap.size ≤ k_)) (.slice (some ad119) t115.length co57) t115) := ⟨by (with_reducible repeat (first | apply Kd.R_alloc | apply Kd.R_drewN | apply Kd.R_drew)); exact Kd.R_mono (Kd.R_far (p := ⟨gb113, 0, none⟩) (Kd.R_types HO_11.out BK113.out (by decide)) (fun _ hk => hk.2) (.slice Ao86 y125.length co86)) (fun _ hk => hk.1.1)⟩
                have n1_ : Aside0 (Kd.R k80 80 (w85.setCell ⟨gb113, 0, none⟩ (.slice Ao86 y125.length co86)) w.heap.size (fun k_ => (w.heap.size ≤ k_)) u114001 x114001_4) := ⟨by (with_reducible repeat (first | apply Kd.R_alloc | apply Kd.R_drewN | apply Kd.R_drew)); exact Kd.R_mono (Kd.R_far (p := ⟨gb113, 0, none⟩) (Kd.R_types HO_114001.out BK113.out (by decide)) (fun _ hk => hk.2) (.slice Ao86 y125.length co86)) (fun _ hk => hk.1)⟩
                have n2_ : Aside0 (Kd.N (Kd.slice 3 (Kd.int .i64)) 28 (w85.setCell ⟨gb113, 0, none⟩ (.slice Ao86 y125.length co86)) w.heap.size (fun k_ => (w.heap.size ≤ k_) ∧ some k_ ≠ (.slice (some ad119) t115.length co57 : Value).ownBlock ∧ some k_ ≠ (u114001 : Value).ownBlock ∧ k_ ≠ gb101 ∧ k_ ≠ gb102 ∧ k_ ≠ gb105 ∧ k_ ≠ gb113) (.slice Ao86 y125.length co86) y125) := ⟨by (with_reducible repeat (first | apply Kd.N_alloc | apply Kd.N_drewN | apply Kd.N_drew)); exact Kd.N_mono (Kd.N_far (p := ⟨gb113, 0, none⟩) (Kd.N_mono HO127.out (fun k_ hk => (⟨hk, hk.2.2.2.2.2.2⟩ : _ ∧ k_ ≠ gb113))) (fun _ hk => hk.2) (.slice Ao86 y125.length co86)) (fun _ hk => ⟨hk.1.1, ⟨hk.1.2.1, ⟨hk.1.2.2.1, ⟨hk.1.2.2.2.1, ⟨hk.1.2.2.2.2.1, ⟨hk.1.2.2.2.2.2.1, hk.1.2.2.2.2.2.2⟩⟩⟩⟩⟩⟩)⟩
                have n3_ : Aside0 ((w85.setCell ⟨gb113, 0, none⟩ (.slice Ao86 y125.length co86)).heap[gb101]? = some (.cells #[.string a0_0, .slice A0_1 l0_1.length c0_1, .slice A0_2 l0_2.length c0_2] 39 (0, 0))) := ⟨by (with_reducible repeat (first | refine blk_drewN ?_ _ | refine blk_drew ?_ | refine blk_alloc ?_ _)); refine blk_far ?_ NB101_113.out _; (with_reducible repeat (first | refine blk_drewN ?_ _ | refine blk_drew ?_ | refine blk_alloc ?_ _)); exact BK101.out⟩
                have n4_ : Aside0 ((w85.setCell ⟨gb113, 0, none⟩ (.slice Ao86 y125.length co86)).heap[gb102]? = some (.cells #[.slice none 0 0, .slice none 0 0, .bool x103002_4] 25 (0, 0))) := ⟨by (with_reducible repeat (first | refine blk_drewN ?_ _ | refine blk_drew ?_ | refine blk_alloc ?_ _)); refine blk_far ?_ NB102_113.out _; (with_reducible repeat (first | refine blk_drewN ?_ _ | refine blk_drew ?_ | refine blk_alloc ?_ _)); exact BK102.out⟩
                have n5_ : Aside0 ((w85.setCell ⟨gb113, 0, none⟩ (.slice Ao86 y125.length co86)).heap[gb105]? = some (.cells #[.int .i64 t103, .int .i64 t104] 46 (0, 0))) := ⟨by (with_reducible repeat (first | refine blk_drewN ?_ _ | refine blk_drew ?_ | refine blk_alloc ?_ _)); refine blk_far ?_ NB105_113.out _; (with_reducible repeat (first | refine blk_drewN ?_ _ | refine blk_drew ?_ | refine blk_alloc ?_ _)); exact BK105.out⟩
                have n6_ : Aside0 ((w85.setCell ⟨gb113, 0, none⟩ (.slice Ao86 y125.length co86)).heap[gb113]? = some (.cells #[.slice Ao86 y125.length co86, u114001, .bool x114002_4] 25 (0, 0))) := ⟨by (with_reducible repeat (first | refine blk_drewN ?_ _ | refine blk_drew ?_ | refine blk_alloc ?_ _)); refine blk_put (cs := #[.slice (some ad118) x114000_4.length co59, u114001, .bool x114002_4]) ?_ 0 _ rfl; (with_reducible repeat (first | refine blk_drewN ?_ _ | refine blk_drew ?_ | refine blk_alloc ?_ _)); exact BK113.out⟩
                have n7_ : Aside0 (Below w.heap.size w (w85.setCell ⟨gb113, 0, none⟩ (.slice Ao86 y125.length co86))) := ⟨tB⟩
                (try clear HO_11)
                (try clear HO_114001)
                (try clear HO127)
                (try clear BK101)
                (try clear BK102)
                (try clear BK105)
                (try clear BK113)
                (try clear HB)
                generalize (w85.setCell ⟨gb113, 0, none⟩ (.slice Ao86 y125.length co86)) = w88 at n0_ n1_ n2_ n3_ n4_ n5_ n6_ n7_ ⊢
                have HO_11 := n0_
                have HO_114001 := n1_
                have HO127 := n2_
                have BK101 := n3_
                have BK102 := n4_
                have BK105 := n5_
                have BK113 := n6_
                have HB := n7_
                clear n0_ n1_ n2_ n3_ n4_ n5_ n6_ n7_
                replace HO_11 := Aside0.mk (Kd.R_drew HO_11.out)
                replace HO_114001 := Aside0.mk (Kd.R_drew HO_114001.out)
                replace HO127 := Aside0.mk (Kd.N_drew HO127.out)
                replace BK101 := Aside0.mk (blk_drew BK101.out)
                replace BK102 := Aside0.mk (blk_drew BK102.out)
                replace BK105 := Aside0.mk (blk_drew BK105.out)
                replace BK113 := Aside0.mk (blk_drew BK113.out)
                replace HB := Aside0.mk (below_drew1 HB.out)
                have p128 : 0 ≤ (x12_4 : Int) := tD
                have q128 : x12_4 < (t115.length : Int) := tD
                obtain ⟨ad128, e128, hx128_0⟩ := Kd.at_int (Kd.R_reads' HO_11.out).2.2 x12_4 p128 q128
                obtain rfl : ad119 = ad128 := (by injection e128)
                replace p128 := eq_true p128
                replace q128 := eq_true q128
                refine sS4 13 [10, 12] rfl r14_Explore.tab28 r14_Explore.bits28 ⟨tz BK113 0, tz BK113 1, tz BK113 2, hx128_0⟩ (fun hHeld HT_ HW_ => ?_)
                generalize w88.drew = w89 at HO_11 HO_114001 HO127 BK101 BK102 BK105 BK113 HB hx128_0 hHeld ⊢
                refine sP 0 112 HT_ rfl rfl ?_
                refine sP 2 114 HT_ rfl rfl ?_
                refine sP 3 115 HT_ rfl rfl ?_
                refine sP 4 116 HT_ rfl rfl ?_
                refine sP 5 117 HT_ rfl rfl ?_
                refine sP 7 119 HT_ rfl rfl ?_
                refine sT 1 113 HT_ HW_ rfl rfl hHeld ?_
                refine sT 6 118 HT_ HW_ rfl rfl hHeld ?_
                refine sP 8 120 HT_ rfl rfl ?_
                refine sO 9 (some 121) HT_ rfl rfl (fun K hK => ?_)
                refine value_ (w1 := ?_) (v := ?_) (by rfl) rfl ?_ ?_
                rotate_left 2
                ·go_simp
                 constructor
                 ·rfl
                 ·rfl
                refine hK.out _ _ ⟨(blk_cell (blk_alloc BK113.out _) 0).trans rfl, (blk_cell (blk_alloc BK113.out _) 1).trans rfl, (blk_cell (blk_alloc BK113.out _) 2).trans rfl, (World.cell?_alloc_lt _ _ _ (World.block_lt_of_cell? _ _ (hHeld.2.2.2))).trans (hHeld.2.2.2)⟩ (fun hHeld => ?_)
                clear hK K
                refine sN 121 ?_
                refine sL 10 (some 122) HT_ rfl rfl (fun K hK => ?_)
                refine Kd.R_append_step k80 (w0 := w) w.heap.size (by rfl) (.tmp 113) (.tmp 121) 23 80 (.agg #[(.int .i64 0), (.int .i64 0), (.int .i64 0)]) 24 rfl Try.underlying23 info80 rfl (by decide) (by omega) u114001 x114001_4 (⟨x10_3, rd t115 x12_4, (x114000_4.length : Int)⟩ : S80) [.int .i64 x10_3, .int .i64 (rd t115 x12_4), .int .i64 (x114000_4.length : Int)] (fun k_ => (w.heap.size ≤ k_)) (fun _ => False) rfl rfl ?aP (fun _ hk => hk.elim) ?aF ?aO ?aB ?aS ?aL ?_
                (case aP => exact k80_mkM _ _ _ (⟨x10_3, rd t115 x12_4, (x114000_4.length : Int)⟩ : S80))
                (case aB => exact (tB))
                (case aF => exact (fun k_ hk => (Nat.le_trans (below_size (tB)) hk)))
                (case aO => exact (tR HO_114001))
                (case aS => exact (below_size (tB)))
                (case aL => have := LMc80.out; omega)
                intro v130 w90 ho hb hg hat
                rw [← Ny129.out] at ho
                replace HO_11 := Aside0.mk (Kd.R_over' (tR HO_11) (Kd.R_typed (tR HO_114001)) (by decide) hg)
                replace BK101 := Aside0.mk (blk_grown (g := gb101) (o := .cells #[.string a0_0, .slice A0_1 l0_1.length c0_1, .slice A0_2 l0_2.length c0_2] 39 (0, 0)) (tK BK101) hg (Kd.R_ne HO_114001.out BK101.out (by decide)))
                replace BK102 := Aside0.mk (blk_grown (g := gb102) (o := .cells #[.slice none 0 0, .slice none 0 0, .bool x103002_4] 25 (0, 0)) (tK BK102) hg (Kd.R_ne HO_114001.out BK102.out (by decide)))
                replace BK105 := Aside0.mk (blk_grown (g := gb105) (o := .cells #[.int .i64 t103, .int .i64 t104] 46 (0, 0)) (tK BK105) hg (Kd.R_ne HO_114001.out BK105.out (by decide)))
                replace BK113 := Aside0.mk (blk_grown (g := gb113) (o := .cells #[.slice Ao86 y125.length co86, u114001, .bool x114002_4] 25 (0, 0)) (tK BK113) hg (Kd.R_ne HO_114001.out BK113.out (by decide)))
                replace HO127 := Aside0.mk (Kd.N_afterv (ok := (fun k_ => (w.heap.size ≤ k_) ∧ some k_ ≠ (.slice (some ad119) t115.length co57 : Value).ownBlock ∧ k_ ≠ gb101 ∧ k_ ≠ gb102 ∧ k_ ≠ gb105 ∧ k_ ≠ gb113)) (by (with_reducible repeat (first | apply Kd.N_alloc | apply Kd.N_drewN | apply Kd.N_drew)); exact Kd.N_mono HO127.out (fun _ hk => ⟨⟨hk.1, ⟨hk.2.1, ⟨hk.2.2.2.1, ⟨hk.2.2.2.2.1, ⟨hk.2.2.2.2.2.1, hk.2.2.2.2.2.2⟩⟩⟩⟩⟩, hk.2.2.1⟩)) hg hat)
                replace HB := Aside0.mk (hb)
                have HO131 := Aside0.mk (ho)
                clear HO_114001
                clear ho hb hg hat
                obtain ⟨Ao91, co91, eo91⟩ := Kd.R_slice HO131.out
                (first | subst eo91 | (injection eo91 with f1_ f2_ f3_; have f4_ := f1_.symm; have f5_ := f3_.symm; clear f1_ f2_ f3_; subst f4_; subst f5_))
                refine hK.out _ _ ?_
                clear hK K
                refine sN 122 ?_
                refine sP 11 123 HT_ rfl rfl ?_
                refine sL 12 none HT_ rfl rfl (fun K hK => ?_)
                have hs92 : w90.cell? ⟨gb113, 1, none⟩ = some (u114001) := tz BK113 1
                have hfs92 := blk_frozen BK113.out 1
                have hns92_0 := NB101_113.out
                have hns92_1 := NB102_113.out
                have hns92_2 := NB105_113.out
                have hms92_0 := NB113_101.out
                have hms92_1 := NB113_102.out
                have hms92_2 := NB113_105.out
                refine skip_ (w1 := ?_) (by rfl) rfl ?_ ?_
                rotate_left
                ·go_simp
                 rfl
                refine hK.out _ _ ?_
                clear hK K
                refine sD HT_ ?_
                try go_wp2
                go_roundg kj55
                case measure => have := HJ4.out; have := HK2.out; have := HK3.out; have := HK4.out; have := HJ55.out; omega
                case rel => exact ⟨(wrap64 (x12_4 + 1)), (x103002_4), (y125), (y129), (x114002_4), (.slice Ao86 y125.length co86), (.slice Ao91 y129.length co91), tU, H', ⟨by have := HJ4.out; have := HK2.out; have := HK3.out; have := HK4.out; have := HJ55.out; omega⟩, ⟨by (with_reducible repeat (first | apply Kd.R_alloc | apply Kd.R_drewN | apply Kd.R_drew)); exact Kd.R_mono (Kd.R_far (p := ⟨gb113, 1, none⟩) (Kd.R_types HO_11.out BK113.out (by decide)) (fun _ hk => hk.2) (.slice Ao91 y129.length co91)) (fun _ hk => hk.1)⟩, ⟨by (with_reducible repeat (first | apply Kd.N_alloc | apply Kd.N_drewN | apply Kd.N_drew)); exact Kd.N_mono (Kd.N_far (p := ⟨gb113, 1, none⟩) (Kd.N_mono HO127.out (fun k_ hk => (⟨hk, hk.1.2.2.2.2.2⟩ : _ ∧ k_ ≠ gb113))) (fun _ hk => hk.2) (.slice Ao91 y129.length co91)) (fun _ hk => ⟨hk.1.1.1, ⟨hk.1.1.2.1, ⟨hk.1.2, ⟨hk.1.1.2.2.1, ⟨hk.1.1.2.2.2.1, ⟨hk.1.1.2.2.2.2.1, hk.1.1.2.2.2.2.2⟩⟩⟩⟩⟩⟩)⟩, ⟨by (with_reducible repeat (first | apply Kd.R_alloc | apply Kd.R_drewN | apply Kd.R_drew)); exact Kd.R_mono (Kd.R_far (p := ⟨gb113, 1, none⟩) (Kd.R_types HO131.out BK113.out (by decide)) (fun _ hk => hk.2) (.slice Ao91 y129.length co91)) (fun _ hk => hk.1)⟩, ⟨by (with_reducible repeat (first | refine blk_drewN ?_ _ | refine blk_drew ?_ | refine blk_alloc ?_ _)); refine blk_far ?_ NB101_113.out _; (with_reducible repeat (first | refine blk_drewN ?_ _ | refine blk_drew ?_ | refine blk_alloc ?_ _)); exact BK101.out⟩, ⟨by (with_reducible repeat (first | refine blk_drewN ?_ _ | refine blk_drew ?_ | refine blk_alloc ?_ _)); refine blk_far ?_ NB102_113.out _; (with_reducible repeat (first | refine blk_drewN ?_ _ | refine blk_drew ?_ | refine blk_alloc ?_ _)); exact BK102.out⟩, ⟨by (with_reducible repeat (first | refine blk_drewN ?_ _ | refine blk_drew ?_ | refine blk_alloc ?_ _)); refine blk_far ?_ NB105_113.out _; (with_reducible repeat (first | refine blk_drewN ?_ _ | refine blk_drew ?_ | refine blk_alloc ?_ _)); exact BK105.out⟩, ⟨by (with_reducible repeat (first | refine blk_drewN ?_ _ | refine blk_drew ?_ | refine blk_alloc ?_ _)); refine blk_put (cs := #[.slice Ao86 y125.length co86, u114001, .bool x114002_4]) ?_ 1 _ rfl; (with_reducible repeat (first | refine blk_drewN ?_ _ | refine blk_drew ?_ | refine blk_alloc ?_ _)); exact BK113.out⟩, ⟨tB⟩⟩
               rw [if_neg c76] at H
               have c76b0 := decide_eq_false c76
               clear c76
               replace H := tF H
               obtain ⟨c93, H⟩ := H
               have c93b0 := decide_eq_true c93
               clear c93
               replace H := tF H
               obtain ⟨c94, H⟩ := H
               have c94b0 := decide_eq_true c94
               clear c94
               replace H := tF H
               obtain ⟨c95, H⟩ := H
               have LMc95 := Aside0.mk c95
               clear c95
               obtain ⟨y133, hy133⟩ : ∃ y_ : List (S80), y_ = (x114001_4 ++ [(⟨x10_3, rd t115 x12_4, t124⟩ : S80)]) := ⟨_, rfl⟩
               replace H : (r14_Explore.l2 kj55 a1 x10_3 t115 (wrap64 (x12_4 + 1)) a0_0 l0_1 l0_2 x114000_4 y133 x114002_4) = some (r1, r2, r3, r4) := tQ hy133 H
               have Ny133 := Aside0.mk hy133
               clear hy133
               have H' := Aside0.mk H
               clear H
               try go_wp2
               replace HO_11 := Aside0.mk (Kd.R_drew HO_11.out)
               replace HO_13 := Aside0.mk (Kd.R_drew HO_13.out)
               replace HO_114000 := Aside0.mk (Kd.N_drew HO_114000.out)
               replace HO_114001 := Aside0.mk (Kd.R_drew HO_114001.out)
               replace BK101 := Aside0.mk (blk_drew BK101.out)
               replace BK102 := Aside0.mk (blk_drew BK102.out)
               replace BK105 := Aside0.mk (blk_drew BK105.out)
               replace BK113 := Aside0.mk (blk_drew BK113.out)
               replace HR118_0 := Aside0.mk (Kd.C_drew HR118_0.out)
               replace HB := Aside0.mk (below_drew1 HB.out)
               have p132 : 0 ≤ (x12_4 : Int) := tD
               have q132 : x12_4 < (t115.length : Int) := tD
               obtain ⟨ad132, e132, hx132_0⟩ := Kd.at_int (Kd.R_reads' HO_11.out).2.2 x12_4 p132 q132
               obtain rfl : ad119 = ad132 := (by injection e132)
               replace p132 := eq_true p132
               replace q132 := eq_true q132
               refine sS4 13 [10, 12] rfl r14_Explore.tab28 r14_Explore.bits28 ⟨tz BK113 0, tz BK113 1, tz BK113 2, hx132_0⟩ (fun hHeld HT_ HW_ => ?_)
               generalize wc.drew = w96 at HO_11 HO_13 HO_114000 HO_114001 BK101 BK102 BK105 BK113 HR118_0 HB hx132_0 hHeld ⊢
               refine sP 0 112 HT_ rfl rfl ?_
               refine sP 2 114 HT_ rfl rfl ?_
               refine sP 3 115 HT_ rfl rfl ?_
               refine sP 4 116 HT_ rfl rfl ?_
               refine sP 5 117 HT_ rfl rfl ?_
               refine sP 7 119 HT_ rfl rfl ?_
               refine sT 1 113 HT_ HW_ rfl rfl hHeld ?_
               refine sT 6 118 HT_ HW_ rfl rfl hHeld ?_
               refine sP 8 120 HT_ rfl rfl ?_
               refine sO 9 (some 121) HT_ rfl rfl (fun K hK => ?_)
               refine value_ (w1 := ?_) (v := ?_) (by rfl) rfl ?_ ?_
               rotate_left 2
               ·go_simp
                constructor
                ·rfl
                ·rfl
               refine hK.out _ _ ⟨(blk_cell (blk_alloc BK113.out _) 0).trans rfl, (blk_cell (blk_alloc BK113.out _) 1).trans rfl, (blk_cell (blk_alloc BK113.out _) 2).trans rfl, (World.cell?_alloc_lt _ _ _ (World.block_lt_of_cell? _ _ (hHeld.2.2.2))).trans (hHeld.2.2.2)⟩ (fun hHeld => ?_)
               clear hK K
               refine sN 121 ?_
               refine sL 10 (some 122) HT_ rfl rfl (fun K hK => ?_)
               refine Kd.R_append_step k80 (w0 := w) w.heap.size (by rfl) (.tmp 113) (.tmp 121) 23 80 (.agg #[(.int .i64 0), (.int .i64 0), (.int .i64 0)]) 24 rfl Try.underlying23 info80 rfl (by decide) (by omega) u114001 x114001_4 (⟨x10_3, rd t115 x12_4, t124⟩ : S80) [.int .i64 x10_3, .int .i64 (rd t115 x12_4), .int .i64 t124] (fun k_ => (w.heap.size ≤ k_)) (fun _ => False) rfl rfl ?aP (fun _ hk => hk.elim) ?aF ?aO ?aB ?aS ?aL ?_
               (case aP => exact k80_mkM _ _ _ (⟨x10_3, rd t115 x12_4, t124⟩ : S80))
               (case aB => exact (tB))
               (case aF => exact (fun k_ hk => (Nat.le_trans (below_size (tB)) hk)))
               (case aO => exact (tR HO_114001))
               (case aS => exact (below_size (tB)))
               (case aL => have := LMc95.out; omega)
               intro v134 w97 ho hb hg hat
               rw [← Ny133.out] at ho
               replace HO_11 := Aside0.mk (Kd.R_over' (tR HO_11) (Kd.R_typed (tR HO_114001)) (by decide) hg)
               replace HO_13 := Aside0.mk (Kd.R_over' (tR HO_13) (Kd.R_typed (tR HO_114001)) (by decide) hg)
               replace HO_114000 := Aside0.mk (Kd.N_afterv (ok := (fun k_ => (w.heap.size ≤ k_) ∧ some k_ ≠ (.slice (some ad119) t115.length co57 : Value).ownBlock ∧ some k_ ≠ (.slice Ao65 t120.length co65 : Value).ownBlock ∧ k_ ≠ gb101 ∧ k_ ≠ gb102 ∧ k_ ≠ gb105 ∧ k_ ≠ gb113)) (by (with_reducible repeat (first | apply Kd.N_alloc | apply Kd.N_drewN | apply Kd.N_drew)); exact Kd.N_mono HO_114000.out (fun _ hk => ⟨⟨hk.1, ⟨hk.2.1, ⟨hk.2.2.1, ⟨hk.2.2.2.2.1, ⟨hk.2.2.2.2.2.1, ⟨hk.2.2.2.2.2.2.1, hk.2.2.2.2.2.2.2⟩⟩⟩⟩⟩⟩, hk.2.2.2.1⟩)) hg hat)
               replace BK101 := Aside0.mk (blk_grown (g := gb101) (o := .cells #[.string a0_0, .slice A0_1 l0_1.length c0_1, .slice A0_2 l0_2.length c0_2] 39 (0, 0)) (tK BK101) hg (Kd.R_ne HO_114001.out BK101.out (by decide)))
               replace BK102 := Aside0.mk (blk_grown (g := gb102) (o := .cells #[.slice none 0 0, .slice none 0 0, .bool x103002_4] 25 (0, 0)) (tK BK102) hg (Kd.R_ne HO_114001.out BK102.out (by decide)))
               replace BK105 := Aside0.mk (blk_grown (g := gb105) (o := .cells #[.int .i64 t103, .int .i64 t104] 46 (0, 0)) (tK BK105) hg (Kd.R_ne HO_114001.out BK105.out (by decide)))
               replace BK113 := Aside0.mk (blk_grown (g := gb113) (o := .cells #[.slice (some ad118) x114000_4.length co59, u114001, .bool x114002_4] 25 (0, 0)) (tK BK113) hg (Kd.R_ne HO_114001.out BK113.out (by decide)))
               replace HB := Aside0.mk (hb)
               have HO135 := Aside0.mk (ho)
               clear HO_114001
               clear ho hb hg hat
               obtain ⟨Ao98, co98, eo98⟩ := Kd.R_slice HO135.out
               (first | subst eo98 | (injection eo98 with f1_ f2_ f3_; have f4_ := f1_.symm; have f5_ := f3_.symm; clear f1_ f2_ f3_; subst f4_; subst f5_))
               refine hK.out _ _ ?_
               clear hK K
               refine sN 122 ?_
               refine sP 11 123 HT_ rfl rfl ?_
               refine sL 12 none HT_ rfl rfl (fun K hK => ?_)
               have hs99 : w97.cell? ⟨gb113, 1, none⟩ = some (u114001) := tz BK113 1
               have hfs99 := blk_frozen BK113.out 1
               have hns99_0 := NB101_113.out
               have hns99_1 := NB102_113.out
               have hns99_2 := NB105_113.out
               have hms99_0 := NB113_101.out
               have hms99_1 := NB113_102.out
               have hms99_2 := NB113_105.out
               refine skip_ (w1 := ?_) (by rfl) rfl ?_ ?_
               rotate_left
               ·go_simp
                rfl
               refine hK.out _ _ ?_
               clear hK K
               refine sD HT_ ?_
               try go_wp2
               go_roundg kj55
               case measure => have := HJ4.out; have := HK2.out; have := HK3.out; have := HK4.out; have := HJ55.out; omega
               case rel => exact ⟨(wrap64 (x12_4 + 1)), (x103002_4), (x114000_4), (y133), (x114002_4), (.slice (some ad118) x114000_4.length co59), (.slice Ao98 y133.length co98), tU, H', ⟨by have := HJ4.out; have := HK2.out; have := HK3.out; have := HK4.out; have := HJ55.out; omega⟩, ⟨by (with_reducible repeat (first | apply Kd.R_alloc | apply Kd.R_drewN | apply Kd.R_drew)); exact Kd.R_mono (Kd.R_far (p := ⟨gb113, 1, none⟩) (Kd.R_types HO_11.out BK113.out (by decide)) (fun _ hk => hk.2) (.slice Ao98 y133.length co98)) (fun _ hk => hk.1.1)⟩, ⟨by (with_reducible repeat (first | apply Kd.N_alloc | apply Kd.N_drewN | apply Kd.N_drew)); exact Kd.N_mono (Kd.N_far (p := ⟨gb113, 1, none⟩) (Kd.N_mono HO_114000.out (fun k_ hk => (⟨hk, hk.1.2.2.2.2.2.2⟩ : _ ∧ k_ ≠ gb113))) (fun _ hk => hk.2) (.slice Ao98 y133.length co98)) (fun _ hk => ⟨hk.1.1.1, ⟨hk.1.1.2.1, ⟨hk.1.2, ⟨hk.1.1.2.2.2.1, ⟨hk.1.1.2.2.2.2.1, ⟨hk.1.1.2.2.2.2.2.1, hk.1.1.2.2.2.2.2.2⟩⟩⟩⟩⟩⟩)⟩, ⟨by (with_reducible repeat (first | apply Kd.R_alloc | apply Kd.R_drewN | apply Kd.R_drew)); exact Kd.R_mono (Kd.R_far (p := ⟨gb113, 1, none⟩) (Kd.R_types HO135.out BK113.out (by decide)) (fun _ hk => hk.2) (.slice Ao98 y133.length co98)) (fun _ hk => hk.1)⟩, ⟨by (with_reducible repeat (first | refine blk_drewN ?_ _ | refine blk_drew ?_ | refine blk_alloc ?_ _)); refine blk_far ?_ NB101_113.out _; (with_reducible repeat (first | refine blk_drewN ?_ _ | refine blk_drew ?_ | refine blk_alloc ?_ _)); exact BK101.out⟩, ⟨by (with_reducible repeat (first | refine blk_drewN ?_ _ | refine blk_drew ?_ | refine blk_alloc ?_ _)); refine blk_far ?_ NB102_113.out _; (with_reducible repeat (first | refine blk_drewN ?_ _ | refine blk_drew ?_ | refine blk_alloc ?_ _)); exact BK102.out⟩, ⟨by (with_reducible repeat (first | refine blk_drewN ?_ _ | refine blk_drew ?_ | refine blk_alloc ?_ _)); refine blk_far ?_ NB105_113.out _; (with_reducible repeat (first | refine blk_drewN ?_ _ | refine blk_drew ?_ | refine blk_alloc ?_ _)); exact BK105.out⟩, ⟨by (with_reducible repeat (first | refine blk_drewN ?_ _ | refine blk_drew ?_ | refine blk_alloc ?_ _)); refine blk_put (cs := #[.slice (some ad118) x114000_4.length co59, u114001, .bool x114002_4]) ?_ 1 _ rfl; (with_reducible repeat (first | refine blk_drewN ?_ _ | refine blk_drew ?_ | refine blk_alloc ?_ _)); exact BK113.out⟩, ⟨tB⟩⟩
            replace c54 := Bool.eq_false_iff.mpr c54
            subst c54
            rw [if_neg (show ¬ (false = true) by decide)] at H
            simp only [Option.some.injEq, Prod.mk.injEq] at H
            obtain ⟨rfl, rfl, rfl, rfl⟩ := H
            obtain ⟨Ao100, co100, eo100⟩ := Kd.R_slice HO_11.out
            subst eo100
            try go_wp2
            replace HO_11 := Aside0.mk (Kd.R_drew HO_11.out)
            replace HO_114000 := Aside0.mk (Kd.N_drew HO_114000.out)
            replace HO_114001 := Aside0.mk (Kd.R_drew HO_114001.out)
            replace BK101 := Aside0.mk (blk_drew BK101.out)
            replace BK102 := Aside0.mk (blk_drew BK102.out)
            replace BK105 := Aside0.mk (blk_drew BK105.out)
            replace BK113 := Aside0.mk (blk_drew BK113.out)
            replace HB := Aside0.mk (below_drew1 HB.out)
            obtain ⟨Ao102, co102, eo102⟩ := Kd.N_slice HO_114000.out
            (first | subst eo102 | (injection eo102 with f1_ f2_ f3_; have f4_ := f1_.symm; have f5_ := f3_.symm; clear f1_ f2_ f3_; subst f4_; subst f5_))
            have p118 : 0 ≤ (x10_3 : Int) := tD
            have q118 : x10_3 < (x114000_4.length : Int) := tD
            obtain ⟨ad118, A118_0, c118_0, e118, hx118_0, hl118_0, hi118_0⟩ := at_L3 (Kd.N_reads' HO_114000.out).2.2 x10_3 p118 q118
            cases e118
            obtain ⟨ce118, hce118, hMe118, hcc118⟩ := Kd.N_get HO_114000.out [] x10_3 p118 (by first | exact q118 | exact tD | (have e_ := (Kd.N_reads' HO_114000.out).1; omega))
            obtain ⟨ua118_0, uc118_0, rfl, ul118_0, ge118_0⟩ := Kd.FK_slice_open hMe118
            have hv118_0 := hcc118 0 _ rfl
            rw [Nat.add_zero, show ((Kd.slice 3 (Kd.int .i64))).sz = 1 from rfl, Nat.mul_one] at hv118_0
            replace hv118_0 := Option.some.inj (hv118_0.symm.trans hx118_0)
            injection hv118_0 with hva_ hvn_ hvc_
            rw [hva_] at ge118_0
            rw [hvc_] at ul118_0
            have HL118_0 := Aside0.mk (show Kd.V (Kd.int .i64) 3 _ w.heap.size _ _ (rd_L3 x114000_4 x10_3) from Kd.V_mk ul118_0 ge118_0)
            clear hva_ hvn_ hvc_ ge118_0 ul118_0
            clear hcc118 hce118
            have HR118_0 := Aside0.mk hi118_0
            have HC118_0 := Aside0.mk hl118_0
            clear hi118_0 hl118_0
            replace p118 := eq_true p118
            replace q118 := eq_true q118
            have p119 : 0 ≤ (x12_4 : Int) := tD
            have q119 : x12_4 < (t115.length : Int) := tD
            obtain ⟨ad119, e119, hx119_0⟩ := Kd.at_int (Kd.R_reads' HO_11.out).2.2 x12_4 p119 q119
            cases e119
            replace p119 := eq_true p119
            replace q119 := eq_true q119
            refine sS8 16 [] rfl r14_Explore.tab19 r14_Explore.bits19 ⟨tz BK101 0, tz BK101 1, tz BK101 2, tz BK113 0, tz BK113 1, tz BK113 2, hx118_0, hx119_0⟩ (fun hHeld HT_ HW_ => ?_)
            generalize wr.drew = w101 at HO_11 HO_114000 HO_114001 BK101 BK102 BK105 BK113 HB HL118_0 HR118_0 hx118_0 hx119_0 hHeld ⊢
            refine sP 1 72 HT_ rfl rfl ?_
            refine sP 3 74 HT_ rfl rfl ?_
            refine sP 6 77 HT_ rfl rfl ?_
            refine sP 7 78 HT_ rfl rfl ?_
            refine sP 8 79 HT_ rfl rfl ?_
            refine sT 0 71 HT_ HW_ rfl rfl hHeld ?_
            refine sT 2 73 HT_ HW_ rfl rfl hHeld ?_
            refine sP 4 75 HT_ rfl rfl ?_
            refine sT 5 76 HT_ HW_ rfl rfl hHeld ?_
            refine sT 9 80 HT_ HW_ rfl rfl hHeld ?_
            refine sO 10 (some 81) HT_ rfl rfl (fun K hK => ?_)
            refine goes_ Try.func45 (by kernel_rfl) rfl #[.agg #[.string a0_0, .slice A0_1 l0_1.length c0_1, .slice A0_2 l0_2.length c0_2], .slice A118_0 (rd_L3 x114000_4 x10_3).length c118_0, .int .i64 (rd t115 x12_4)] (by rfl) rfl rfl (by (try simp only [List.map_toArray, List.map_cons, List.map_nil]); first | done | rfl | (simp only [List.length_drop, List.length_take]; rfl)) ?_
            (with_reducible refine (r11_After.calls k4 a0_0 _ _ l0_1 _ _ l0_2 _ _ (rd_L3 x114000_4 x10_3) (rd t115 x12_4) t120 false _ ?side1 ?side2 ?side3 ?side4 ?side5 ?side6 A53.out).mono ?_)
            (case side1 => exact tG HR0_1 HB)
            (case side2 => exact HC0_1.out)
            (case side3 => exact tG HR0_2 HB)
            (case side4 => exact HC0_2.out)
            (case side5 => repeat (first | exact (by repeat (first | (with_reducible exact HR118_0.out) | (with_reducible refine Kd.C_alloc ?_ _) | (with_reducible refine Kd.C_drewN ?_ _) | (with_reducible refine Kd.C_drew ?_) | exact HR118_0.out)) | (with_reducible refine Kd.C_alloc ?_ _) | (with_reducible refine Kd.C_drewN ?_ _) | (with_reducible refine Kd.C_drew ?_)))
            (case side6 => exact HC118_0.out)
            rintro e w103 ⟨v121, rfl, ho0, hb⟩
            have HS6_ := (hb.cell (World.block_lt_of_cell? _ _ (hHeld.2.2.2.2.2.2.1))).trans (hHeld.2.2.2.2.2.2.1)
            have HS7_ := (hb.cell (World.block_lt_of_cell? _ _ (hHeld.2.2.2.2.2.2.2))).trans (hHeld.2.2.2.2.2.2.2)
            refine ⟨_, rfl, ?_⟩
            replace HO_114000 := Aside0.mk (Kd.N_elder' (tR HO_114000) (Kd.R_base ho0) hb)
            replace HO_114001 := Aside0.mk (Kd.R_below (tR HO_114001) hb)
            replace HL118_0 := Aside0.mk (Kd.V_elder' (by (with_reducible repeat (first | apply Kd.V_alloc | apply Kd.V_drewN | apply Kd.V_drew)); exact HL118_0.out) (Kd.R_base ho0) hb)
            have HO122 := Aside0.mk (Kd.R_lower (Kd.R_new' (Kd.R_newM (M := fun k_ => (w.heap.size ≤ k_)) ho0 (below_size (tB)) (fun k_ h_ => h_)) (Kd.R_lt (tR HO_11))) (below_size (tB)))
            replace HO_11 := Aside0.mk (Kd.R_elder' (tR HO_11) (Kd.R_base ho0) hb)
            replace BK101 := tL BK101 hb
            replace BK102 := tL BK102 hb
            replace BK105 := tL BK105 hb
            replace BK113 := tL BK113 hb
            replace HR118_0 := Aside0.mk (Kd.C_below (by repeat (first | (with_reducible exact HR118_0.out) | (with_reducible refine Kd.C_alloc ?_ _) | (with_reducible refine Kd.C_drewN ?_ _) | (with_reducible refine Kd.C_drew ?_) | exact HR118_0.out)) hb)
            replace HB := tA HB hb
            (try clear hb)
            (try clear hb2)
            (try clear hk)
            (try clear hi)
            (try clear ho0)
            refine hK.out _ _ ⟨tz BK101 0, tz BK101 1, tz BK101 2, tz BK113 0, tz BK113 1, tz BK113 2, HS6_, HS7_⟩ (fun hHeld => ?_)
            clear hK K
            refine sN 81 ?_
            refine sP 11 70 HT_ rfl rfl ?_
            refine sP 12 82 HT_ rfl rfl ?_
            refine sP 13 83 HT_ rfl rfl ?_
            refine sP 14 13 HT_ rfl rfl ?_
            refine sP 15 14 HT_ rfl rfl ?_
            refine sD HT_ ?_
            have hnb104 := NB102_101.out
            have hnc104 := NB101_102.out
            have hnb105 := NB102_105.out
            have hnc105 := NB105_102.out
            have hnb106 := NB102_113.out
            have hnc106 := NB113_102.out
            obtain ⟨hcz107_0, hcz107_1, hcz107_2, hfz107_0, hfz107_1, hfz107_2⟩ := zc3 BK102
            try go_wp2
            refine bodyPost_ret (results_ct rfl _ _ gb102 25 #[.slice none 0 0, .slice none 0 0, .bool false] (0, 0) _ rfl (by (with_reducible repeat (first | refine blk_drewN ?_ _ | refine blk_drew ?_ | refine blk_alloc ?_ _)); refine blk_put (cs := #[.slice none 0 0, .slice none 0 0, .bool x103002_4]) ?_ 2 _ rfl; (with_reducible repeat (first | refine blk_drewN ?_ _ | refine blk_drew ?_ | refine blk_alloc ?_ _)); refine blk_put (cs := #[.slice none 0 0, .slice none 0 0, .bool x103002_4]) ?_ 1 _ rfl; (with_reducible repeat (first | refine blk_drewN ?_ _ | refine blk_drew ?_ | refine blk_alloc ?_ _)); refine blk_put (cs := #[.slice none 0 0, .slice none 0 0, .bool x103002_4]) ?_ 0 _ rfl; (with_reducible repeat (first | refine blk_drewN ?_ _ | refine blk_drew ?_ | refine blk_alloc ?_ _)); exact BK102.out) Try.underlying25 rfl (by kernel_rfl)) rfl ?_
            exact ⟨_, _, tE, by first | exact Kd.S_nil _ _ _ _ _ | exact Kd.N_nil _ _ _ _ _ | exact Kd.V_nil _ _ _ _ _ | exact Kd.Q_nil _ _ _ _ _ | exact Kd.R_nil _ _ _ _ _, by first | exact Kd.R_nil _ _ _ _ _ | exact Kd.N_nil _ _ _ _ _ | exact Kd.V_nil _ _ _ _ _ | exact Kd.Q_nil _ _ _ _ _ | exact Kd.S_nil _ _ _ _ _, tB⟩
           rw [if_neg c49] at H
           have c49b0 := decide_eq_false c49
           clear c49
           have H' := Aside0.mk H
           clear H
           obtain ⟨Ao108, co108, eo108⟩ := Kd.R_slice HO_11.out
           subst eo108
           go_wp2
           go_roundg k4
           case measure => have := HJ4.out; have := HK2.out; have := HK3.out; have := HK4.out; omega
           case rel => exact ⟨(wrap64 (x10_3 + 1)), (x103002_4), (x114000_4), (x114001_4), (x114002_4), (u114000), (u114001), tU, H', ⟨by have := HJ4.out; have := HK2.out; have := HK3.out; have := HK4.out; omega⟩, ⟨by (with_reducible repeat (first | apply Kd.N_alloc | apply Kd.N_drewN | apply Kd.N_drew)); exact Kd.N_mono HO_114000.out (fun _ hk => ⟨hk.1, ⟨hk.2.2.1, ⟨hk.2.2.2.1, ⟨hk.2.2.2.2.1, ⟨hk.2.2.2.2.2.1, hk.2.2.2.2.2.2⟩⟩⟩⟩⟩)⟩, ⟨tR HO_114001⟩, ⟨tK BK101⟩, ⟨tK BK102⟩, ⟨tK BK105⟩, ⟨tK BK113⟩, ⟨tB⟩⟩
        rw [if_neg c39] at H
        have c39b0 := decide_eq_false c39
        clear c39
        simp only [Option.some.injEq, Prod.mk.injEq] at H
        obtain ⟨rfl, rfl, rfl, rfl⟩ := H
        have hnb109 := NB113_101.out
        have hnc109 := NB101_113.out
        have hnb110 := NB113_102.out
        have hnc110 := NB102_113.out
        have hnb111 := NB113_105.out
        have hnc111 := NB105_113.out
        obtain ⟨hcz112_0, hcz112_1, hcz112_2, hfz112_0, hfz112_1, hfz112_2⟩ := zc3 BK113
        obtain ⟨Ao113, co113, eo113⟩ := Kd.N_slice HO_114000.out
        subst eo113
        have hnb114 := NB102_101.out
        have hnc114 := NB101_102.out
        have hnb115 := NB102_105.out
        have hnc115 := NB105_102.out
        obtain ⟨hcz116_0, hcz116_1, hcz116_2, hfz116_0, hfz116_1, hfz116_2⟩ := zc3 BK102
        obtain ⟨Ao117, co117, eo117⟩ := Kd.R_slice HO_114001.out
        subst eo117
        go_wp2
        refine bodyPost_ret (results_ct rfl _ _ gb102 25 #[.slice Ao113 x114000_3.length co113, .slice Ao117 x114001_3.length co117, .bool x114002_3] (0, 0) _ rfl (by (with_reducible repeat (first | refine blk_drewN ?_ _ | refine blk_drew ?_ | refine blk_alloc ?_ _)); refine blk_put (cs := #[.slice Ao113 x114000_3.length co113, .slice Ao117 x114001_3.length co117, .bool x103002_3]) ?_ 2 _ rfl; (with_reducible repeat (first | refine blk_drewN ?_ _ | refine blk_drew ?_ | refine blk_alloc ?_ _)); refine blk_put (cs := #[.slice Ao113 x114000_3.length co113, .slice none 0 0, .bool x103002_3]) ?_ 1 _ rfl; (with_reducible repeat (first | refine blk_drewN ?_ _ | refine blk_drew ?_ | refine blk_alloc ?_ _)); refine blk_put (cs := #[.slice none 0 0, .slice none 0 0, .bool x103002_3]) ?_ 0 _ rfl; (with_reducible repeat (first | refine blk_drewN ?_ _ | refine blk_drew ?_ | refine blk_alloc ?_ _)); exact BK102.out) Try.underlying25 rfl (by kernel_rfl)) rfl ?_
        exact ⟨_, _, tE, by (with_reducible repeat (first | apply Kd.N_alloc | apply Kd.N_drewN | apply Kd.N_drew)); exact Kd.N_mono (Kd.N_far (p := ⟨gb102, 2, none⟩) (Kd.N_far (p := ⟨gb102, 1, none⟩) (Kd.N_far (p := ⟨gb102, 0, none⟩) (Kd.N_mono HO_114000.out (fun k_ hk => (⟨hk, hk.2.2.2.1⟩ : _ ∧ k_ ≠ gb102))) (fun _ hk => hk.2) (.slice Ao113 x114000_3.length co113)) (fun _ hk => hk.2) (.slice Ao117 x114001_3.length co117)) (fun _ hk => hk.2) (.bool x114002_3)) (fun _ hk => ⟨hk.1.1, hk.1.2.1⟩), by (with_reducible repeat (first | apply Kd.R_alloc | apply Kd.R_drewN | apply Kd.R_drew)); exact Kd.R_mono (Kd.R_far (p := ⟨gb102, 2, none⟩) (Kd.R_far (p := ⟨gb102, 1, none⟩) (Kd.R_far (p := ⟨gb102, 0, none⟩) (Kd.R_types HO_114001.out BK102.out (by decide)) (fun _ hk => hk.2) (.slice Ao113 x114000_3.length co113)) (fun _ hk => hk.2) (.slice Ao117 x114001_3.length co117)) (fun _ hk => hk.2) (.bool x114002_3)) (fun _ hk => hk.1), tB⟩
 rw [if_neg c4] at H
 have c4b0 := beq_eq_false_iff_ne.mpr c4
 have c4b1 := bne_iff_ne.mpr c4
 simp only [Option.some.injEq, Prod.mk.injEq] at H
 obtain ⟨rfl, rfl, rfl, rfl⟩ := H
 go_enter Try.func21, Try.ntmps21
 try go_wp2_with (first | ((with_reducible refine gate_dst (N := 2) rfl ?_); (try (refine gate_guard (by rfl) ?_; dsimp only)); refine tBx 2 39 #[.string a0_0, .slice A0_1 l0_1.length c0_1, .slice A0_2 l0_2.length c0_2] ?_; intro gb101 hg w118 hbox hb; have BK101 := Aside0.mk (hbox); have GW101 := tW HB hg; have GE101 := tW HB hg; replace HB := tA HB hb; clear hb hbox hg) | ((with_reducible refine gate_dst (N := 4) rfl ?_); (try (refine gate_guard (by rfl) ?_; dsimp only)); refine tBx 4 25 #[.slice none 0 0, .slice none 0 0, .bool false] ?_; intro gb102 hg w119 hbox hb; have BK102 := Aside0.mk (hbox); have GW102 := tW HB hg; have GE102 := tW HB hg; replace HB := tA HB hb; have NB101_102 := tNl BK101 hg; have NB102_101 := tNg BK101 hg; replace BK101 := tL BK101 hb; clear hb hbox hg; have hnb120 := NB101_102.out; have hnc120 := NB102_101.out; obtain ⟨hcz121_0, hcz121_1, hcz121_2, hfz121_0, hfz121_1, hfz121_2⟩ := zc3 BK101) | ((with_reducible refine gate_callee (f := 43) rfl ?_); refine goesL_ (some 17) rfl rfl Try.func43 (by kernel_rfl) rfl #[.agg #[.string a0_0, .slice A0_1 l0_1.length c0_1, .slice A0_2 l0_2.length c0_2]] rfl (by (try simp only [List.map_toArray, List.map_cons, List.map_nil]); first | done | rfl | (simp only [List.length_drop, List.length_take]; rfl)) ?_; (with_reducible refine (r09_Check.calls k a0_0 _ _ l0_1 _ _ l0_2 t103 t104 _ (tG HR0_1 HB) HC0_1.out (tG HR0_2 HB) HC0_2.out A3.out).mono ?_); rintro e w122 ⟨rfl, hb⟩; refine ⟨_, rfl, ?_⟩; replace BK101 := tL BK101 hb; replace BK102 := tL BK102 hb; replace HB := tA HB hb; (try clear hb); (try clear hb2); (try clear hk); (try clear hi)) | ((with_reducible refine gate_dst (N := 6) rfl ?_); (try (refine gate_guard (by rfl) ?_; dsimp only)); refine tBx 6 46 #[.int .i64 0, .int .i64 0] ?_; intro gb105 hg w123 hbox hb; have BK105 := Aside0.mk (hbox); have GW105 := tW HB hg; have GE105 := tW HB hg; replace HB := tA HB hb; have NB101_105 := tNl BK101 hg; have NB105_101 := tNg BK101 hg; replace BK101 := tL BK101 hb; have NB102_105 := tNl BK102 hg; have NB105_102 := tNg BK102 hg; replace BK102 := tL BK102 hb; clear hb hbox hg; have hnb124 := NB105_101.out; have hnc124 := NB101_105.out; have hnb125 := NB105_102.out; have hnc125 := NB102_105.out; obtain ⟨hcz126_0, hcz126_1, hfz126_0, hfz126_1⟩ := zc2 BK105))
 have n0_ : Aside0 (((w123.setCell ⟨gb105, 0, none⟩ (.int .i64 t103)).setCell ⟨gb105, 1, none⟩ (.int .i64 t104)).heap[gb101]? = some (.cells #[.string a0_0, .slice A0_1 l0_1.length c0_1, .slice A0_2 l0_2.length c0_2] 39 (0, 0))) := ⟨by (with_reducible repeat (first | refine blk_drewN ?_ _ | refine blk_drew ?_ | refine blk_alloc ?_ _)); refine blk_far ?_ NB101_105.out _; (with_reducible repeat (first | refine blk_drewN ?_ _ | refine blk_drew ?_ | refine blk_alloc ?_ _)); refine blk_far ?_ NB101_105.out _; (with_reducible repeat (first | refine blk_drewN ?_ _ | refine blk_drew ?_ | refine blk_alloc ?_ _)); exact BK101.out⟩
 have n1_ : Aside0 (((w123.setCell ⟨gb105, 0, none⟩ (.int .i64 t103)).setCell ⟨gb105, 1, none⟩ (.int .i64 t104)).heap[gb102]? = some (.cells #[.slice none 0 0, .slice none 0 0, .bool false] 25 (0, 0))) := ⟨by (with_reducible repeat (first | refine blk_drewN ?_ _ | refine blk_drew ?_ | refine blk_alloc ?_ _)); refine blk_far ?_ NB102_105.out _; (with_reducible repeat (first | refine blk_drewN ?_ _ | refine blk_drew ?_ | refine blk_alloc ?_ _)); refine blk_far ?_ NB102_105.out _; (with_reducible repeat (first | refine blk_drewN ?_ _ | refine blk_drew ?_ | refine blk_alloc ?_ _)); exact BK102.out⟩
 have n2_ : Aside0 (((w123.setCell ⟨gb105, 0, none⟩ (.int .i64 t103)).setCell ⟨gb105, 1, none⟩ (.int .i64 t104)).heap[gb105]? = some (.cells #[.int .i64 t103, .int .i64 t104] 46 (0, 0))) := ⟨by (with_reducible repeat (first | refine blk_drewN ?_ _ | refine blk_drew ?_ | refine blk_alloc ?_ _)); refine blk_put (cs := #[.int .i64 t103, .int .i64 0]) ?_ 1 _ rfl; (with_reducible repeat (first | refine blk_drewN ?_ _ | refine blk_drew ?_ | refine blk_alloc ?_ _)); refine blk_put (cs := #[.int .i64 0, .int .i64 0]) ?_ 0 _ rfl; (with_reducible repeat (first | refine blk_drewN ?_ _ | refine blk_drew ?_ | refine blk_alloc ?_ _)); exact BK105.out⟩
 have n3_ : Aside0 (Below w.heap.size w ((w123.setCell ⟨gb105, 0, none⟩ (.int .i64 t103)).setCell ⟨gb105, 1, none⟩ (.int .i64 t104))) := ⟨tB⟩
 (try clear BK101)
 (try clear BK102)
 (try clear BK105)
 (try clear HB)
 generalize ((w123.setCell ⟨gb105, 0, none⟩ (.int .i64 t103)).setCell ⟨gb105, 1, none⟩ (.int .i64 t104)) = w127 at n0_ n1_ n2_ n3_ ⊢
 have BK101 := n0_
 have BK102 := n1_
 have BK105 := n2_
 have HB := n3_
 clear n0_ n1_ n2_ n3_
 replace BK101 := Aside0.mk (blk_drew BK101.out)
 replace BK102 := Aside0.mk (blk_drew BK102.out)
 replace BK105 := Aside0.mk (blk_drew BK105.out)
 replace HB := Aside0.mk (below_drew1 HB.out)
 refine start_ (n := 5) (S := fun w' => w'.cell? ⟨gb105, 0, none⟩ = some (.int .i64 t103) ∧ w'.cell? ⟨gb105, 1, none⟩ = some (.int .i64 t104)) (ds := []) #[false, false, false, false, false] (by kernel_rfl) rfl rfl ⟨tz BK105 0, tz BK105 1⟩ (fun hHeld => ?_)
 generalize w127.drew = w128 at BK101 BK102 BK105 HB hHeld ⊢
 refine pure_ (i := 0) (N := some 21) (v := ?_) (a' := ?_) #[true, false, false, false, false] rfl rfl (by kernel_rfl) (fun _ _ _ h => h) (Or.inl ⟨by rfl, ?_⟩) ?_ ?_
 rotate_left
 ·intro w'
  go_simp
  with_reducible rfl
 rotate_left
 ·simp only [tS, i64_w, i32_w]
  rfl
 refine pure_ (i := 1) (N := some 22) (v := ?_) (a' := ?_) #[true, true, false, false, false] rfl rfl (by kernel_rfl) (fun _ _ _ h => h) (Or.inl ⟨by rfl, ?_⟩) ?_ ?_
 rotate_left
 ·intro w'
  go_simp
  with_reducible rfl
 rotate_left
 ·simp only [tS, i64_w, i32_w]
  rfl
 refine take_ (i := 2) (N := some 23) (v := ?_) (a' := ?_) #[true, true, true, false, false] rfl rfl (by kernel_rfl) (fun _ _ _ h => h) (Or.inl ⟨by rfl, ?_⟩) hHeld ?_ ?_
 rotate_left
 ·rintro w' ⟨s0, s1⟩
  go_simp
  with_reducible rfl
 rotate_left
 ·simp only [tS, i64_w, i32_w]
  rfl
 refine one_ (i := 3) (N := none) #[true, true, true, true, false] rfl rfl (by kernel_rfl) (by decide) (fun K hK => ?_)
 have hs129 : w128.cell? ⟨gb102, 0, none⟩ = some (.slice none 0 0) := tz BK102 0
 have hfs129 := blk_frozen BK102.out 0
 have hns129_0 := NB101_102.out
 have hns129_2 := NB105_102.out
 have hms129_0 := NB102_101.out
 have hms129_2 := NB102_105.out
 have hs130 : w128.cell? ⟨gb102, 1, none⟩ = some (.slice none 0 0) := tz BK102 1
 have hfs130 := blk_frozen BK102.out 1
 have hns130_0 := NB101_102.out
 have hns130_2 := NB105_102.out
 have hms130_0 := NB102_101.out
 have hms130_2 := NB102_105.out
 have hs131 : w128.cell? ⟨gb102, 2, none⟩ = some (.bool false) := tz BK102 2
 have hfs131 := blk_frozen BK102.out 2
 have hns131_0 := NB101_102.out
 have hns131_2 := NB105_102.out
 have hms131_0 := NB102_101.out
 have hms131_2 := NB102_105.out
 refine skip_ (w1 := ?_) (by rfl) rfl ?_ ?_
 rotate_left
 ·go_simp
  rfl
 refine hK.out _ _ ⟨((cell_far (p := ⟨gb102, _, none⟩) NB105_102.out _).trans (((cell_far (p := ⟨gb102, _, none⟩) NB105_102.out _).trans (((cell_far (p := ⟨gb102, _, none⟩) NB105_102.out _).trans (hHeld.1)))))), ((cell_far (p := ⟨gb102, _, none⟩) NB105_102.out _).trans (((cell_far (p := ⟨gb102, _, none⟩) NB105_102.out _).trans (((cell_far (p := ⟨gb102, _, none⟩) NB105_102.out _).trans (hHeld.2))))))⟩ (fun hHeld => ?_)
 clear hK K
 refine pure_ (i := 4) (N := some 5) (v := ?_) (a' := ?_) #[true, true, true, true, true] rfl rfl (by kernel_rfl) (fun _ _ _ h => h) (Or.inl ⟨by rfl, ?_⟩) ?_ ?_
 rotate_left
 ·intro w'
  go_simp
  with_reducible rfl
 rotate_left
 ·simp only [tS, i64_w, i32_w]
  rfl
 refine done_ (by kernel_rfl) ?_
 try go_wp2
 refine bodyPost_ret (results_ct rfl _ _ gb102 25 #[.slice none 0 0, .slice none 0 0, .bool false] (0, 0) _ rfl (by (with_reducible repeat (first | refine blk_drewN ?_ _ | refine blk_drew ?_ | refine blk_alloc ?_ _)); refine blk_put (cs := #[.slice none 0 0, .slice none 0 0, .bool false]) ?_ 2 _ rfl; (with_reducible repeat (first | refine blk_drewN ?_ _ | refine blk_drew ?_ | refine blk_alloc ?_ _)); refine blk_put (cs := #[.slice none 0 0, .slice none 0 0, .bool false]) ?_ 1 _ rfl; (with_reducible repeat (first | refine blk_drewN ?_ _ | refine blk_drew ?_ | refine blk_alloc ?_ _)); refine blk_put (cs := #[.slice none 0 0, .slice none 0 0, .bool false]) ?_ 0 _ rfl; (with_reducible repeat (first | refine blk_drewN ?_ _ | refine blk_drew ?_ | refine blk_alloc ?_ _)); exact BK102.out) Try.underlying25 rfl (by kernel_rfl)) rfl ?_
 exact ⟨_, _, tE, by first | exact Kd.S_nil _ _ _ _ _ | exact Kd.N_nil _ _ _ _ _ | exact Kd.V_nil _ _ _ _ _ | exact Kd.Q_nil _ _ _ _ _ | exact Kd.R_nil _ _ _ _ _, by first | exact Kd.R_nil _ _ _ _ _ | exact Kd.N_nil _ _ _ _ _ | exact Kd.V_nil _ _ _ _ _ | exact Kd.Q_nil _ _ _ _ _ | exact Kd.S_nil _ _ _ _ _, tB⟩
def r09_Initial.l0 : Nat → List Int → Int → ByteArray → List (S71) → List (S74) → Option (List Int)
 | 0, _, _, _, _, _ => none
 | k + 1, x3, x4, x102000, x102001, x102002 => if x4 < (x102001.length : Int) then ((r09_Valid.f k x102000 x102001 x102002).bind fun t102 => (if t102 = true then (if 0 ≤ x4 then (if x3.length < 17592186044416 then (r09_Initial.l0 k (x3 ++ [(rd_T71 x102001 x4).f1]) (wrap64 (x4 + 1)) x102000 x102001 x102002) else (none)) else (none)) else (some x3))) else (some x3)
def r09_Initial.f (k : Nat) (a0_0 : ByteArray) (l0_1 : List (S71)) (l0_2 : List (S74)) : Option (List Int) := r09_Initial.l0 k ([] : List Int) 0 a0_0 l0_1 l0_2
set_option maxHeartbeats 8000000 in
set_option maxRecDepth 100000 in
theorem r09_Initial.calls (k : Nat) (a0_0 : ByteArray) (A0_1 : Option Addr) (c0_1 : Nat) (l0_1 : List (S71)) (A0_2 : Option Addr) (c0_2 : Nat) (l0_2 : List (S74)) (r : List Int) (w : World) (hr0_1 : Kd.C k71 w A0_1 l0_1.length l0_1) (hc0_1 : l0_1.length ≤ c0_1) (hr0_2 : Kd.C k74 w A0_2 l0_2.length l0_2) (hc0_2 : l0_2.length ≤ c0_2) (h : r09_Initial.f k a0_0 l0_1 l0_2 = some r) :
  Calls Try.prog 22 #[.agg #[.string a0_0, .slice A0_1 l0_1.length c0_1, .slice A0_2 l0_2.length c0_2]] w fun e w' => ∃ v0_ : Value, e = .returned (v0_) ∧ Kd.R (Kd.int .i64) 3 w' w.heap.size (fun _ => True) v0_ r ∧ Below w.heap.size w w' := by
 have hu39 := Try.underlying39
 have HR0_1 := Aside0.mk hr0_1
 have HC0_1 := Aside0.mk hc0_1
 clear hr0_1 hc0_1
 have HR0_2 := Aside0.mk hr0_2
 have HC0_2 := Aside0.mk hc0_2
 clear hr0_2 hc0_2
 have HB := Aside0.mk (Below.refl w.heap.size w)
 have H : (r09_Initial.l0 k ([] : List Int) 0 a0_0 l0_1 l0_2) = some r := h
 clear h
 have H' := Aside0.mk H
 clear H
 go_enter Try.func22, Try.ntmps22
 go_wp2_with (first | ((with_reducible refine gate_dst (N := 1) rfl ?_); refine tBx 1 39 #[.string a0_0, .slice A0_1 l0_1.length c0_1, .slice A0_2 l0_2.length c0_2] ?_; intro gb101 hg w2 hbox hb; have BK101 := Aside0.mk (hbox); have GW101 := tW HB hg; have GE101 := tW HB hg; replace HB := tA HB hb; clear hb hbox hg))
 go_loopg [3, 4] k (fun kq v3 v4 w' => ∃ (x3_1 : List Int) (x4_1 : Int), v4 = .int .i64 x4_1 ∧ Aside0 (r09_Initial.l0 kq x3_1 x4_1 a0_0 l0_1 l0_2 = some r) ∧ Aside0 (kq ≤ k) ∧ Aside0 (Kd.R (Kd.int .i64) 3 w' w.heap.size (fun _ => True) v3 x3_1) ∧ Aside0 (w'.heap[gb101]? = some (.cells #[.string a0_0, (.slice A0_1 l0_1.length c0_1), (.slice A0_2 l0_2.length c0_2)] 39 (0, 0))) ∧ Aside0 (Below w.heap.size w w'))
 case atStart => exact ⟨(([] : List Int)), (0), tU, H', ⟨Nat.le_refl _⟩, ⟨tV⟩, ⟨tK BK101⟩, ⟨tB⟩⟩
 case round =>
  clear H'
  (try clear c2); (try clear p2)
  obtain ⟨x3_1, x4_1, rfl, HA, HK1, HO_3, BK101, HB⟩ := hrel
  cases gk with
  | zero => exact absurd HA.out (by simp [r09_Initial.l0])
  | succ k1 =>
   have H := HA.out
   clear HA
   simp only [r09_Initial.l0] at H
   by_cases c3 : x4_1 < (l0_1.length : Int)
   ·rw [if_pos c3] at H
    have c3b0 := decide_eq_true c3
    clear c3
    replace H := Option.bind_eq_some_iff.mp H
    obtain ⟨t102, A40, H⟩ := H
    (try dsimp only at H)
    have A4 := Aside0.mk A40
    clear A40
    by_cases c5 : t102 = true
    ·subst c5
     rw [if_pos rfl] at H
     replace H := tF H
     obtain ⟨c6, H⟩ := H
     have c6b0 := decide_eq_true c6
     clear c6
     replace H := tF H
     obtain ⟨c7, H⟩ := H
     have LMc7 := Aside0.mk c7
     clear c7
     obtain ⟨y104, hy104⟩ : ∃ y_ : List Int, y_ = (x3_1 ++ [(rd_T71 l0_1 x4_1).f1]) := ⟨_, rfl⟩
     replace H : (r09_Initial.l0 k1 y104 (wrap64 (x4_1 + 1)) a0_0 l0_1 l0_2) = some r := tQ hy104 H
     have Ny104 := Aside0.mk hy104
     clear hy104
     have H' := Aside0.mk H
     clear H
     obtain ⟨hcz8_0, hcz8_1, hcz8_2, hfz8_0, hfz8_1, hfz8_2⟩ := zc3 BK101
     go_wp2_with (first | (go_at_call 20; (with_reducible refine (r09_Valid.calls k1 a0_0 _ _ l0_1 _ _ l0_2 true _ (tG HR0_1 HB) HC0_1.out (tG HR0_2 HB) HC0_2.out A4.out).mono ?_); rintro e w9 ⟨rfl, hb⟩; replace HO_3 := Aside0.mk (Kd.R_below (tR HO_3) hb); replace BK101 := tL BK101 hb; replace HB := tA HB hb; (try clear hb); (try clear hb2); (try clear hk); (try clear hi); obtain ⟨hcz10_0, hcz10_1, hcz10_2, hfz10_0, hfz10_1, hfz10_2⟩ := zc3 BK101; have p103 : 0 ≤ (x4_1 : Int) := tD; have q103 : x4_1 < (l0_1.length : Int) := tD; obtain ⟨ad103, e103, hx103_0, hx103_1, hx103_2⟩ := at_T71 HR0_1.out x4_1 p103 q103; cases e103; replace hx103_0 := tH HB hx103_0; replace hx103_1 := tH HB hx103_1; replace hx103_2 := tH HB hx103_2; replace p103 := eq_true p103; replace q103 := eq_true q103) | ((with_reducible refine gate_builtin (b := .append) (xs := #[.tmp 16, .tmp 23]) rfl ?_); at_builtin; refine Kd.R_append (Kd.int .i64) (w0 := w) w.heap.size rfl (.tmp 16) (.tmp 23) 28 3 (.int .i64 0) 8 rfl Try.underlying28 info3 rfl (by decide) (by omega) u3 x3_1 ((rd_T71 l0_1 x4_1).f1) [.int .i64 ((rd_T71 l0_1 x4_1).f1)] (fun _ => True) (fun _ => False) rfl rfl ?aP (fun _ hk => hk.elim) ?aF ?aO ?aB ?aS ?aL ?_; (case aP => exact rfl); (case aB => exact (tB)); (case aF => exact (fun _ _ => trivial)); (case aO => exact (tR HO_3)); (case aS => exact (below_size (tB))); (case aL => have := LMc7.out; omega); intro v105 w11 ho hb hg hat; rw [← Ny104.out] at ho; replace BK101 := Aside0.mk (blk_grown (g := gb101) (o := .cells #[.string a0_0, .slice (some ad103) l0_1.length c0_1, .slice A0_2 l0_2.length c0_2] 39 (0, 0)) (tK BK101) hg (Kd.R_ne HO_3.out BK101.out (by decide))); replace HB := Aside0.mk (hb); have HO106 := Aside0.mk (ho); clear HO_3; clear ho hb hg hat))
     go_roundg k1
     case measure => have := HK1.out; omega
     case rel => exact ⟨(y104), (wrap64 (x4_1 + 1)), tU, H', ⟨by have := HK1.out; omega⟩, ⟨tR HO106⟩, ⟨tK BK101⟩, ⟨tB⟩⟩
    replace c5 := Bool.eq_false_iff.mpr c5
    subst c5
    rw [if_neg (show ¬ (false = true) by decide)] at H
    obtain rfl := Option.some.inj H
    obtain ⟨hcz12_0, hcz12_1, hcz12_2, hfz12_0, hfz12_1, hfz12_2⟩ := zc3 BK101
    go_wp2_with (first | (go_at_call 20; (with_reducible refine (r09_Valid.calls k1 a0_0 _ _ l0_1 _ _ l0_2 false _ (tG HR0_1 HB) HC0_1.out (tG HR0_2 HB) HC0_2.out A4.out).mono ?_); rintro e w13 ⟨rfl, hb⟩; replace HO_3 := Aside0.mk (Kd.R_below (tR HO_3) hb); replace BK101 := tL BK101 hb; replace HB := tA HB hb; (try clear hb); (try clear hb2); (try clear hk); (try clear hi)))
    go_ret
    exact ⟨_, tE, by (with_reducible repeat (first | apply Kd.R_alloc | apply Kd.R_drewN | apply Kd.R_drew)); exact HO_3.out, tB⟩
   rw [if_neg c3] at H
   have c3b0 := decide_eq_false c3
   clear c3
   obtain rfl := Option.some.inj H
   obtain ⟨hcz14_0, hcz14_1, hcz14_2, hfz14_0, hfz14_1, hfz14_2⟩ := zc3 BK101
   go_wp2
   go_ret
   exact ⟨_, tE, by (with_reducible repeat (first | apply Kd.R_alloc | apply Kd.R_drewN | apply Kd.R_drew)); exact HO_3.out, tB⟩
def r04_Valid.l0 : Nat → List Int → Int → Int → Option (Bool)
 | 0, _, _, _ => none
 | k + 1, x0, x1, x5 => if x5 < (x0.length : Int) then (if 0 ≤ x5 then (if (rd x0 x5) < 0 then (some false) else (if (rd x0 x5) > 1048576 then (some false) else (r04_Valid.l0 k x0 x1 (wrap64 (x5 + 1))))) else (none)) else (some ((x0.length : Int) == x1))
def r04_Valid.f (k : Nat) (l0 : List Int) (a1 : Int) : Option (Bool) := r04_Valid.l0 k l0 a1 0
set_option maxHeartbeats 8000000 in
set_option maxRecDepth 100000 in
theorem r04_Valid.calls (k : Nat) (A0 : Option Addr) (c0 : Nat) (l0 : List Int) (a1 : Int) (r : Bool) (w : World) (hr0 : Kd.C (Kd.int .i64) w A0 l0.length l0) (hc0 : l0.length ≤ c0) (h : r04_Valid.f k l0 a1 = some r) :
  Calls Try.prog 46 #[.slice A0 l0.length c0, .int .i64 a1] w fun e w' => e = .returned (.bool r) ∧ Drawn0 w w' := by
 have HR0 := Aside0.mk hr0
 have HC0 := Aside0.mk hc0
 clear hr0 hc0
 have H : (r04_Valid.l0 k l0 a1 0) = some r := h
 clear h
 have H' := Aside0.mk H
 clear H
 go_enter Try.func46, Try.ntmps46
 go_wp2
 go_loopg [5] k (fun kq v5 w' => ∃ (x5_1 : Int), v5 = .int .i64 x5_1 ∧ Aside0 (r04_Valid.l0 kq l0 a1 x5_1 = some r) ∧ Aside0 (kq ≤ k) ∧ Drawn0 w w')
 case atStart => exact ⟨(0), tU, H', ⟨Nat.le_refl _⟩, by repeat (first | exact Drawn0.refl _ | apply Drawn0.step)⟩
 case round =>
  clear H'
  try clear p2
  obtain ⟨x5_1, rfl, HA, HK1, ⟨m1, rfl⟩⟩ := hrel
  cases gk with
  | zero => exact absurd HA.out (by simp [r04_Valid.l0])
  | succ k1 =>
   have H := HA.out
   clear HA
   simp only [r04_Valid.l0] at H
   by_cases c3 : x5_1 < (l0.length : Int)
   ·rw [if_pos c3] at H
    have c3b0 := decide_eq_true c3
    clear c3
    replace H := tF H
    obtain ⟨c4, H⟩ := H
    have c4b0 := decide_eq_true c4
    clear c4
    by_cases c5 : (rd l0 x5_1) < 0
    ·rw [if_pos c5] at H
     have c5b0 := decide_eq_true c5
     clear c5
     obtain rfl := Option.some.inj H
     have p101 : 0 ≤ (x5_1 : Int) := tD
     have q101 : x5_1 < (l0.length : Int) := tD
     obtain ⟨ad101, e101, hx101_0⟩ := Kd.at_int HR0.out x5_1 p101 q101
     cases e101
     replace p101 := eq_true p101
     replace q101 := eq_true q101
     go_wp2
     go_ret
     exact ⟨by first | rfl | (simp; done) | (simp [*]; done), by repeat (first | exact Drawn0.refl _ | apply Drawn0.step)⟩
    rw [if_neg c5] at H
    have c5b0 := decide_eq_false c5
    clear c5
    by_cases c6 : (rd l0 x5_1) > 1048576
    ·rw [if_pos c6] at H
     have c6b0 := tdGi c6
     clear c6
     obtain rfl := Option.some.inj H
     have p101 : 0 ≤ (x5_1 : Int) := tD
     have q101 : x5_1 < (l0.length : Int) := tD
     obtain ⟨ad101, e101, hx101_0⟩ := Kd.at_int HR0.out x5_1 p101 q101
     cases e101
     replace p101 := eq_true p101
     replace q101 := eq_true q101
     have p102 : 0 ≤ (x5_1 : Int) := tD
     have q102 : x5_1 < (l0.length : Int) := tD
     obtain ⟨ad102, e102, hx102_0⟩ := Kd.at_int HR0.out x5_1 p102 q102
     obtain rfl : ad101 = ad102 := (by injection e102)
     replace p102 := eq_true p102
     replace q102 := eq_true q102
     go_wp2
     go_ret
     exact ⟨by first | rfl | (simp; done) | (simp [*]; done), by repeat (first | exact Drawn0.refl _ | apply Drawn0.step)⟩
    rw [if_neg c6] at H
    have c6b0 := tdHi c6
    clear c6
    have H' := Aside0.mk H
    clear H
    have p101 : 0 ≤ (x5_1 : Int) := tD
    have q101 : x5_1 < (l0.length : Int) := tD
    obtain ⟨ad101, e101, hx101_0⟩ := Kd.at_int HR0.out x5_1 p101 q101
    cases e101
    replace p101 := eq_true p101
    replace q101 := eq_true q101
    have p102 : 0 ≤ (x5_1 : Int) := tD
    have q102 : x5_1 < (l0.length : Int) := tD
    obtain ⟨ad102, e102, hx102_0⟩ := Kd.at_int HR0.out x5_1 p102 q102
    obtain rfl : ad101 = ad102 := (by injection e102)
    replace p102 := eq_true p102
    replace q102 := eq_true q102
    go_wp2
    go_roundg k1
    case measure => have := HK1.out; omega
    case rel => exact ⟨(wrap64 (x5_1 + 1)), tU, H', ⟨by have := HK1.out; omega⟩, by repeat (first | exact Drawn0.refl _ | apply Drawn0.step)⟩
   rw [if_neg c3] at H
   have c3b0 := decide_eq_false c3
   clear c3
   obtain rfl := Option.some.inj H
   go_wp2
   go_ret
   exact ⟨by first | rfl | (simp; done) | (simp [*]; done), by repeat (first | exact Drawn0.refl _ | apply Drawn0.step)⟩
def r04_Copy.l0 : Nat → List Int → List Int → Int → Option (List Int)
 | 0, _, _, _ => none
 | k + 1, x0, x3, x4 => if x4 < (x0.length : Int) then (if 0 ≤ x4 then (if x3.length < 17592186044416 then (r04_Copy.l0 k x0 (x3 ++ [rd x0 x4]) (wrap64 (x4 + 1))) else (none)) else (none)) else (some x3)
def r04_Copy.f (k : Nat) (l0 : List Int) : Option (List Int) := r04_Copy.l0 k l0 ([] : List Int) 0
set_option maxHeartbeats 8000000 in
set_option maxRecDepth 100000 in
theorem r04_Copy.calls (k : Nat) (A0 : Option Addr) (c0 : Nat) (l0 : List Int) (r : List Int) (w : World) (hr0 : Kd.C (Kd.int .i64) w A0 l0.length l0) (hc0 : l0.length ≤ c0) (h : r04_Copy.f k l0 = some r) :
  Calls Try.prog 47 #[.slice A0 l0.length c0] w fun e w' => ∃ v0_ : Value, e = .returned (v0_) ∧ Kd.R (Kd.int .i64) 3 w' w.heap.size (fun _ => True) v0_ r ∧ Below w.heap.size w w' := by
 have HR0 := Aside0.mk hr0
 have HC0 := Aside0.mk hc0
 clear hr0 hc0
 have HB := Aside0.mk (Below.refl w.heap.size w)
 have H : (r04_Copy.l0 k l0 ([] : List Int) 0) = some r := h
 clear h
 have H' := Aside0.mk H
 clear H
 go_enter Try.func47, Try.ntmps47
 go_wp2
 go_loopg [3, 4] k (fun kq v3 v4 w' => ∃ (x3_1 : List Int) (x4_1 : Int), v4 = .int .i64 x4_1 ∧ Aside0 (r04_Copy.l0 kq l0 x3_1 x4_1 = some r) ∧ Aside0 (kq ≤ k) ∧ Aside0 (Kd.R (Kd.int .i64) 3 w' w.heap.size (fun _ => True) v3 x3_1) ∧ Aside0 (Below w.heap.size w w'))
 case atStart => exact ⟨(([] : List Int)), (0), tU, H', ⟨Nat.le_refl _⟩, ⟨tV⟩, ⟨tB⟩⟩
 case round =>
  clear H'
  obtain ⟨x3_1, x4_1, rfl, HA, HK1, HO_3, HB⟩ := hrel
  cases gk with
  | zero => exact absurd HA.out (by simp [r04_Copy.l0])
  | succ k1 =>
   have H := HA.out
   clear HA
   simp only [r04_Copy.l0] at H
   by_cases c2 : x4_1 < (l0.length : Int)
   ·rw [if_pos c2] at H
    have c2b0 := decide_eq_true c2
    clear c2
    replace H := tF H
    obtain ⟨c3, H⟩ := H
    have c3b0 := decide_eq_true c3
    clear c3
    replace H := tF H
    obtain ⟨c4, H⟩ := H
    have LMc4 := Aside0.mk c4
    clear c4
    obtain ⟨y102, hy102⟩ : ∃ y_ : List Int, y_ = (x3_1 ++ [rd l0 x4_1]) := ⟨_, rfl⟩
    replace H : (r04_Copy.l0 k1 l0 y102 (wrap64 (x4_1 + 1))) = some r := tQ hy102 H
    have Ny102 := Aside0.mk hy102
    clear hy102
    have H' := Aside0.mk H
    clear H
    have p101 : 0 ≤ (x4_1 : Int) := tD
    have q101 : x4_1 < (l0.length : Int) := tD
    obtain ⟨ad101, e101, hx101_0⟩ := Kd.at_int HR0.out x4_1 p101 q101
    cases e101
    replace hx101_0 := tH HB hx101_0
    replace p101 := eq_true p101
    replace q101 := eq_true q101
    go_wp2_with (first | ((with_reducible refine gate_builtin (b := .append) (xs := #[.tmp 11, .tmp 16]) rfl ?_); at_builtin; refine Kd.R_append (Kd.int .i64) (w0 := w) w.heap.size rfl (.tmp 11) (.tmp 16) 28 3 (.int .i64 0) 8 rfl Try.underlying28 info3 rfl (by decide) (by omega) u3 x3_1 (rd l0 x4_1) [.int .i64 (rd l0 x4_1)] (fun _ => True) (fun _ => False) rfl rfl ?aP (fun _ hk => hk.elim) ?aF ?aO ?aB ?aS ?aL ?_; (case aP => exact rfl); (case aB => exact (tB)); (case aF => exact (fun _ _ => trivial)); (case aO => exact (tR HO_3)); (case aS => exact (below_size (tB))); (case aL => have := LMc4.out; omega); intro v103 w5 ho hb hg hat; rw [← Ny102.out] at ho; replace HB := Aside0.mk (hb); have HO104 := Aside0.mk (ho); clear HO_3; clear ho hb hg hat))
    go_roundg k1
    case measure => have := HK1.out; omega
    case rel => exact ⟨(y102), (wrap64 (x4_1 + 1)), tU, H', ⟨by have := HK1.out; omega⟩, ⟨tR HO104⟩, ⟨tB⟩⟩
   rw [if_neg c2] at H
   have c2b0 := decide_eq_false c2
   clear c2
   obtain rfl := Option.some.inj H
   go_wp2
   go_ret
   exact ⟨_, tE, by (with_reducible repeat (first | apply Kd.R_alloc | apply Kd.R_drewN | apply Kd.R_drew)); exact HO_3.out, tB⟩
def r11_has.l0 : Nat → List Int → Int → Int → Option (Bool)
 | 0, _, _, _ => none
 | k + 1, x0, x1, x5 => if x5 < (x0.length : Int) then (if 0 ≤ x5 then (if (rd x0 x5) = x1 then (some true) else (r11_has.l0 k x0 x1 (wrap64 (x5 + 1)))) else (none)) else (some false)
def r11_has.f (k : Nat) (l0 : List Int) (a1 : Int) : Option (Bool) := r11_has.l0 k l0 a1 0
set_option maxHeartbeats 8000000 in
set_option maxRecDepth 100000 in
theorem r11_has.calls (k : Nat) (A0 : Option Addr) (c0 : Nat) (l0 : List Int) (a1 : Int) (r : Bool) (w : World) (hr0 : Kd.C (Kd.int .i64) w A0 l0.length l0) (hc0 : l0.length ≤ c0) (h : r11_has.f k l0 a1 = some r) :
  Calls Try.prog 64 #[.slice A0 l0.length c0, .int .i64 a1] w fun e w' => e = .returned (.bool r) ∧ Drawn0 w w' := by
 have HR0 := Aside0.mk hr0
 have HC0 := Aside0.mk hc0
 clear hr0 hc0
 have H : (r11_has.l0 k l0 a1 0) = some r := h
 clear h
 have H' := Aside0.mk H
 clear H
 go_enter Try.func64, Try.ntmps64
 go_wp2
 go_loopg [5] k (fun kq v5 w' => ∃ (x5_1 : Int), v5 = .int .i64 x5_1 ∧ Aside0 (r11_has.l0 kq l0 a1 x5_1 = some r) ∧ Aside0 (kq ≤ k) ∧ Drawn0 w w')
 case atStart => exact ⟨(0), tU, H', ⟨Nat.le_refl _⟩, by repeat (first | exact Drawn0.refl _ | apply Drawn0.step)⟩
 case round =>
  clear H'
  try clear p2
  obtain ⟨x5_1, rfl, HA, HK1, ⟨m1, rfl⟩⟩ := hrel
  cases gk with
  | zero => exact absurd HA.out (by simp [r11_has.l0])
  | succ k1 =>
   have H := HA.out
   clear HA
   simp only [r11_has.l0] at H
   by_cases c3 : x5_1 < (l0.length : Int)
   ·rw [if_pos c3] at H
    have c3b0 := decide_eq_true c3
    clear c3
    replace H := tF H
    obtain ⟨c4, H⟩ := H
    have c4b0 := decide_eq_true c4
    clear c4
    by_cases c5 : (rd l0 x5_1) = a1
    ·rw [if_pos c5] at H
     have c5b0 := beq_iff_eq.mpr c5
     have c5b1 := bne_eq_false_iff_eq.mpr c5
     clear c5
     obtain rfl := Option.some.inj H
     have p101 : 0 ≤ (x5_1 : Int) := tD
     have q101 : x5_1 < (l0.length : Int) := tD
     obtain ⟨ad101, e101, hx101_0⟩ := Kd.at_int HR0.out x5_1 p101 q101
     cases e101
     replace p101 := eq_true p101
     replace q101 := eq_true q101
     go_wp2
     go_ret
     exact ⟨by first | rfl | (simp; done) | (simp [*]; done), by repeat (first | exact Drawn0.refl _ | apply Drawn0.step)⟩
    rw [if_neg c5] at H
    have c5b0 := beq_eq_false_iff_ne.mpr c5
    have c5b1 := bne_iff_ne.mpr c5
    have H' := Aside0.mk H
    clear H
    have p101 : 0 ≤ (x5_1 : Int) := tD
    have q101 : x5_1 < (l0.length : Int) := tD
    obtain ⟨ad101, e101, hx101_0⟩ := Kd.at_int HR0.out x5_1 p101 q101
    cases e101
    replace p101 := eq_true p101
    replace q101 := eq_true q101
    go_wp2
    go_roundg k1
    case measure => have := HK1.out; omega
    case rel => exact ⟨(wrap64 (x5_1 + 1)), tU, H', ⟨by have := HK1.out; omega⟩, by repeat (first | exact Drawn0.refl _ | apply Drawn0.step)⟩
   rw [if_neg c3] at H
   have c3b0 := decide_eq_false c3
   clear c3
   obtain rfl := Option.some.inj H
   go_wp2
   go_ret
   exact ⟨by first | rfl | (simp; done) | (simp [*]; done), by repeat (first | exact Drawn0.refl _ | apply Drawn0.step)⟩
def r11_Fire.j0 : Nat → List Int → Int → Bool → ByteArray → List (S71) → List (S74) → Option (List Int × Int)
 | 0, _, _, _, _, _, _ => none
 | k + 1, x1, x2, x32, x102000, x102001, x102002 => if x32 = true then (some (([] : List Int), 1)) else ((r11_Fires.f k x102000 x102001 x102002 x1).bind fun t106 => ((r11_has.f k t106 x2).bind fun t109 => (if t109 = true then ((r11_After.f k x102000 x102001 x102002 x1 x2).bind fun bt110 => (if bt110.2 = true then (some (bt110.1, 0)) else (some (([] : List Int), 3)))) else (some (([] : List Int), 13)))))
def r11_Fire.f (k : Nat) (a0_0 : ByteArray) (l0_1 : List (S71)) (l0_2 : List (S74)) (l1 : List Int) (a2 : Int) : Option (List Int × Int) := (r09_Check.f k a0_0 l0_1 l0_2).bind fun bt102 => (if bt102.1 = 0 then ((r04_Valid.f k l1 (l0_1.length : Int)).bind fun t105 => (if t105 = true then (if a2 < 0 then (r11_Fire.j0 k l1 a2 true a0_0 l0_1 l0_2) else (r11_Fire.j0 k l1 a2 (decide (a2 ≥ (l0_2.length : Int))) a0_0 l0_1 l0_2)) else (some (([] : List Int), 2)))) else (some (([] : List Int), bt102.1)))
set_option maxHeartbeats 8000000 in
set_option maxRecDepth 100000 in
theorem r11_Fire.calls (k : Nat) (a0_0 : ByteArray) (A0_1 : Option Addr) (c0_1 : Nat) (l0_1 : List (S71)) (A0_2 : Option Addr) (c0_2 : Nat) (l0_2 : List (S74)) (A1 : Option Addr) (c1 : Nat) (l1 : List Int) (a2 : Int) (r1 : List Int) (r2 : Int) (w : World) (hr0_1 : Kd.C k71 w A0_1 l0_1.length l0_1) (hc0_1 : l0_1.length ≤ c0_1) (hr0_2 : Kd.C k74 w A0_2 l0_2.length l0_2) (hc0_2 : l0_2.length ≤ c0_2) (hr1 : Kd.C (Kd.int .i64) w A1 l1.length l1) (hc1 : l1.length ≤ c1) (h : r11_Fire.f k a0_0 l0_1 l0_2 l1 a2 = some (r1, r2)) :
  Calls Try.prog 48 #[.agg #[.string a0_0, .slice A0_1 l0_1.length c0_1, .slice A0_2 l0_2.length c0_2], .slice A1 l1.length c1, .int .i64 a2] w fun e w' => ∃ v0_ : Value, e = .returned (.tuple #[v0_, .int .i64 r2]) ∧ Kd.R (Kd.int .i64) 3 w' w.heap.size (fun _ => True) v0_ r1 ∧ Below w.heap.size w w' := by
 have hu39 := Try.underlying39
 have hu46 := Try.underlying46
 have HR0_1 := Aside0.mk hr0_1
 have HC0_1 := Aside0.mk hc0_1
 clear hr0_1 hc0_1
 have HR0_2 := Aside0.mk hr0_2
 have HC0_2 := Aside0.mk hc0_2
 clear hr0_2 hc0_2
 have HR1 := Aside0.mk hr1
 have HC1 := Aside0.mk hc1
 clear hr1 hc1
 have HB := Aside0.mk (Below.refl w.heap.size w)
 have H : ((r09_Check.f k a0_0 l0_1 l0_2).bind fun bt102 => (if bt102.1 = 0 then ((r04_Valid.f k l1 (l0_1.length : Int)).bind fun t105 => (if t105 = true then (if a2 < 0 then (r11_Fire.j0 k l1 a2 true a0_0 l0_1 l0_2) else (r11_Fire.j0 k l1 a2 (decide (a2 ≥ (l0_2.length : Int))) a0_0 l0_1 l0_2)) else (some (([] : List Int), 2)))) else (some (([] : List Int), bt102.1)))) = some (r1, r2) := h
 clear h
 replace H := Option.bind_eq_some_iff.mp H
 obtain ⟨⟨t102, t103⟩, A40, H⟩ := H
 (try dsimp only at H)
 have A4 := Aside0.mk A40
 clear A40
 by_cases c5 : t102 = 0
 ·rw [if_pos c5] at H
  have c5b0 := beq_iff_eq.mpr c5
  have c5b1 := bne_eq_false_iff_eq.mpr c5
  clear c5
  replace H := Option.bind_eq_some_iff.mp H
  obtain ⟨t105, A60, H⟩ := H
  (try dsimp only at H)
  have A6 := Aside0.mk A60
  clear A60
  by_cases c7 : t105 = true
  ·subst c7
   rw [if_pos rfl] at H
   have HC8 := Aside0.mk H
   clear H
   go_enter Try.func48, Try.ntmps48
   go_upto_region 6 with (first | ((with_reducible refine gate_dst (N := 3) rfl ?_); (try (refine gate_guard (by rfl) ?_; dsimp only)); refine tBx 3 39 #[.string a0_0, .slice A0_1 l0_1.length c0_1, .slice A0_2 l0_2.length c0_2] ?_; intro gb101 hg w9 hbox hb; have BK101 := Aside0.mk (hbox); have GW101 := tW HB hg; have GE101 := tW HB hg; replace HB := tA HB hb; clear hb hbox hg; obtain ⟨hcz10_0, hcz10_1, hcz10_2, hfz10_0, hfz10_1, hfz10_2⟩ := zc3 BK101) | (go_at_call 43; (with_reducible refine (r09_Check.calls k a0_0 _ _ l0_1 _ _ l0_2 t102 t103 _ (tG HR0_1 HB) HC0_1.out (tG HR0_2 HB) HC0_2.out A4.out).mono ?_); rintro e w11 ⟨rfl, hb⟩; replace BK101 := tL BK101 hb; replace HB := tA HB hb; (try clear hb); (try clear hb2); (try clear hk); (try clear hi)) | ((with_reducible refine gate_dst (N := 8) rfl ?_); (try (refine gate_guard (by rfl) ?_; dsimp only)); refine tBx 8 46 #[.int .i64 0, .int .i64 0] ?_; intro gb104 hg w12 hbox hb; have BK104 := Aside0.mk (hbox); have GW104 := tW HB hg; have GE104 := tW HB hg; replace HB := tA HB hb; have NB101_104 := tNl BK101 hg; have NB104_101 := tNg BK101 hg; replace BK101 := tL BK101 hb; clear hb hbox hg; have hnb13 := NB104_101.out; have hnc13 := NB101_104.out; obtain ⟨hcz14_0, hcz14_1, hfz14_0, hfz14_1⟩ := zc2 BK104; obtain ⟨hcz15_0, hcz15_1, hcz15_2, hfz15_0, hfz15_1, hfz15_2⟩ := zc3 BK101) | (go_at_call 46; (with_reducible refine (r04_Valid.calls k _ _ l1 (l0_1.length : Int) true _ (Kd.C_below HR1.out (tB)) HC1.out A6.out).mono ?_); rintro e w' ⟨rfl, ⟨nd, rfl⟩⟩; (try first | exact ⟨rfl, _, World.drewN_drewN _ _ _⟩ | exact ⟨rfl, _, Eq.trans (World.drewN_drewN _ _ _) (congrArg (World.drewN _) (Nat.add_assoc _ _ _))⟩)) | go_quiet ((go_at_call 46; (with_reducible refine (r04_Valid.calls k _ _ l1 (l0_1.length : Int) true _ (Kd.C_below HR1.out (tB)) HC1.out A6.out).mono ?_); rintro e w' ⟨rfl, ⟨nd, rfl⟩⟩; (try first | exact ⟨rfl, _, World.drewN_drewN _ _ _⟩ | exact ⟨rfl, _, Eq.trans (World.drewN_drewN _ _ _) (congrArg (World.drewN _) (Nat.add_assoc _ _ _))⟩))))
   (try simp only [Act.put, List.setIfInBounds_toArray, List.set_cons_zero, List.set_cons_succ])
   go_cut [32] (fun v32 wc => ∃ (kq : Nat) (x32_7 : Bool), v32 = .bool x32_7 ∧ Aside0 (r11_Fire.j0 kq l1 a2 x32_7 a0_0 l0_1 l0_2 = some (r1, r2)) ∧ Aside0 (kq ≤ k) ∧ Aside0 (wc.heap[gb101]? = some (.cells #[.string a0_0, (.slice A0_1 l0_1.length c0_1), (.slice A0_2 l0_2.length c0_2)] 39 (0, 0))) ∧ Aside0 (wc.heap[gb104]? = some (.cells #[.int .i64 t102, .int .i64 t103] 46 (0, 0))) ∧ Aside0 (Below w.heap.size w wc))
   case first =>
    have H := HC8.out
    clear HC8
    by_cases c16 : a2 < 0
    ·rw [if_pos c16] at H
     have c16b0 := decide_eq_true c16
     clear c16
     (first | rw [c16b0] | (simp only [i64_w, i32_w]; rw [c16b0]) | skip)
     have H' := Aside0.mk H
     clear H
     go_wp2
     repeat (go_quiet (fail); try go_wp2)
     go_meet
     case rel => exact ⟨_, (true), tU, H', ⟨by first | omega | exact Nat.le_refl _⟩, ⟨by (with_reducible repeat (first | refine blk_drewN ?_ _ | refine blk_drew ?_ | refine blk_alloc ?_ _)); refine blk_far ?_ NB101_104.out _; (with_reducible repeat (first | refine blk_drewN ?_ _ | refine blk_drew ?_ | refine blk_alloc ?_ _)); refine blk_far ?_ NB101_104.out _; (with_reducible repeat (first | refine blk_drewN ?_ _ | refine blk_drew ?_ | refine blk_alloc ?_ _)); exact BK101.out⟩, ⟨by (with_reducible repeat (first | refine blk_drewN ?_ _ | refine blk_drew ?_ | refine blk_alloc ?_ _)); refine blk_put (cs := #[.int .i64 t102, .int .i64 0]) ?_ 1 _ rfl; (with_reducible repeat (first | refine blk_drewN ?_ _ | refine blk_drew ?_ | refine blk_alloc ?_ _)); refine blk_put (cs := #[.int .i64 0, .int .i64 0]) ?_ 0 _ rfl; (with_reducible repeat (first | refine blk_drewN ?_ _ | refine blk_drew ?_ | refine blk_alloc ?_ _)); exact BK104.out⟩, ⟨tB⟩⟩
    rw [if_neg c16] at H
    have c16b0 := decide_eq_false c16
    clear c16
    (first | rw [c16b0] | (simp only [i64_w, i32_w]; rw [c16b0]) | skip)
    have H' := Aside0.mk H
    clear H
    have hnb17 := NB101_104.out
    have hnc17 := NB104_101.out
    obtain ⟨hcz18_0, hcz18_1, hcz18_2, hfz18_0, hfz18_1, hfz18_2⟩ := zc3 BK101
    go_wp2
    repeat (go_quiet (fail); try go_wp2)
    go_meet
    case rel => exact ⟨_, (decide (a2 ≥ (l0_2.length : Int))), tU, H', ⟨by first | omega | exact Nat.le_refl _⟩, ⟨by (with_reducible repeat (first | refine blk_drewN ?_ _ | refine blk_drew ?_ | refine blk_alloc ?_ _)); refine blk_far ?_ NB101_104.out _; (with_reducible repeat (first | refine blk_drewN ?_ _ | refine blk_drew ?_ | refine blk_alloc ?_ _)); refine blk_far ?_ NB101_104.out _; (with_reducible repeat (first | refine blk_drewN ?_ _ | refine blk_drew ?_ | refine blk_alloc ?_ _)); exact BK101.out⟩, ⟨by (with_reducible repeat (first | refine blk_drewN ?_ _ | refine blk_drew ?_ | refine blk_alloc ?_ _)); refine blk_put (cs := #[.int .i64 t102, .int .i64 0]) ?_ 1 _ rfl; (with_reducible repeat (first | refine blk_drewN ?_ _ | refine blk_drew ?_ | refine blk_alloc ?_ _)); refine blk_put (cs := #[.int .i64 0, .int .i64 0]) ?_ 0 _ rfl; (with_reducible repeat (first | refine blk_drewN ?_ _ | refine blk_drew ?_ | refine blk_alloc ?_ _)); exact BK104.out⟩, ⟨tB⟩⟩
   case rest =>
    clear HC8
    (try clear c1); (try clear p2); (try clear c4); (try clear c5); (try clear c5b0); (try clear c5b1); (try clear c7); (try clear c13); (try clear c16); (try clear c16b0); (try clear c17); (try clear hcz10_0 hcz10_1 hcz10_2 hfz10_0 hfz10_1 hfz10_2); (try clear hcz14_0 hcz14_1 hfz14_0 hfz14_1); (try clear hcz15_0 hcz15_1 hcz15_2 hfz15_0 hfz15_1 hfz15_2); (try clear hcz18_0 hcz18_1 hcz18_2 hfz18_0 hfz18_1 hfz18_2)
    obtain ⟨kq, x32_7, rfl, HA, HJ7, BK101, BK104, HB⟩ := hcut
    cases kq with
    | zero => exact absurd HA.out (by simp [r11_Fire.j0])
    | succ kj7 =>
     have H := HA.out
     clear HA
     simp only [r11_Fire.j0] at H
     by_cases c19 : x32_7 = true
     ·subst c19
      rw [if_pos rfl] at H
      simp only [Option.some.injEq, Prod.mk.injEq] at H
      obtain ⟨rfl, rfl⟩ := H
      go_wp2
      repeat (go_quiet (fail); try go_wp2)
      go_ret2
      exact ⟨_, tE, by first | exact Kd.R_nil _ _ _ _ _ | exact Kd.N_nil _ _ _ _ _ | exact Kd.V_nil _ _ _ _ _ | exact Kd.Q_nil _ _ _ _ _ | exact Kd.S_nil _ _ _ _ _, tB⟩
     replace c19 := Bool.eq_false_iff.mpr c19
     subst c19
     rw [if_neg (show ¬ (false = true) by decide)] at H
     replace H := Option.bind_eq_some_iff.mp H
     obtain ⟨t106, A200, H⟩ := H
     (try dsimp only at H)
     have A20 := Aside0.mk A200
     clear A200
     replace H := Option.bind_eq_some_iff.mp H
     obtain ⟨t109, A210, H⟩ := H
     (try dsimp only at H)
     have A21 := Aside0.mk A210
     clear A210
     by_cases c22 : t109 = true
     ·subst c22
      rw [if_pos rfl] at H
      replace H := Option.bind_eq_some_iff.mp H
      obtain ⟨⟨t110, t113⟩, A230, H⟩ := H
      (try dsimp only at H)
      have A23 := Aside0.mk A230
      clear A230
      by_cases c24 : t113 = true
      ·subst c24
       rw [if_pos rfl] at H
       simp only [Option.some.injEq, Prod.mk.injEq] at H
       obtain ⟨rfl, rfl⟩ := H
       have hnb25 := NB101_104.out
       have hnc25 := NB104_101.out
       obtain ⟨hcz26_0, hcz26_1, hcz26_2, hfz26_0, hfz26_1, hfz26_2⟩ := zc3 BK101
       go_wp2_with (first | (go_at_call 44; (with_reducible refine (r11_Fires.calls kj7 a0_0 _ _ l0_1 _ _ l0_2 _ _ l1 t106 _ (tG HR0_1 HB) HC0_1.out (tG HR0_2 HB) HC0_2.out (tG HR1 HB) HC1.out A20.out).mono ?_); rintro e w27 ⟨v107, rfl, ho0, hb⟩; have HO108 := Aside0.mk (Kd.R_lower ho0 (below_size (tB))); replace BK101 := tL BK101 hb; replace BK104 := tL BK104 hb; replace HB := tA HB hb; (try clear hb); (try clear hb2); (try clear hk); (try clear hi); (try clear ho0); obtain ⟨Ao28, co28, eo28⟩ := Kd.R_slice HO108.out; subst eo28) | (go_at_call 64; (with_reducible refine (r11_has.calls kj7 _ _ t106 a2 true _ (tC (Kd.R_reads' HO108.out).2.2) ((Kd.R_reads' HO108.out).2.1) A21.out).mono ?_); rintro e w' ⟨rfl, ⟨nd, rfl⟩⟩; (try first | exact ⟨rfl, _, World.drewN_drewN _ _ _⟩ | exact ⟨rfl, _, Eq.trans (World.drewN_drewN _ _ _) (congrArg (World.drewN _) (Nat.add_assoc _ _ _))⟩); obtain ⟨hcz29_0, hcz29_1, hcz29_2, hfz29_0, hfz29_1, hfz29_2⟩ := zc3 BK101) | (go_at_call 45; (with_reducible refine (r11_After.calls kj7 a0_0 _ _ l0_1 _ _ l0_2 _ _ l1 a2 t110 true _ (tC (Kd.C_below HR0_1.out (tB))) HC0_1.out (tC (Kd.C_below HR0_2.out (tB))) HC0_2.out (tC (Kd.C_below HR1.out (tB))) HC1.out A23.out).mono ?_); rintro e w30 ⟨v111, rfl, ho0, hb⟩; have HO112 := Aside0.mk (Kd.R_lower (Kd.R_new' ho0 (Kd.R_lt (tR HO108))) (below_size (tB))); replace HO108 := Aside0.mk (Kd.R_elder' (tR HO108) (Kd.R_base ho0) hb); replace BK101 := tL BK101 hb; replace BK104 := tL BK104 hb; replace HB := tA HB hb; (try clear hb); (try clear hb2); (try clear hk); (try clear hi); (try clear ho0)) | go_quiet ((go_at_call 64; (with_reducible refine (r11_has.calls kj7 _ _ t106 a2 true _ (tC (Kd.R_reads' HO108.out).2.2) ((Kd.R_reads' HO108.out).2.1) A21.out).mono ?_); rintro e w' ⟨rfl, ⟨nd, rfl⟩⟩; (try first | exact ⟨rfl, _, World.drewN_drewN _ _ _⟩ | exact ⟨rfl, _, Eq.trans (World.drewN_drewN _ _ _) (congrArg (World.drewN _) (Nat.add_assoc _ _ _))⟩); obtain ⟨hcz29_0, hcz29_1, hcz29_2, hfz29_0, hfz29_1, hfz29_2⟩ := zc3 BK101)))
       go_ret2
       exact ⟨_, tE, by (with_reducible repeat (first | apply Kd.R_alloc | apply Kd.R_drewN | apply Kd.R_drew)); exact Kd.R_mono HO112.out (fun _ hk => trivial), tB⟩
      replace c24 := Bool.eq_false_iff.mpr c24
      subst c24
      rw [if_neg (show ¬ (false = true) by decide)] at H
      simp only [Option.some.injEq, Prod.mk.injEq] at H
      obtain ⟨rfl, rfl⟩ := H
      have hnb31 := NB101_104.out
      have hnc31 := NB104_101.out
      obtain ⟨hcz32_0, hcz32_1, hcz32_2, hfz32_0, hfz32_1, hfz32_2⟩ := zc3 BK101
      go_wp2_with (first | (go_at_call 44; (with_reducible refine (r11_Fires.calls kj7 a0_0 _ _ l0_1 _ _ l0_2 _ _ l1 t106 _ (tG HR0_1 HB) HC0_1.out (tG HR0_2 HB) HC0_2.out (tG HR1 HB) HC1.out A20.out).mono ?_); rintro e w33 ⟨v107, rfl, ho0, hb⟩; have HO108 := Aside0.mk (Kd.R_lower ho0 (below_size (tB))); replace BK101 := tL BK101 hb; replace BK104 := tL BK104 hb; replace HB := tA HB hb; (try clear hb); (try clear hb2); (try clear hk); (try clear hi); (try clear ho0); obtain ⟨Ao34, co34, eo34⟩ := Kd.R_slice HO108.out; subst eo34) | (go_at_call 64; (with_reducible refine (r11_has.calls kj7 _ _ t106 a2 true _ (tC (Kd.R_reads' HO108.out).2.2) ((Kd.R_reads' HO108.out).2.1) A21.out).mono ?_); rintro e w' ⟨rfl, ⟨nd, rfl⟩⟩; (try first | exact ⟨rfl, _, World.drewN_drewN _ _ _⟩ | exact ⟨rfl, _, Eq.trans (World.drewN_drewN _ _ _) (congrArg (World.drewN _) (Nat.add_assoc _ _ _))⟩); obtain ⟨hcz35_0, hcz35_1, hcz35_2, hfz35_0, hfz35_1, hfz35_2⟩ := zc3 BK101) | (go_at_call 45; (with_reducible refine (r11_After.calls kj7 a0_0 _ _ l0_1 _ _ l0_2 _ _ l1 a2 t110 false _ (tC (Kd.C_below HR0_1.out (tB))) HC0_1.out (tC (Kd.C_below HR0_2.out (tB))) HC0_2.out (tC (Kd.C_below HR1.out (tB))) HC1.out A23.out).mono ?_); rintro e w36 ⟨v111, rfl, ho0, hb⟩; have HO112 := Aside0.mk (Kd.R_lower (Kd.R_new' ho0 (Kd.R_lt (tR HO108))) (below_size (tB))); replace HO108 := Aside0.mk (Kd.R_elder' (tR HO108) (Kd.R_base ho0) hb); replace BK101 := tL BK101 hb; replace BK104 := tL BK104 hb; replace HB := tA HB hb; (try clear hb); (try clear hb2); (try clear hk); (try clear hi); (try clear ho0)) | go_quiet ((go_at_call 64; (with_reducible refine (r11_has.calls kj7 _ _ t106 a2 true _ (tC (Kd.R_reads' HO108.out).2.2) ((Kd.R_reads' HO108.out).2.1) A21.out).mono ?_); rintro e w' ⟨rfl, ⟨nd, rfl⟩⟩; (try first | exact ⟨rfl, _, World.drewN_drewN _ _ _⟩ | exact ⟨rfl, _, Eq.trans (World.drewN_drewN _ _ _) (congrArg (World.drewN _) (Nat.add_assoc _ _ _))⟩); obtain ⟨hcz35_0, hcz35_1, hcz35_2, hfz35_0, hfz35_1, hfz35_2⟩ := zc3 BK101)))
      go_ret2
      exact ⟨_, tE, by first | exact Kd.R_nil _ _ _ _ _ | exact Kd.N_nil _ _ _ _ _ | exact Kd.V_nil _ _ _ _ _ | exact Kd.Q_nil _ _ _ _ _ | exact Kd.S_nil _ _ _ _ _, tB⟩
     replace c22 := Bool.eq_false_iff.mpr c22
     subst c22
     rw [if_neg (show ¬ (false = true) by decide)] at H
     simp only [Option.some.injEq, Prod.mk.injEq] at H
     obtain ⟨rfl, rfl⟩ := H
     have hnb37 := NB101_104.out
     have hnc37 := NB104_101.out
     obtain ⟨hcz38_0, hcz38_1, hcz38_2, hfz38_0, hfz38_1, hfz38_2⟩ := zc3 BK101
     go_wp2_with (first | (go_at_call 44; (with_reducible refine (r11_Fires.calls kj7 a0_0 _ _ l0_1 _ _ l0_2 _ _ l1 t106 _ (tG HR0_1 HB) HC0_1.out (tG HR0_2 HB) HC0_2.out (tG HR1 HB) HC1.out A20.out).mono ?_); rintro e w39 ⟨v107, rfl, ho0, hb⟩; have HO108 := Aside0.mk (Kd.R_lower ho0 (below_size (tB))); replace BK101 := tL BK101 hb; replace BK104 := tL BK104 hb; replace HB := tA HB hb; (try clear hb); (try clear hb2); (try clear hk); (try clear hi); (try clear ho0); obtain ⟨Ao40, co40, eo40⟩ := Kd.R_slice HO108.out; subst eo40) | (go_at_call 64; (with_reducible refine (r11_has.calls kj7 _ _ t106 a2 false _ (tC (Kd.R_reads' HO108.out).2.2) ((Kd.R_reads' HO108.out).2.1) A21.out).mono ?_); rintro e w' ⟨rfl, ⟨nd, rfl⟩⟩; (try first | exact ⟨rfl, _, World.drewN_drewN _ _ _⟩ | exact ⟨rfl, _, Eq.trans (World.drewN_drewN _ _ _) (congrArg (World.drewN _) (Nat.add_assoc _ _ _))⟩)) | go_quiet ((go_at_call 64; (with_reducible refine (r11_has.calls kj7 _ _ t106 a2 false _ (tC (Kd.R_reads' HO108.out).2.2) ((Kd.R_reads' HO108.out).2.1) A21.out).mono ?_); rintro e w' ⟨rfl, ⟨nd, rfl⟩⟩; (try first | exact ⟨rfl, _, World.drewN_drewN _ _ _⟩ | exact ⟨rfl, _, Eq.trans (World.drewN_drewN _ _ _) (congrArg (World.drewN _) (Nat.add_assoc _ _ _))⟩))))
     go_ret2
     exact ⟨_, tE, by first | exact Kd.R_nil _ _ _ _ _ | exact Kd.N_nil _ _ _ _ _ | exact Kd.V_nil _ _ _ _ _ | exact Kd.Q_nil _ _ _ _ _ | exact Kd.S_nil _ _ _ _ _, tB⟩
  replace c7 := Bool.eq_false_iff.mpr c7
  subst c7
  rw [if_neg (show ¬ (false = true) by decide)] at H
  simp only [Option.some.injEq, Prod.mk.injEq] at H
  obtain ⟨rfl, rfl⟩ := H
  go_enter Try.func48, Try.ntmps48
  go_wp2_with (first | ((with_reducible refine gate_dst (N := 3) rfl ?_); (try (refine gate_guard (by rfl) ?_; dsimp only)); refine tBx 3 39 #[.string a0_0, .slice A0_1 l0_1.length c0_1, .slice A0_2 l0_2.length c0_2] ?_; intro gb101 hg w41 hbox hb; have BK101 := Aside0.mk (hbox); have GW101 := tW HB hg; have GE101 := tW HB hg; replace HB := tA HB hb; clear hb hbox hg; obtain ⟨hcz42_0, hcz42_1, hcz42_2, hfz42_0, hfz42_1, hfz42_2⟩ := zc3 BK101) | (go_at_call 43; (with_reducible refine (r09_Check.calls k a0_0 _ _ l0_1 _ _ l0_2 t102 t103 _ (tG HR0_1 HB) HC0_1.out (tG HR0_2 HB) HC0_2.out A4.out).mono ?_); rintro e w43 ⟨rfl, hb⟩; replace BK101 := tL BK101 hb; replace HB := tA HB hb; (try clear hb); (try clear hb2); (try clear hk); (try clear hi)) | ((with_reducible refine gate_dst (N := 8) rfl ?_); (try (refine gate_guard (by rfl) ?_; dsimp only)); refine tBx 8 46 #[.int .i64 0, .int .i64 0] ?_; intro gb104 hg w44 hbox hb; have BK104 := Aside0.mk (hbox); have GW104 := tW HB hg; have GE104 := tW HB hg; replace HB := tA HB hb; have NB101_104 := tNl BK101 hg; have NB104_101 := tNg BK101 hg; replace BK101 := tL BK101 hb; clear hb hbox hg; have hnb45 := NB104_101.out; have hnc45 := NB101_104.out; obtain ⟨hcz46_0, hcz46_1, hfz46_0, hfz46_1⟩ := zc2 BK104; obtain ⟨hcz47_0, hcz47_1, hcz47_2, hfz47_0, hfz47_1, hfz47_2⟩ := zc3 BK101) | (go_at_call 46; (with_reducible refine (r04_Valid.calls k _ _ l1 (l0_1.length : Int) false _ (Kd.C_below HR1.out (tB)) HC1.out A6.out).mono ?_); rintro e w' ⟨rfl, ⟨nd, rfl⟩⟩; (try first | exact ⟨rfl, _, World.drewN_drewN _ _ _⟩ | exact ⟨rfl, _, Eq.trans (World.drewN_drewN _ _ _) (congrArg (World.drewN _) (Nat.add_assoc _ _ _))⟩)) | go_quiet ((go_at_call 46; (with_reducible refine (r04_Valid.calls k _ _ l1 (l0_1.length : Int) false _ (Kd.C_below HR1.out (tB)) HC1.out A6.out).mono ?_); rintro e w' ⟨rfl, ⟨nd, rfl⟩⟩; (try first | exact ⟨rfl, _, World.drewN_drewN _ _ _⟩ | exact ⟨rfl, _, Eq.trans (World.drewN_drewN _ _ _) (congrArg (World.drewN _) (Nat.add_assoc _ _ _))⟩))))
  go_ret2
  exact ⟨_, tE, by first | exact Kd.R_nil _ _ _ _ _ | exact Kd.N_nil _ _ _ _ _ | exact Kd.V_nil _ _ _ _ _ | exact Kd.Q_nil _ _ _ _ _ | exact Kd.S_nil _ _ _ _ _, tB⟩
 rw [if_neg c5] at H
 have c5b0 := beq_eq_false_iff_ne.mpr c5
 have c5b1 := bne_iff_ne.mpr c5
 simp only [Option.some.injEq, Prod.mk.injEq] at H
 obtain ⟨rfl, rfl⟩ := H
 go_enter Try.func48, Try.ntmps48
 go_wp2_with (first | ((with_reducible refine gate_dst (N := 3) rfl ?_); (try (refine gate_guard (by rfl) ?_; dsimp only)); refine tBx 3 39 #[.string a0_0, .slice A0_1 l0_1.length c0_1, .slice A0_2 l0_2.length c0_2] ?_; intro gb101 hg w48 hbox hb; have BK101 := Aside0.mk (hbox); have GW101 := tW HB hg; have GE101 := tW HB hg; replace HB := tA HB hb; clear hb hbox hg; obtain ⟨hcz49_0, hcz49_1, hcz49_2, hfz49_0, hfz49_1, hfz49_2⟩ := zc3 BK101) | (go_at_call 43; (with_reducible refine (r09_Check.calls k a0_0 _ _ l0_1 _ _ l0_2 t102 t103 _ (tG HR0_1 HB) HC0_1.out (tG HR0_2 HB) HC0_2.out A4.out).mono ?_); rintro e w50 ⟨rfl, hb⟩; replace BK101 := tL BK101 hb; replace HB := tA HB hb; (try clear hb); (try clear hb2); (try clear hk); (try clear hi)) | ((with_reducible refine gate_dst (N := 8) rfl ?_); (try (refine gate_guard (by rfl) ?_; dsimp only)); refine tBx 8 46 #[.int .i64 0, .int .i64 0] ?_; intro gb104 hg w51 hbox hb; have BK104 := Aside0.mk (hbox); have GW104 := tW HB hg; have GE104 := tW HB hg; replace HB := tA HB hb; have NB101_104 := tNl BK101 hg; have NB104_101 := tNg BK101 hg; replace BK101 := tL BK101 hb; clear hb hbox hg; have hnb52 := NB104_101.out; have hnc52 := NB101_104.out; obtain ⟨hcz53_0, hcz53_1, hfz53_0, hfz53_1⟩ := zc2 BK104) | go_quiet (fail))
 go_ret2
 exact ⟨_, tE, by first | exact Kd.R_nil _ _ _ _ _ | exact Kd.N_nil _ _ _ _ _ | exact Kd.V_nil _ _ _ _ _ | exact Kd.Q_nil _ _ _ _ _ | exact Kd.S_nil _ _ _ _ _, tB⟩
end Go.Proofs.Ytfnjbgggmddgpaa.Q
end
