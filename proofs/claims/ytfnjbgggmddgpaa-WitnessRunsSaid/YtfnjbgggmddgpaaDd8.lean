/- Part 8 of a proof: Dd. Words and walks that a program printed for this claim stand here without what the claim does not use. -/
import Derived.Test.YtfnjbgggmddgpaaDd2
import Derived.Test.YtfnjbgggmddgpaaDd7
section
namespace Go.Proofs.Ytfnjbgggmddgpaa.Q
open Go.RowKit Go.Proofs.Fn Go.Proofs.YtfnjbgggmddgpaaW.PrintWords Go.Proofs.YtfnjbgggmddgpaaW.PrintLast Go.Proofs.YtfnjbgggmddgpaaW.PrintMore
attribute [local go_sem] max2_int min2_int max_two min_two max_three min_three max_four min_four
set_option linter.unusedVariables false
set_option linter.unusedSimpArgs false
def r11_Ready.l0 : Nat → List Int → Int → ByteArray → List (S71) → List (S74) → ByteArray → List (S93) → List (S93) → List (S93) → Int → Option (Bool)
 | 0, _, _, _, _, _, _, _, _, _, _ => none
 | k + 1, x1, x8, x102000, x102001, x102002, x104000, x104001, x104002, x104003, x104004 => if x8 < (x102001.length : Int) then ((r11_weight.f k x104003 x8).bind fun t104 => (if 0 ≤ x8 then (if x8 < (x1.length : Int) then ((r11_weight.f k x104001 x8).bind fun t106 => ((r11_weight.f k x104002 x8).bind fun t107 => ((r11_weight.f k x104001 x8).bind fun t109 => (if (rd x1 x8) < t109 then (some false) else (if t104 > 0 then (if (rd x1 x8) ≥ t104 then (some false) else (if ((rd_T71 x102001 x8).f2) > 0 then (if (wrap64 ((wrap64 ((rd x1 x8) - t106)) + t107)) > ((rd_T71 x102001 x8).f2) then (some false) else (r11_Ready.l0 k x1 (wrap64 (x8 + 1)) x102000 x102001 x102002 x104000 x104001 x104002 x104003 x104004)) else (r11_Ready.l0 k x1 (wrap64 (x8 + 1)) x102000 x102001 x102002 x104000 x104001 x104002 x104003 x104004))) else (if ((rd_T71 x102001 x8).f2) > 0 then (if (wrap64 ((wrap64 ((rd x1 x8) - t106)) + t107)) > ((rd_T71 x102001 x8).f2) then (some false) else (r11_Ready.l0 k x1 (wrap64 (x8 + 1)) x102000 x102001 x102002 x104000 x104001 x104002 x104003 x104004)) else (r11_Ready.l0 k x1 (wrap64 (x8 + 1)) x102000 x102001 x102002 x104000 x104001 x104002 x104003 x104004))))))) else (none)) else (none))) else (some true)
def r11_Ready.f (k : Nat) (a0_0 : ByteArray) (l0_1 : List (S71)) (l0_2 : List (S74)) (l1 : List Int) (a2 : Int) : Option (Bool) := if 0 ≤ a2 then (if a2 < (l0_2.length : Int) then (r11_Ready.l0 k l1 0 a0_0 l0_1 l0_2 ((rd_T74 l0_2 a2).f0) ((rd_T74 l0_2 a2).f1) ((rd_T74 l0_2 a2).f2) ((rd_T74 l0_2 a2).f3) ((rd_T74 l0_2 a2).f4)) else (none)) else (none)
def r11_Ready.T6 : Bool × List (List Nat × List Nat) := (true, [([], []), ([], []), ([0, 1], [0, 1]), ([2], [2]), ([], []), ([4], [4]), ([], []), ([5, 6], [5, 6]), ([3, 7], [3, 7]), ([], []), ([9], [9]), ([], []), ([10, 11, 7], [10, 11]), ([8, 12], [8, 12]), ([13, 12, 0, 1, 2, 3, 4, 5, 6, 7, 8, 9, 10, 11, 12, 13], [13])])
def r11_Ready.B6 : List Nat := [0, 0, 3, 7, 0, 16, 0, 112, 255, 0, 512, 0, 3824, 8191, 16383]
theorem r11_Ready.tab6 : rtab .any (opsOf Try.f62 6) = r11_Ready.T6 := by kernel_rfl
theorem r11_Ready.bits6 : waitsOk r11_Ready.T6.2 r11_Ready.B6 = true := by kernel_rfl
def r11_Ready.T7 : Bool × List (List Nat × List Nat) := (true, [([], []), ([], []), ([0, 1], [0, 1]), ([2], [2]), ([], []), ([4], [4]), ([], []), ([5, 6], [5, 6]), ([3, 7], [3, 7]), ([8, 7], [8]), ([9], [9]), ([10, 9], [9, 10]), ([11, 9, 9], [9, 11]), ([12], [12]), ([12], [12]), ([13, 14, 12], [12, 13, 14]), ([15, 12], [12, 15]), ([12], [12]), ([16, 17, 12], [12, 16, 17]), ([12, 18, 9], [9, 12, 18]), ([9, 19], [9, 19]), ([20, 12], [20]), ([21], [21]), ([22, 21], [21, 22]), ([21], [21]), ([23, 24, 21], [21, 23, 24]), ([25, 21], [21, 25]), ([26, 21], [21, 26]), ([27, 21], [21, 27]), ([28, 21, 21], [21, 28]), ([29], [29]), ([29], [29]), ([31, 29], [29, 31]), ([29], [29]), ([32, 33, 29], [29, 32, 33]), ([34, 29], [29, 34]), ([35, 29], [29, 35]), ([30, 36, 29], [29, 30, 36]), ([29, 37, 21], [21, 29, 37]), ([21, 38], [21, 38])])
def r11_Ready.B7 : List Nat := [0, 0, 3, 7, 0, 16, 0, 112, 255, 511, 1023, 2047, 4095, 8191, 8191, 32767, 65535, 8191, 262143, 524287, 1048575, 2097151, 4194303, 8388607, 4194303, 33554431, 67108863, 134217727, 268435455, 536870911, 1073741823, 1073741823, 3221225471, 1073741823, 16106127359, 33285996543, 67645734911, 137438953471, 274877906943, 549755813887]
theorem r11_Ready.tab7 : rtab .any (opsOf Try.f62 7) = r11_Ready.T7 := by kernel_rfl
theorem r11_Ready.bits7 : waitsOk r11_Ready.T7.2 r11_Ready.B7 = true := by kernel_rfl
set_option maxHeartbeats 8000000 in
set_option maxRecDepth 100000 in
theorem r11_Ready.calls (k : Nat) (a0_0 : ByteArray) (A0_1 : Option Addr) (c0_1 : Nat) (l0_1 : List (S71)) (A0_2 : Option Addr) (c0_2 : Nat) (l0_2 : List (S74)) (A1 : Option Addr) (c1 : Nat) (l1 : List Int) (a2 : Int) (r : Bool) (w : World) (hr0_1 : Kd.C k71 w A0_1 l0_1.length l0_1) (hc0_1 : l0_1.length ≤ c0_1) (hr0_2 : Kd.C k74 w A0_2 l0_2.length l0_2) (hc0_2 : l0_2.length ≤ c0_2) (hr1 : Kd.C (Kd.int .i64) w A1 l1.length l1) (hc1 : l1.length ≤ c1) (h : r11_Ready.f k a0_0 l0_1 l0_2 l1 a2 = some r) :
  Calls Try.prog 62 #[.agg #[.string a0_0, .slice A0_1 l0_1.length c0_1, .slice A0_2 l0_2.length c0_2], .slice A1 l1.length c1, .int .i64 a2] w fun e w' => e = .returned (.bool r) ∧ Below w.heap.size w w' := by
 have hu39 := Try.underlying39
 have hu74 := Try.underlying74
 have HR0_1 := Aside0.mk hr0_1
 have HC0_1 := Aside0.mk hc0_1
 clear hr0_1 hc0_1
 have HR0_2 := Aside0.mk hr0_2
 have HC0_2 := Aside0.mk hc0_2
 clear hr0_2 hc0_2
 have HR1 := Aside0.mk hr1
 have HC1 := Aside0.mk hc1
 clear hr1 hc1
 have HB := Aside0.mk (Below.refl w.heap.size w)
 have H : (if 0 ≤ a2 then (if a2 < (l0_2.length : Int) then (r11_Ready.l0 k l1 0 a0_0 l0_1 l0_2 ((rd_T74 l0_2 a2).f0) ((rd_T74 l0_2 a2).f1) ((rd_T74 l0_2 a2).f2) ((rd_T74 l0_2 a2).f3) ((rd_T74 l0_2 a2).f4)) else (none)) else (none)) = some r := h
 clear h
 by_cases c4 : 0 ≤ a2
 ·rw [if_pos c4] at H
  have c4b0 := decide_eq_true c4
  clear c4
  replace H := tF H
  obtain ⟨c5, H⟩ := H
  have c5b0 := decide_eq_true c5
  clear c5
  have H' := Aside0.mk H
  clear H
  go_enter Try.func62, Try.ntmps62
  go_wp2_with (first | ((with_reducible refine gate_dst (N := 3) rfl ?_); refine tBx 3 39 #[.string a0_0, .slice A0_1 l0_1.length c0_1, .slice A0_2 l0_2.length c0_2] ?_; intro gb101 hg w6 hbox hb; have BK101 := Aside0.mk (hbox); have GW101 := tW HB hg; have GE101 := tW HB hg; replace HB := tA HB hb; clear hb hbox hg; obtain ⟨hcz7_0, hcz7_1, hcz7_2, hfz7_0, hfz7_1, hfz7_2⟩ := zc3 BK101; have p102 : 0 ≤ (a2 : Int) := tD; have q102 : a2 < (l0_2.length : Int) := tD; obtain ⟨ad102, A102_1, c102_1, A102_2, c102_2, A102_3, c102_3, e102, hx102_0, hx102_1, hx102_2, hx102_3, hx102_4, hl102_1, hi102_1, hl102_2, hi102_2, hl102_3, hi102_3⟩ := at_T74 HR0_2.out a2 p102 q102; cases e102; replace hx102_0 := tH HB hx102_0; replace hx102_1 := tH HB hx102_1; replace hx102_2 := tH HB hx102_2; replace hx102_3 := tH HB hx102_3; replace hx102_4 := tH HB hx102_4; have HR102_1 := Aside0.mk hi102_1; have HC102_1 := Aside0.mk hl102_1; clear hi102_1 hl102_1; have HR102_2 := Aside0.mk hi102_2; have HC102_2 := Aside0.mk hl102_2; clear hi102_2 hl102_2; have HR102_3 := Aside0.mk hi102_3; have HC102_3 := Aside0.mk hl102_3; clear hi102_3 hl102_3; replace p102 := eq_true p102; replace q102 := eq_true q102) | ((with_reducible refine gate_dst (N := 7) rfl ?_); refine tBx 7 74 #[.string (⟨#[]⟩ : ByteArray), .slice none 0 0, .slice none 0 0, .slice none 0 0, .int .i64 0] ?_; intro gb103 hg w8 hbox hb; have BK103 := Aside0.mk (hbox); have GW103 := tW HB hg; have GE103 := tW HB hg; replace HB := tA HB hb; have NB101_103 := tNl BK101 hg; have NB103_101 := tNg BK101 hg; replace BK101 := tL BK101 hb; clear hb hbox hg; have hnb9 := NB103_101.out; have hnc9 := NB101_103.out; obtain ⟨hcz10_0, hcz10_1, hcz10_2, hcz10_3, hcz10_4, hfz10_0, hfz10_1, hfz10_2, hfz10_3, hfz10_4⟩ := zc5 BK103))
  go_loopg [8] k (fun kq v8 w' => ∃ (x8_1 : Int), v8 = .int .i64 x8_1 ∧ Aside0 (r11_Ready.l0 kq l1 x8_1 a0_0 l0_1 l0_2 ((rd_T74 l0_2 a2).f0) ((rd_T74 l0_2 a2).f1) ((rd_T74 l0_2 a2).f2) ((rd_T74 l0_2 a2).f3) ((rd_T74 l0_2 a2).f4) = some r) ∧ Aside0 (kq ≤ k) ∧ Aside0 (w'.heap[gb101]? = some (.cells #[.string a0_0, (.slice A0_1 l0_1.length c0_1), (.slice (some ad102) l0_2.length c0_2)] 39 (0, 0))) ∧ Aside0 (w'.heap[gb103]? = some (.cells #[.string ((rd_T74 l0_2 a2).f0), (.slice A102_1 ((rd_T74 l0_2 a2).f1).length c102_1), (.slice A102_2 ((rd_T74 l0_2 a2).f2).length c102_2), (.slice A102_3 ((rd_T74 l0_2 a2).f3).length c102_3), .int .i64 ((rd_T74 l0_2 a2).f4)] 74 (0, 0))) ∧ Aside0 (Below w.heap.size w w'))
  case atStart => exact ⟨(0), tU, H', ⟨Nat.le_refl _⟩, ⟨by (with_reducible repeat (first | refine blk_drewN ?_ _ | refine blk_drew ?_ | refine blk_alloc ?_ _)); refine blk_far ?_ NB101_103.out _; (with_reducible repeat (first | refine blk_drewN ?_ _ | refine blk_drew ?_ | refine blk_alloc ?_ _)); refine blk_far ?_ NB101_103.out _; (with_reducible repeat (first | refine blk_drewN ?_ _ | refine blk_drew ?_ | refine blk_alloc ?_ _)); refine blk_far ?_ NB101_103.out _; (with_reducible repeat (first | refine blk_drewN ?_ _ | refine blk_drew ?_ | refine blk_alloc ?_ _)); refine blk_far ?_ NB101_103.out _; (with_reducible repeat (first | refine blk_drewN ?_ _ | refine blk_drew ?_ | refine blk_alloc ?_ _)); refine blk_far ?_ NB101_103.out _; (with_reducible repeat (first | refine blk_drewN ?_ _ | refine blk_drew ?_ | refine blk_alloc ?_ _)); exact BK101.out⟩, ⟨by (with_reducible repeat (first | refine blk_drewN ?_ _ | refine blk_drew ?_ | refine blk_alloc ?_ _)); refine blk_put (cs := #[.string ((rd_T74 l0_2 a2).f0), .slice A102_1 ((rd_T74 l0_2 a2).f1).length c102_1, .slice A102_2 ((rd_T74 l0_2 a2).f2).length c102_2, .slice A102_3 ((rd_T74 l0_2 a2).f3).length c102_3, .int .i64 0]) ?_ 4 _ rfl; (with_reducible repeat (first | refine blk_drewN ?_ _ | refine blk_drew ?_ | refine blk_alloc ?_ _)); refine blk_put (cs := #[.string ((rd_T74 l0_2 a2).f0), .slice A102_1 ((rd_T74 l0_2 a2).f1).length c102_1, .slice A102_2 ((rd_T74 l0_2 a2).f2).length c102_2, .slice none 0 0, .int .i64 0]) ?_ 3 _ rfl; (with_reducible repeat (first | refine blk_drewN ?_ _ | refine blk_drew ?_ | refine blk_alloc ?_ _)); refine blk_put (cs := #[.string ((rd_T74 l0_2 a2).f0), .slice A102_1 ((rd_T74 l0_2 a2).f1).length c102_1, .slice none 0 0, .slice none 0 0, .int .i64 0]) ?_ 2 _ rfl; (with_reducible repeat (first | refine blk_drewN ?_ _ | refine blk_drew ?_ | refine blk_alloc ?_ _)); refine blk_put (cs := #[.string ((rd_T74 l0_2 a2).f0), .slice none 0 0, .slice none 0 0, .slice none 0 0, .int .i64 0]) ?_ 1 _ rfl; (with_reducible repeat (first | refine blk_drewN ?_ _ | refine blk_drew ?_ | refine blk_alloc ?_ _)); refine blk_put (cs := #[.string (⟨#[]⟩ : ByteArray), .slice none 0 0, .slice none 0 0, .slice none 0 0, .int .i64 0]) ?_ 0 _ rfl; (with_reducible repeat (first | refine blk_drewN ?_ _ | refine blk_drew ?_ | refine blk_alloc ?_ _)); exact BK103.out⟩, ⟨tB⟩⟩
  case round =>
   clear H'
   (try clear c1); (try clear p1); (try clear q1); (try clear hx1); (try clear p2); (try clear c4); (try clear c4b0); (try clear c5); (try clear c5b0); (try clear c6); (try clear c9); (try clear c10); (try clear p10); (try clear q10); (try clear hx10); (try clear hcz10_0 hcz10_1 hcz10_2 hcz10_3 hcz10_4 hfz10_0 hfz10_1 hfz10_2 hfz10_3 hfz10_4); (try clear hcz7_0 hcz7_1 hcz7_2 hfz7_0 hfz7_1 hfz7_2); (try clear hx102_0); (try clear hx102_1); (try clear hx102_2); (try clear hx102_3); (try clear hx102_4); (try clear p102); (try clear q102)
   obtain ⟨x8_1, rfl, HA, HK1, BK101, BK103, HB⟩ := hrel
   cases gk with
   | zero => exact absurd HA.out (by simp [r11_Ready.l0])
   | succ k1 =>
    have H := HA.out
    clear HA
    simp only [r11_Ready.l0] at H
    by_cases c11 : x8_1 < (l0_1.length : Int)
    ·rw [if_pos c11] at H
     have c11b0 := decide_eq_true c11
     clear c11
     replace H := Option.bind_eq_some_iff.mp H
     obtain ⟨t104, A120, H⟩ := H
     (try dsimp only at H)
     have A12 := Aside0.mk A120
     clear A120
     replace H := tF H
     obtain ⟨c13, H⟩ := H
     have c13b0 := decide_eq_true c13
     clear c13
     replace H := tF H
     obtain ⟨c14, H⟩ := H
     have c14b0 := decide_eq_true c14
     clear c14
     replace H := Option.bind_eq_some_iff.mp H
     obtain ⟨t106, A150, H⟩ := H
     (try dsimp only at H)
     have A15 := Aside0.mk A150
     clear A150
     replace H := Option.bind_eq_some_iff.mp H
     obtain ⟨t107, A160, H⟩ := H
     (try dsimp only at H)
     have A16 := Aside0.mk A160
     clear A160
     replace H := Option.bind_eq_some_iff.mp H
     obtain ⟨t109, A170, H⟩ := H
     (try dsimp only at H)
     have A17 := Aside0.mk A170
     clear A170
     by_cases c18 : (rd l1 x8_1) < t109
     ·rw [if_pos c18] at H
      have c18b0 := decide_eq_true c18
      clear c18
      obtain rfl := Option.some.inj H
      have hnb19 := NB101_103.out
      have hnc19 := NB103_101.out
      obtain ⟨hcz20_0, hcz20_1, hcz20_2, hfz20_0, hfz20_1, hfz20_2⟩ := zc3 BK101
      obtain ⟨hcz21_0, hcz21_1, hcz21_2, hcz21_3, hcz21_4, hfz21_0, hfz21_1, hfz21_2, hfz21_3, hfz21_4⟩ := zc5 BK103
      try go_wp2_with (first | ((with_reducible refine gate_callee (f := 63) rfl ?_); refine goesL_ (some 26) rfl rfl Try.func63 (by kernel_rfl) rfl #[.slice A102_3 ((rd_T74 l0_2 a2).f3).length c102_3, .int .i64 x8_1] rfl (by (try simp only [List.map_toArray, List.map_cons, List.map_nil]); first | done | rfl | (simp only [List.length_drop, List.length_take]; rfl)) ?_; (with_reducible refine (r11_weight.calls k1 _ _ ((rd_T74 l0_2 a2).f3) x8_1 t104 _ (tG HR102_3 HB) HC102_3.out A12.out).mono ?_); rintro e w' ⟨rfl, ⟨nd, rfl⟩⟩; refine ⟨_, rfl, ?_⟩))
      (try (rw [drewN_self wr]; (first | (rw [drewN_self (World.drewN (World.drewN wr _) _)]; generalize hq_ : World.drewN (World.drewN (World.drewN wr _) _) _ = wr) | (rw [drewN_self (World.drewN wr _)]; generalize hq_ : World.drewN (World.drewN wr _) _ = wr) | generalize hq_ : World.drewN wr _ = wr); have n0_ : Aside0 (wr.heap[gb101]? = some (.cells #[.string a0_0, .slice A0_1 l0_1.length c0_1, .slice (some ad102) l0_2.length c0_2] 39 (0, 0))) := ⟨by rw [← hq_]; exact (tK BK101)⟩; have n1_ : Aside0 (wr.heap[gb103]? = some (.cells #[.string ((rd_T74 l0_2 a2).f0), .slice A102_1 ((rd_T74 l0_2 a2).f1).length c102_1, .slice A102_2 ((rd_T74 l0_2 a2).f2).length c102_2, .slice A102_3 ((rd_T74 l0_2 a2).f3).length c102_3, .int .i64 ((rd_T74 l0_2 a2).f4)] 74 (0, 0))) := ⟨by rw [← hq_]; exact (tK BK103)⟩; have n2_ : Aside0 (Below w.heap.size w wr) := ⟨by rw [← hq_]; exact (tB)⟩; clear BK101 BK103 HB hq_; have BK101 := n0_; have BK103 := n1_; have HB := n2_; clear n0_ n1_ n2_))
      replace BK101 := Aside0.mk (blk_drew BK101.out)
      replace BK103 := Aside0.mk (blk_drew BK103.out)
      replace HB := Aside0.mk (below_drew1 HB.out)
      have p105 : 0 ≤ (x8_1 : Int) := tD
      have q105 : x8_1 < (l1.length : Int) := tD
      obtain ⟨ad105, e105, hx105_0⟩ := Kd.at_int HR1.out x8_1 p105 q105
      have hw105_0 := hx105_0
      cases e105
      replace hx105_0 := tH HB hx105_0
      replace p105 := eq_true p105
      replace q105 := eq_true q105
      refine sS6 15 [] rfl r11_Ready.tab6 r11_Ready.bits6 ⟨tz BK103 0, tz BK103 1, tz BK103 2, tz BK103 3, tz BK103 4, ((HB.out.cell (World.block_lt_of_cell? w _ hw105_0)).trans hw105_0)⟩ (fun hHeld HT_ HW_ => ?_)
      generalize wr.drew = w22 at BK101 BK103 HB hx105_0 hHeld ⊢
      refine sP 0 27 HT_ rfl rfl ?_
      refine sP 1 28 HT_ rfl rfl ?_
      refine sP 2 29 HT_ rfl rfl ?_
      refine sP 4 31 HT_ rfl rfl ?_
      refine sP 6 33 HT_ rfl rfl ?_
      refine sP 9 36 HT_ rfl rfl ?_
      refine sP 11 38 HT_ rfl rfl ?_
      refine sT 3 30 HT_ HW_ rfl rfl hHeld ?_
      refine sT 5 32 HT_ HW_ rfl rfl hHeld ?_
      refine sT 10 37 HT_ HW_ rfl rfl hHeld ?_
      refine sO 7 (some 34) HT_ rfl rfl (fun K hK => ?_)
      refine goes_ Try.func63 (by kernel_rfl) rfl #[.slice A102_1 ((rd_T74 l0_2 a2).f1).length c102_1, .int .i64 x8_1] (by rfl) rfl rfl (by (try simp only [List.map_toArray, List.map_cons, List.map_nil]); first | done | rfl | (simp only [List.length_drop, List.length_take]; rfl)) ?_
      (with_reducible refine (r11_weight.calls k1 _ _ ((rd_T74 l0_2 a2).f1) x8_1 t106 _ (tG HR102_1 HB) HC102_1.out A15.out).mono ?_)
      rintro e w' ⟨rfl, ⟨nd, rfl⟩⟩
      refine ⟨_, rfl, ?_⟩
      refine hK.out _ _ ⟨tz BK103 0, tz BK103 1, tz BK103 2, tz BK103 3, tz BK103 4, ((HB.out.cell (World.block_lt_of_cell? w _ hw105_0)).trans hw105_0)⟩ (fun hHeld => ?_)
      clear hK K
      refine sN 34 ?_
      refine sP 8 35 HT_ rfl rfl ?_
      refine sO 12 (some 39) HT_ rfl rfl (fun K hK => ?_)
      refine goes_ Try.func63 (by kernel_rfl) rfl #[.slice A102_2 ((rd_T74 l0_2 a2).f2).length c102_2, .int .i64 x8_1] (by rfl) rfl rfl (by (try simp only [List.map_toArray, List.map_cons, List.map_nil]); first | done | rfl | (simp only [List.length_drop, List.length_take]; rfl)) ?_
      (with_reducible refine (r11_weight.calls k1 _ _ ((rd_T74 l0_2 a2).f2) x8_1 t107 _ (tC (Kd.C_below HR102_2.out (tB))) HC102_2.out A16.out).mono ?_)
      rintro e w' ⟨rfl, ⟨nd, rfl⟩⟩
      refine ⟨_, rfl, ?_⟩
      refine hK.out _ _ ⟨tz BK103 0, tz BK103 1, tz BK103 2, tz BK103 3, tz BK103 4, ((HB.out.cell (World.block_lt_of_cell? w _ hw105_0)).trans hw105_0)⟩ (fun hHeld => ?_)
      clear hK K
      refine sN 39 ?_
      refine sP 13 40 HT_ rfl rfl ?_
      refine sP 14 10 HT_ rfl rfl ?_
      refine sD HT_ ?_
      try go_wp2
      (try (rw [drewN_self w22]; (first | (rw [drewN_self (World.drewN (World.drewN w22 _) _)]; generalize hq_ : World.drewN (World.drewN (World.drewN w22 _) _) _ = w22) | (rw [drewN_self (World.drewN w22 _)]; generalize hq_ : World.drewN (World.drewN w22 _) _ = w22) | generalize hq_ : World.drewN w22 _ = w22); have n0_ : Aside0 (w22.heap[gb101]? = some (.cells #[.string a0_0, .slice A0_1 l0_1.length c0_1, .slice (some ad102) l0_2.length c0_2] 39 (0, 0))) := ⟨by rw [← hq_]; exact (tK BK101)⟩; have n1_ : Aside0 (w22.heap[gb103]? = some (.cells #[.string ((rd_T74 l0_2 a2).f0), .slice A102_1 ((rd_T74 l0_2 a2).f1).length c102_1, .slice A102_2 ((rd_T74 l0_2 a2).f2).length c102_2, .slice A102_3 ((rd_T74 l0_2 a2).f3).length c102_3, .int .i64 ((rd_T74 l0_2 a2).f4)] 74 (0, 0))) := ⟨by rw [← hq_]; exact (tK BK103)⟩; have n2_ : Aside0 (Below w.heap.size w w22) := ⟨by rw [← hq_]; exact (tB)⟩; clear BK101 BK103 HB hq_; have BK101 := n0_; have BK103 := n1_; have HB := n2_; clear n0_ n1_ n2_))
      replace BK101 := Aside0.mk (blk_drew BK101.out)
      replace BK103 := Aside0.mk (blk_drew BK103.out)
      replace HB := Aside0.mk (below_drew1 HB.out)
      have p108 : 0 ≤ (x8_1 : Int) := tD
      have q108 : x8_1 < (l1.length : Int) := tD
      obtain ⟨ad108, e108, hx108_0⟩ := Kd.at_int HR1.out x8_1 p108 q108
      have hw108_0 := hx108_0
      obtain rfl : ad105 = ad108 := (by injection e108)
      replace hx108_0 := tH HB hx108_0
      replace p108 := eq_true p108
      replace q108 := eq_true q108
      refine sS6 40 [] rfl r11_Ready.tab7 r11_Ready.bits7 ⟨tz BK103 0, tz BK103 1, tz BK103 2, tz BK103 3, tz BK103 4, ((HB.out.cell (World.block_lt_of_cell? w _ hw108_0)).trans hw108_0)⟩ (fun hHeld HT_ HW_ => ?_)
      generalize w22.drew = w23 at BK101 BK103 HB hx108_0 hHeld ⊢
      refine sP 0 41 HT_ rfl rfl ?_
      refine sP 1 42 HT_ rfl rfl ?_
      refine sP 2 43 HT_ rfl rfl ?_
      refine sP 4 45 HT_ rfl rfl ?_
      refine sP 6 47 HT_ rfl rfl ?_
      refine sT 3 44 HT_ HW_ rfl rfl hHeld ?_
      refine sT 5 46 HT_ HW_ rfl rfl hHeld ?_
      refine sO 7 (some 48) HT_ rfl rfl (fun K hK => ?_)
      refine goes_ Try.func63 (by kernel_rfl) rfl #[.slice A102_1 ((rd_T74 l0_2 a2).f1).length c102_1, .int .i64 x8_1] (by rfl) rfl rfl (by (try simp only [List.map_toArray, List.map_cons, List.map_nil]); first | done | rfl | (simp only [List.length_drop, List.length_take]; rfl)) ?_
      (with_reducible refine (r11_weight.calls k1 _ _ ((rd_T74 l0_2 a2).f1) x8_1 t109 _ (tG HR102_1 HB) HC102_1.out A17.out).mono ?_)
      rintro e w' ⟨rfl, ⟨nd, rfl⟩⟩
      refine ⟨_, rfl, ?_⟩
      refine hK.out _ _ ⟨tz BK103 0, tz BK103 1, tz BK103 2, tz BK103 3, tz BK103 4, ((HB.out.cell (World.block_lt_of_cell? w _ hw108_0)).trans hw108_0)⟩ (fun hHeld => ?_)
      clear hK K
      refine sN 48 ?_
      refine sP 8 49 HT_ rfl rfl ?_
      refine sP 9 50 HT_ rfl rfl ?_
      refine sU 10 51 HT_ rfl rfl ?_
      refine sU 11 52 HT_ rfl rfl ?_
      refine sU 12 53 HT_ rfl rfl ?_
      refine sU 13 54 HT_ rfl rfl ?_
      refine sU 14 55 HT_ rfl rfl ?_
      refine sU 15 56 HT_ rfl rfl ?_
      refine sU 16 57 HT_ rfl rfl ?_
      refine sU 17 58 HT_ rfl rfl ?_
      refine sU 18 59 HT_ rfl rfl ?_
      refine sU 19 60 HT_ rfl rfl ?_
      refine sP 20 61 HT_ rfl rfl ?_
      refine sP 21 62 HT_ rfl rfl ?_
      refine sU 22 63 HT_ rfl rfl ?_
      refine sU 23 64 HT_ rfl rfl ?_
      refine sU 24 65 HT_ rfl rfl ?_
      refine sU 25 66 HT_ rfl rfl ?_
      refine sU 26 67 HT_ rfl rfl ?_
      refine sU 27 68 HT_ rfl rfl ?_
      refine sU 28 69 HT_ rfl rfl ?_
      refine sU 29 70 HT_ rfl rfl ?_
      refine sU 30 71 HT_ rfl rfl ?_
      refine sU 31 72 HT_ rfl rfl ?_
      refine sU 32 73 HT_ rfl rfl ?_
      refine sU 33 74 HT_ rfl rfl ?_
      refine sU 34 75 HT_ rfl rfl ?_
      refine sU 35 76 HT_ rfl rfl ?_
      refine sU 36 77 HT_ rfl rfl ?_
      refine sU 37 78 HT_ rfl rfl ?_
      refine sU 38 79 HT_ rfl rfl ?_
      refine sP 39 80 HT_ rfl rfl ?_
      refine sD HT_ ?_
      try go_wp2
      go_ret
      exact ⟨tE, tB⟩
     rw [if_neg c18] at H
     have c18b0 := decide_eq_false c18
     clear c18
     by_cases c24 : t104 > 0
     ·rw [if_pos c24] at H
      have c24b0 := tdGi c24
      clear c24
      by_cases c25 : (rd l1 x8_1) ≥ t104
      ·rw [if_pos c25] at H
       have c25b0 := tdGe c25
       clear c25
       obtain rfl := Option.some.inj H
       have hnb26 := NB101_103.out
       have hnc26 := NB103_101.out
       obtain ⟨hcz27_0, hcz27_1, hcz27_2, hfz27_0, hfz27_1, hfz27_2⟩ := zc3 BK101
       obtain ⟨hcz28_0, hcz28_1, hcz28_2, hcz28_3, hcz28_4, hfz28_0, hfz28_1, hfz28_2, hfz28_3, hfz28_4⟩ := zc5 BK103
       try go_wp2_with (first | ((with_reducible refine gate_callee (f := 63) rfl ?_); refine goesL_ (some 26) rfl rfl Try.func63 (by kernel_rfl) rfl #[.slice A102_3 ((rd_T74 l0_2 a2).f3).length c102_3, .int .i64 x8_1] rfl (by (try simp only [List.map_toArray, List.map_cons, List.map_nil]); first | done | rfl | (simp only [List.length_drop, List.length_take]; rfl)) ?_; (with_reducible refine (r11_weight.calls k1 _ _ ((rd_T74 l0_2 a2).f3) x8_1 t104 _ (tG HR102_3 HB) HC102_3.out A12.out).mono ?_); rintro e w' ⟨rfl, ⟨nd, rfl⟩⟩; refine ⟨_, rfl, ?_⟩))
       (try (rw [drewN_self wr]; (first | (rw [drewN_self (World.drewN (World.drewN wr _) _)]; generalize hq_ : World.drewN (World.drewN (World.drewN wr _) _) _ = wr) | (rw [drewN_self (World.drewN wr _)]; generalize hq_ : World.drewN (World.drewN wr _) _ = wr) | generalize hq_ : World.drewN wr _ = wr); have n0_ : Aside0 (wr.heap[gb101]? = some (.cells #[.string a0_0, .slice A0_1 l0_1.length c0_1, .slice (some ad102) l0_2.length c0_2] 39 (0, 0))) := ⟨by rw [← hq_]; exact (tK BK101)⟩; have n1_ : Aside0 (wr.heap[gb103]? = some (.cells #[.string ((rd_T74 l0_2 a2).f0), .slice A102_1 ((rd_T74 l0_2 a2).f1).length c102_1, .slice A102_2 ((rd_T74 l0_2 a2).f2).length c102_2, .slice A102_3 ((rd_T74 l0_2 a2).f3).length c102_3, .int .i64 ((rd_T74 l0_2 a2).f4)] 74 (0, 0))) := ⟨by rw [← hq_]; exact (tK BK103)⟩; have n2_ : Aside0 (Below w.heap.size w wr) := ⟨by rw [← hq_]; exact (tB)⟩; clear BK101 BK103 HB hq_; have BK101 := n0_; have BK103 := n1_; have HB := n2_; clear n0_ n1_ n2_))
       replace BK101 := Aside0.mk (blk_drew BK101.out)
       replace BK103 := Aside0.mk (blk_drew BK103.out)
       replace HB := Aside0.mk (below_drew1 HB.out)
       have p105 : 0 ≤ (x8_1 : Int) := tD
       have q105 : x8_1 < (l1.length : Int) := tD
       obtain ⟨ad105, e105, hx105_0⟩ := Kd.at_int HR1.out x8_1 p105 q105
       have hw105_0 := hx105_0
       cases e105
       replace hx105_0 := tH HB hx105_0
       replace p105 := eq_true p105
       replace q105 := eq_true q105
       refine sS6 15 [] rfl r11_Ready.tab6 r11_Ready.bits6 ⟨tz BK103 0, tz BK103 1, tz BK103 2, tz BK103 3, tz BK103 4, ((HB.out.cell (World.block_lt_of_cell? w _ hw105_0)).trans hw105_0)⟩ (fun hHeld HT_ HW_ => ?_)
       generalize wr.drew = w29 at BK101 BK103 HB hx105_0 hHeld ⊢
       refine sP 0 27 HT_ rfl rfl ?_
       refine sP 1 28 HT_ rfl rfl ?_
       refine sP 2 29 HT_ rfl rfl ?_
       refine sP 4 31 HT_ rfl rfl ?_
       refine sP 6 33 HT_ rfl rfl ?_
       refine sP 9 36 HT_ rfl rfl ?_
       refine sP 11 38 HT_ rfl rfl ?_
       refine sT 3 30 HT_ HW_ rfl rfl hHeld ?_
       refine sT 5 32 HT_ HW_ rfl rfl hHeld ?_
       refine sT 10 37 HT_ HW_ rfl rfl hHeld ?_
       refine sO 7 (some 34) HT_ rfl rfl (fun K hK => ?_)
       refine goes_ Try.func63 (by kernel_rfl) rfl #[.slice A102_1 ((rd_T74 l0_2 a2).f1).length c102_1, .int .i64 x8_1] (by rfl) rfl rfl (by (try simp only [List.map_toArray, List.map_cons, List.map_nil]); first | done | rfl | (simp only [List.length_drop, List.length_take]; rfl)) ?_
       (with_reducible refine (r11_weight.calls k1 _ _ ((rd_T74 l0_2 a2).f1) x8_1 t106 _ (tG HR102_1 HB) HC102_1.out A15.out).mono ?_)
       rintro e w' ⟨rfl, ⟨nd, rfl⟩⟩
       refine ⟨_, rfl, ?_⟩
       refine hK.out _ _ ⟨tz BK103 0, tz BK103 1, tz BK103 2, tz BK103 3, tz BK103 4, ((HB.out.cell (World.block_lt_of_cell? w _ hw105_0)).trans hw105_0)⟩ (fun hHeld => ?_)
       clear hK K
       refine sN 34 ?_
       refine sP 8 35 HT_ rfl rfl ?_
       refine sO 12 (some 39) HT_ rfl rfl (fun K hK => ?_)
       refine goes_ Try.func63 (by kernel_rfl) rfl #[.slice A102_2 ((rd_T74 l0_2 a2).f2).length c102_2, .int .i64 x8_1] (by rfl) rfl rfl (by (try simp only [List.map_toArray, List.map_cons, List.map_nil]); first | done | rfl | (simp only [List.length_drop, List.length_take]; rfl)) ?_
       (with_reducible refine (r11_weight.calls k1 _ _ ((rd_T74 l0_2 a2).f2) x8_1 t107 _ (tC (Kd.C_below HR102_2.out (tB))) HC102_2.out A16.out).mono ?_)
       rintro e w' ⟨rfl, ⟨nd, rfl⟩⟩
       refine ⟨_, rfl, ?_⟩
       refine hK.out _ _ ⟨tz BK103 0, tz BK103 1, tz BK103 2, tz BK103 3, tz BK103 4, ((HB.out.cell (World.block_lt_of_cell? w _ hw105_0)).trans hw105_0)⟩ (fun hHeld => ?_)
       clear hK K
       refine sN 39 ?_
       refine sP 13 40 HT_ rfl rfl ?_
       refine sP 14 10 HT_ rfl rfl ?_
       refine sD HT_ ?_
       try go_wp2
       (try (rw [drewN_self w29]; (first | (rw [drewN_self (World.drewN (World.drewN w29 _) _)]; generalize hq_ : World.drewN (World.drewN (World.drewN w29 _) _) _ = w29) | (rw [drewN_self (World.drewN w29 _)]; generalize hq_ : World.drewN (World.drewN w29 _) _ = w29) | generalize hq_ : World.drewN w29 _ = w29); have n0_ : Aside0 (w29.heap[gb101]? = some (.cells #[.string a0_0, .slice A0_1 l0_1.length c0_1, .slice (some ad102) l0_2.length c0_2] 39 (0, 0))) := ⟨by rw [← hq_]; exact (tK BK101)⟩; have n1_ : Aside0 (w29.heap[gb103]? = some (.cells #[.string ((rd_T74 l0_2 a2).f0), .slice A102_1 ((rd_T74 l0_2 a2).f1).length c102_1, .slice A102_2 ((rd_T74 l0_2 a2).f2).length c102_2, .slice A102_3 ((rd_T74 l0_2 a2).f3).length c102_3, .int .i64 ((rd_T74 l0_2 a2).f4)] 74 (0, 0))) := ⟨by rw [← hq_]; exact (tK BK103)⟩; have n2_ : Aside0 (Below w.heap.size w w29) := ⟨by rw [← hq_]; exact (tB)⟩; clear BK101 BK103 HB hq_; have BK101 := n0_; have BK103 := n1_; have HB := n2_; clear n0_ n1_ n2_))
       replace BK101 := Aside0.mk (blk_drew BK101.out)
       replace BK103 := Aside0.mk (blk_drew BK103.out)
       replace HB := Aside0.mk (below_drew1 HB.out)
       have p108 : 0 ≤ (x8_1 : Int) := tD
       have q108 : x8_1 < (l1.length : Int) := tD
       obtain ⟨ad108, e108, hx108_0⟩ := Kd.at_int HR1.out x8_1 p108 q108
       have hw108_0 := hx108_0
       obtain rfl : ad105 = ad108 := (by injection e108)
       replace hx108_0 := tH HB hx108_0
       replace p108 := eq_true p108
       replace q108 := eq_true q108
       have p110 : 0 ≤ (x8_1 : Int) := tD
       have q110 : x8_1 < (l1.length : Int) := tD
       obtain ⟨ad110, e110, hx110_0⟩ := Kd.at_int HR1.out x8_1 p110 q110
       have hw110_0 := hx110_0
       obtain rfl : ad105 = ad110 := (by injection e110)
       replace hx110_0 := tH HB hx110_0
       replace p110 := eq_true p110
       replace q110 := eq_true q110
       refine sS7 40 [] rfl r11_Ready.tab7 r11_Ready.bits7 ⟨tz BK103 0, tz BK103 1, tz BK103 2, tz BK103 3, tz BK103 4, ((HB.out.cell (World.block_lt_of_cell? w _ hw108_0)).trans hw108_0), ((HB.out.cell (World.block_lt_of_cell? w _ hw110_0)).trans hw110_0)⟩ (fun hHeld HT_ HW_ => ?_)
       generalize w29.drew = w30 at BK101 BK103 HB hx108_0 hx110_0 hHeld ⊢
       refine sP 0 41 HT_ rfl rfl ?_
       refine sP 1 42 HT_ rfl rfl ?_
       refine sP 2 43 HT_ rfl rfl ?_
       refine sP 4 45 HT_ rfl rfl ?_
       refine sP 6 47 HT_ rfl rfl ?_
       refine sT 3 44 HT_ HW_ rfl rfl hHeld ?_
       refine sT 5 46 HT_ HW_ rfl rfl hHeld ?_
       refine sO 7 (some 48) HT_ rfl rfl (fun K hK => ?_)
       refine goes_ Try.func63 (by kernel_rfl) rfl #[.slice A102_1 ((rd_T74 l0_2 a2).f1).length c102_1, .int .i64 x8_1] (by rfl) rfl rfl (by (try simp only [List.map_toArray, List.map_cons, List.map_nil]); first | done | rfl | (simp only [List.length_drop, List.length_take]; rfl)) ?_
       (with_reducible refine (r11_weight.calls k1 _ _ ((rd_T74 l0_2 a2).f1) x8_1 t109 _ (tG HR102_1 HB) HC102_1.out A17.out).mono ?_)
       rintro e w' ⟨rfl, ⟨nd, rfl⟩⟩
       refine ⟨_, rfl, ?_⟩
       refine hK.out _ _ ⟨tz BK103 0, tz BK103 1, tz BK103 2, tz BK103 3, tz BK103 4, ((HB.out.cell (World.block_lt_of_cell? w _ hw108_0)).trans hw108_0), ((HB.out.cell (World.block_lt_of_cell? w _ hw110_0)).trans hw110_0)⟩ (fun hHeld => ?_)
       clear hK K
       refine sN 48 ?_
       refine sP 8 49 HT_ rfl rfl ?_
       refine sP 9 50 HT_ rfl rfl ?_
       refine sP 10 51 HT_ rfl rfl ?_
       refine sP 11 52 HT_ rfl rfl ?_
       refine sP 12 53 HT_ rfl rfl ?_
       refine sP 13 54 HT_ rfl rfl ?_
       refine sP 14 55 HT_ rfl rfl ?_
       refine sP 15 56 HT_ rfl rfl ?_
       refine sP 17 58 HT_ rfl rfl ?_
       refine sT 16 57 HT_ HW_ rfl rfl hHeld ?_
       refine sP 18 59 HT_ rfl rfl ?_
       refine sP 19 60 HT_ rfl rfl ?_
       refine sP 20 61 HT_ rfl rfl ?_
       refine sP 21 62 HT_ rfl rfl ?_
       refine sU 22 63 HT_ rfl rfl ?_
       refine sU 23 64 HT_ rfl rfl ?_
       refine sU 24 65 HT_ rfl rfl ?_
       refine sU 25 66 HT_ rfl rfl ?_
       refine sU 26 67 HT_ rfl rfl ?_
       refine sU 27 68 HT_ rfl rfl ?_
       refine sU 28 69 HT_ rfl rfl ?_
       refine sU 29 70 HT_ rfl rfl ?_
       refine sU 30 71 HT_ rfl rfl ?_
       refine sU 31 72 HT_ rfl rfl ?_
       refine sU 32 73 HT_ rfl rfl ?_
       refine sU 33 74 HT_ rfl rfl ?_
       refine sU 34 75 HT_ rfl rfl ?_
       refine sU 35 76 HT_ rfl rfl ?_
       refine sU 36 77 HT_ rfl rfl ?_
       refine sU 37 78 HT_ rfl rfl ?_
       refine sU 38 79 HT_ rfl rfl ?_
       refine sP 39 80 HT_ rfl rfl ?_
       refine sD HT_ ?_
       try go_wp2
       go_ret
       exact ⟨tE, tB⟩
      rw [if_neg c25] at H
      have c25b0 := tdHe c25
      clear c25
      by_cases c31 : ((rd_T71 l0_1 x8_1).f2) > 0
      ·rw [if_pos c31] at H
       have c31b0 := tdGi c31
       clear c31
       by_cases c32 : (wrap64 ((wrap64 ((rd l1 x8_1) - t106)) + t107)) > ((rd_T71 l0_1 x8_1).f2)
       ·rw [if_pos c32] at H
        have c32b0 := tdGi c32
        have c32b0w_ : decide (((rd_T71 l0_1 x8_1).f2) < (IntKind.i64.wrap ((IntKind.i64.wrap ((rd l1 x8_1) - t106)) + t107))) = true := by simpa only [i64_w] using c32b0
        clear c32
        obtain rfl := Option.some.inj H
        have hnb33 := NB101_103.out
        have hnc33 := NB103_101.out
        obtain ⟨hcz34_0, hcz34_1, hcz34_2, hfz34_0, hfz34_1, hfz34_2⟩ := zc3 BK101
        obtain ⟨hcz35_0, hcz35_1, hcz35_2, hcz35_3, hcz35_4, hfz35_0, hfz35_1, hfz35_2, hfz35_3, hfz35_4⟩ := zc5 BK103
        try go_wp2_with (first | ((with_reducible refine gate_callee (f := 63) rfl ?_); refine goesL_ (some 26) rfl rfl Try.func63 (by kernel_rfl) rfl #[.slice A102_3 ((rd_T74 l0_2 a2).f3).length c102_3, .int .i64 x8_1] rfl (by (try simp only [List.map_toArray, List.map_cons, List.map_nil]); first | done | rfl | (simp only [List.length_drop, List.length_take]; rfl)) ?_; (with_reducible refine (r11_weight.calls k1 _ _ ((rd_T74 l0_2 a2).f3) x8_1 t104 _ (tG HR102_3 HB) HC102_3.out A12.out).mono ?_); rintro e w' ⟨rfl, ⟨nd, rfl⟩⟩; refine ⟨_, rfl, ?_⟩))
        (try (rw [drewN_self wr]; (first | (rw [drewN_self (World.drewN (World.drewN wr _) _)]; generalize hq_ : World.drewN (World.drewN (World.drewN wr _) _) _ = wr) | (rw [drewN_self (World.drewN wr _)]; generalize hq_ : World.drewN (World.drewN wr _) _ = wr) | generalize hq_ : World.drewN wr _ = wr); have n0_ : Aside0 (wr.heap[gb101]? = some (.cells #[.string a0_0, .slice A0_1 l0_1.length c0_1, .slice (some ad102) l0_2.length c0_2] 39 (0, 0))) := ⟨by rw [← hq_]; exact (tK BK101)⟩; have n1_ : Aside0 (wr.heap[gb103]? = some (.cells #[.string ((rd_T74 l0_2 a2).f0), .slice A102_1 ((rd_T74 l0_2 a2).f1).length c102_1, .slice A102_2 ((rd_T74 l0_2 a2).f2).length c102_2, .slice A102_3 ((rd_T74 l0_2 a2).f3).length c102_3, .int .i64 ((rd_T74 l0_2 a2).f4)] 74 (0, 0))) := ⟨by rw [← hq_]; exact (tK BK103)⟩; have n2_ : Aside0 (Below w.heap.size w wr) := ⟨by rw [← hq_]; exact (tB)⟩; clear BK101 BK103 HB hq_; have BK101 := n0_; have BK103 := n1_; have HB := n2_; clear n0_ n1_ n2_))
        replace BK101 := Aside0.mk (blk_drew BK101.out)
        replace BK103 := Aside0.mk (blk_drew BK103.out)
        replace HB := Aside0.mk (below_drew1 HB.out)
        have p105 : 0 ≤ (x8_1 : Int) := tD
        have q105 : x8_1 < (l1.length : Int) := tD
        obtain ⟨ad105, e105, hx105_0⟩ := Kd.at_int HR1.out x8_1 p105 q105
        have hw105_0 := hx105_0
        cases e105
        replace hx105_0 := tH HB hx105_0
        replace p105 := eq_true p105
        replace q105 := eq_true q105
        refine sS6 15 [] rfl r11_Ready.tab6 r11_Ready.bits6 ⟨tz BK103 0, tz BK103 1, tz BK103 2, tz BK103 3, tz BK103 4, ((HB.out.cell (World.block_lt_of_cell? w _ hw105_0)).trans hw105_0)⟩ (fun hHeld HT_ HW_ => ?_)
        generalize wr.drew = w36 at BK101 BK103 HB hx105_0 hHeld ⊢
        refine sP 0 27 HT_ rfl rfl ?_
        refine sP 1 28 HT_ rfl rfl ?_
        refine sP 2 29 HT_ rfl rfl ?_
        refine sP 4 31 HT_ rfl rfl ?_
        refine sP 6 33 HT_ rfl rfl ?_
        refine sP 9 36 HT_ rfl rfl ?_
        refine sP 11 38 HT_ rfl rfl ?_
        refine sT 3 30 HT_ HW_ rfl rfl hHeld ?_
        refine sT 5 32 HT_ HW_ rfl rfl hHeld ?_
        refine sT 10 37 HT_ HW_ rfl rfl hHeld ?_
        refine sO 7 (some 34) HT_ rfl rfl (fun K hK => ?_)
        refine goes_ Try.func63 (by kernel_rfl) rfl #[.slice A102_1 ((rd_T74 l0_2 a2).f1).length c102_1, .int .i64 x8_1] (by rfl) rfl rfl (by (try simp only [List.map_toArray, List.map_cons, List.map_nil]); first | done | rfl | (simp only [List.length_drop, List.length_take]; rfl)) ?_
        (with_reducible refine (r11_weight.calls k1 _ _ ((rd_T74 l0_2 a2).f1) x8_1 t106 _ (tG HR102_1 HB) HC102_1.out A15.out).mono ?_)
        rintro e w' ⟨rfl, ⟨nd, rfl⟩⟩
        refine ⟨_, rfl, ?_⟩
        refine hK.out _ _ ⟨tz BK103 0, tz BK103 1, tz BK103 2, tz BK103 3, tz BK103 4, ((HB.out.cell (World.block_lt_of_cell? w _ hw105_0)).trans hw105_0)⟩ (fun hHeld => ?_)
        clear hK K
        refine sN 34 ?_
        refine sP 8 35 HT_ rfl rfl ?_
        refine sO 12 (some 39) HT_ rfl rfl (fun K hK => ?_)
        refine goes_ Try.func63 (by kernel_rfl) rfl #[.slice A102_2 ((rd_T74 l0_2 a2).f2).length c102_2, .int .i64 x8_1] (by rfl) rfl rfl (by (try simp only [List.map_toArray, List.map_cons, List.map_nil]); first | done | rfl | (simp only [List.length_drop, List.length_take]; rfl)) ?_
        (with_reducible refine (r11_weight.calls k1 _ _ ((rd_T74 l0_2 a2).f2) x8_1 t107 _ (tC (Kd.C_below HR102_2.out (tB))) HC102_2.out A16.out).mono ?_)
        rintro e w' ⟨rfl, ⟨nd, rfl⟩⟩
        refine ⟨_, rfl, ?_⟩
        refine hK.out _ _ ⟨tz BK103 0, tz BK103 1, tz BK103 2, tz BK103 3, tz BK103 4, ((HB.out.cell (World.block_lt_of_cell? w _ hw105_0)).trans hw105_0)⟩ (fun hHeld => ?_)
        clear hK K
        refine sN 39 ?_
        refine sP 13 40 HT_ rfl rfl ?_
        refine sP 14 10 HT_ rfl rfl ?_
        refine sD HT_ ?_
        try go_wp2
        (try (rw [drewN_self w36]; (first | (rw [drewN_self (World.drewN (World.drewN w36 _) _)]; generalize hq_ : World.drewN (World.drewN (World.drewN w36 _) _) _ = w36) | (rw [drewN_self (World.drewN w36 _)]; generalize hq_ : World.drewN (World.drewN w36 _) _ = w36) | generalize hq_ : World.drewN w36 _ = w36); have n0_ : Aside0 (w36.heap[gb101]? = some (.cells #[.string a0_0, .slice A0_1 l0_1.length c0_1, .slice (some ad102) l0_2.length c0_2] 39 (0, 0))) := ⟨by rw [← hq_]; exact (tK BK101)⟩; have n1_ : Aside0 (w36.heap[gb103]? = some (.cells #[.string ((rd_T74 l0_2 a2).f0), .slice A102_1 ((rd_T74 l0_2 a2).f1).length c102_1, .slice A102_2 ((rd_T74 l0_2 a2).f2).length c102_2, .slice A102_3 ((rd_T74 l0_2 a2).f3).length c102_3, .int .i64 ((rd_T74 l0_2 a2).f4)] 74 (0, 0))) := ⟨by rw [← hq_]; exact (tK BK103)⟩; have n2_ : Aside0 (Below w.heap.size w w36) := ⟨by rw [← hq_]; exact (tB)⟩; clear BK101 BK103 HB hq_; have BK101 := n0_; have BK103 := n1_; have HB := n2_; clear n0_ n1_ n2_))
        replace BK101 := Aside0.mk (blk_drew BK101.out)
        replace BK103 := Aside0.mk (blk_drew BK103.out)
        replace HB := Aside0.mk (below_drew1 HB.out)
        have p108 : 0 ≤ (x8_1 : Int) := tD
        have q108 : x8_1 < (l1.length : Int) := tD
        obtain ⟨ad108, e108, hx108_0⟩ := Kd.at_int HR1.out x8_1 p108 q108
        have hw108_0 := hx108_0
        obtain rfl : ad105 = ad108 := (by injection e108)
        replace hx108_0 := tH HB hx108_0
        replace p108 := eq_true p108
        replace q108 := eq_true q108
        have p110 : 0 ≤ (x8_1 : Int) := tD
        have q110 : x8_1 < (l1.length : Int) := tD
        obtain ⟨ad110, e110, hx110_0⟩ := Kd.at_int HR1.out x8_1 p110 q110
        have hw110_0 := hx110_0
        obtain rfl : ad105 = ad110 := (by injection e110)
        replace hx110_0 := tH HB hx110_0
        replace p110 := eq_true p110
        replace q110 := eq_true q110
        have p111 : 0 ≤ (x8_1 : Int) := tD
        have q111 : x8_1 < (l0_1.length : Int) := tD
        obtain ⟨ad111, e111, hx111_0, hx111_1, hx111_2⟩ := at_T71 HR0_1.out x8_1 p111 q111
        have hw111_2 := hx111_2
        have hw111_1 := hx111_1
        have hw111_0 := hx111_0
        cases e111
        replace hx111_0 := tH HB hx111_0
        replace hx111_1 := tH HB hx111_1
        replace hx111_2 := tH HB hx111_2
        replace p111 := eq_true p111
        replace q111 := eq_true q111
        have p112 : 0 ≤ (x8_1 : Int) := tD
        have q112 : x8_1 < (l0_1.length : Int) := tD
        obtain ⟨ad112, e112, hx112_0, hx112_1, hx112_2⟩ := at_T71 HR0_1.out x8_1 p112 q112
        have hw112_2 := hx112_2
        have hw112_1 := hx112_1
        have hw112_0 := hx112_0
        obtain rfl : ad111 = ad112 := (by injection e112)
        replace hx112_0 := tH HB hx112_0
        replace hx112_1 := tH HB hx112_1
        replace hx112_2 := tH HB hx112_2
        replace p112 := eq_true p112
        replace q112 := eq_true q112
        refine sS16 40 [] rfl r11_Ready.tab7 r11_Ready.bits7 ⟨tz BK103 0, tz BK103 1, tz BK103 2, tz BK103 3, tz BK103 4, tz BK101 0, tz BK101 1, tz BK101 2, ((HB.out.cell (World.block_lt_of_cell? w _ hw108_0)).trans hw108_0), ((HB.out.cell (World.block_lt_of_cell? w _ hw110_0)).trans hw110_0), ((HB.out.cell (World.block_lt_of_cell? w _ hw111_0)).trans hw111_0), ((HB.out.cell (World.block_lt_of_cell? w _ hw111_1)).trans hw111_1), ((HB.out.cell (World.block_lt_of_cell? w _ hw111_2)).trans hw111_2), ((HB.out.cell (World.block_lt_of_cell? w _ hw112_0)).trans hw112_0), ((HB.out.cell (World.block_lt_of_cell? w _ hw112_1)).trans hw112_1), ((HB.out.cell (World.block_lt_of_cell? w _ hw112_2)).trans hw112_2)⟩ (fun hHeld HT_ HW_ => ?_)
        generalize w36.drew = w37 at BK101 BK103 HB hx108_0 hx110_0 hx111_0 hx111_1 hx111_2 hx112_0 hx112_1 hx112_2 hHeld ⊢
        refine sP 0 41 HT_ rfl rfl ?_
        refine sP 1 42 HT_ rfl rfl ?_
        refine sP 2 43 HT_ rfl rfl ?_
        refine sP 4 45 HT_ rfl rfl ?_
        refine sP 6 47 HT_ rfl rfl ?_
        refine sT 3 44 HT_ HW_ rfl rfl hHeld ?_
        refine sT 5 46 HT_ HW_ rfl rfl hHeld ?_
        refine sO 7 (some 48) HT_ rfl rfl (fun K hK => ?_)
        refine goes_ Try.func63 (by kernel_rfl) rfl #[.slice A102_1 ((rd_T74 l0_2 a2).f1).length c102_1, .int .i64 x8_1] (by rfl) rfl rfl (by (try simp only [List.map_toArray, List.map_cons, List.map_nil]); first | done | rfl | (simp only [List.length_drop, List.length_take]; rfl)) ?_
        (with_reducible refine (r11_weight.calls k1 _ _ ((rd_T74 l0_2 a2).f1) x8_1 t109 _ (tG HR102_1 HB) HC102_1.out A17.out).mono ?_)
        rintro e w' ⟨rfl, ⟨nd, rfl⟩⟩
        refine ⟨_, rfl, ?_⟩
        refine hK.out _ _ ⟨tz BK103 0, tz BK103 1, tz BK103 2, tz BK103 3, tz BK103 4, tz BK101 0, tz BK101 1, tz BK101 2, ((HB.out.cell (World.block_lt_of_cell? w _ hw108_0)).trans hw108_0), ((HB.out.cell (World.block_lt_of_cell? w _ hw110_0)).trans hw110_0), ((HB.out.cell (World.block_lt_of_cell? w _ hw111_0)).trans hw111_0), ((HB.out.cell (World.block_lt_of_cell? w _ hw111_1)).trans hw111_1), ((HB.out.cell (World.block_lt_of_cell? w _ hw111_2)).trans hw111_2), ((HB.out.cell (World.block_lt_of_cell? w _ hw112_0)).trans hw112_0), ((HB.out.cell (World.block_lt_of_cell? w _ hw112_1)).trans hw112_1), ((HB.out.cell (World.block_lt_of_cell? w _ hw112_2)).trans hw112_2)⟩ (fun hHeld => ?_)
        clear hK K
        refine sN 48 ?_
        refine sP 8 49 HT_ rfl rfl ?_
        refine sP 9 50 HT_ rfl rfl ?_
        refine sP 10 51 HT_ rfl rfl ?_
        refine sP 11 52 HT_ rfl rfl ?_
        refine sP 12 53 HT_ rfl rfl ?_
        refine sP 13 54 HT_ rfl rfl ?_
        refine sP 14 55 HT_ rfl rfl ?_
        refine sP 15 56 HT_ rfl rfl ?_
        refine sP 17 58 HT_ rfl rfl ?_
        refine sT 16 57 HT_ HW_ rfl rfl hHeld ?_
        refine sP 18 59 HT_ rfl rfl ?_
        refine sP 19 60 HT_ rfl rfl ?_
        refine sP 20 61 HT_ rfl rfl ?_
        refine sP 21 62 HT_ rfl rfl ?_
        refine sP 22 63 HT_ rfl rfl ?_
        refine sP 24 65 HT_ rfl rfl ?_
        refine sT 23 64 HT_ HW_ rfl rfl hHeld ?_
        refine sP 25 66 HT_ rfl rfl ?_
        refine sP 26 67 HT_ rfl rfl ?_
        refine sT 27 68 HT_ HW_ rfl rfl hHeld ?_
        refine sP 28 69 HT_ rfl rfl ?_
        refine sP 29 70 HT_ rfl rfl ?_
        refine sP 30 71 HT_ rfl rfl ?_
        refine sP 31 72 HT_ rfl rfl ?_
        refine sP 33 74 HT_ rfl rfl ?_
        refine sT 32 73 HT_ HW_ rfl rfl hHeld ?_
        refine sP 34 75 HT_ rfl rfl ?_
        refine sP 35 76 HT_ rfl rfl ?_
        refine sT 36 77 HT_ HW_ rfl rfl hHeld ?_
        refine sP 37 78 HT_ rfl rfl ?_
        refine sP 38 79 HT_ rfl rfl ?_
        refine sP 39 80 HT_ rfl rfl ?_
        refine sD HT_ ?_
        try go_wp2
        go_ret
        exact ⟨tE, tB⟩
       rw [if_neg c32] at H
       have c32b0 := tdHi c32
       have c32b0w_ : decide (((rd_T71 l0_1 x8_1).f2) < (IntKind.i64.wrap ((IntKind.i64.wrap ((rd l1 x8_1) - t106)) + t107))) = false := by simpa only [i64_w] using c32b0
       clear c32
       have H' := Aside0.mk H
       clear H
       have hnb38 := NB101_103.out
       have hnc38 := NB103_101.out
       obtain ⟨hcz39_0, hcz39_1, hcz39_2, hfz39_0, hfz39_1, hfz39_2⟩ := zc3 BK101
       obtain ⟨hcz40_0, hcz40_1, hcz40_2, hcz40_3, hcz40_4, hfz40_0, hfz40_1, hfz40_2, hfz40_3, hfz40_4⟩ := zc5 BK103
       try go_wp2_with (first | ((with_reducible refine gate_callee (f := 63) rfl ?_); refine goesL_ (some 26) rfl rfl Try.func63 (by kernel_rfl) rfl #[.slice A102_3 ((rd_T74 l0_2 a2).f3).length c102_3, .int .i64 x8_1] rfl (by (try simp only [List.map_toArray, List.map_cons, List.map_nil]); first | done | rfl | (simp only [List.length_drop, List.length_take]; rfl)) ?_; (with_reducible refine (r11_weight.calls k1 _ _ ((rd_T74 l0_2 a2).f3) x8_1 t104 _ (tG HR102_3 HB) HC102_3.out A12.out).mono ?_); rintro e w' ⟨rfl, ⟨nd, rfl⟩⟩; refine ⟨_, rfl, ?_⟩))
       (try (rw [drewN_self wr]; (first | (rw [drewN_self (World.drewN (World.drewN wr _) _)]; generalize hq_ : World.drewN (World.drewN (World.drewN wr _) _) _ = wr) | (rw [drewN_self (World.drewN wr _)]; generalize hq_ : World.drewN (World.drewN wr _) _ = wr) | generalize hq_ : World.drewN wr _ = wr); have n0_ : Aside0 (wr.heap[gb101]? = some (.cells #[.string a0_0, .slice A0_1 l0_1.length c0_1, .slice (some ad102) l0_2.length c0_2] 39 (0, 0))) := ⟨by rw [← hq_]; exact (tK BK101)⟩; have n1_ : Aside0 (wr.heap[gb103]? = some (.cells #[.string ((rd_T74 l0_2 a2).f0), .slice A102_1 ((rd_T74 l0_2 a2).f1).length c102_1, .slice A102_2 ((rd_T74 l0_2 a2).f2).length c102_2, .slice A102_3 ((rd_T74 l0_2 a2).f3).length c102_3, .int .i64 ((rd_T74 l0_2 a2).f4)] 74 (0, 0))) := ⟨by rw [← hq_]; exact (tK BK103)⟩; have n2_ : Aside0 (Below w.heap.size w wr) := ⟨by rw [← hq_]; exact (tB)⟩; clear BK101 BK103 HB hq_; have BK101 := n0_; have BK103 := n1_; have HB := n2_; clear n0_ n1_ n2_))
       replace BK101 := Aside0.mk (blk_drew BK101.out)
       replace BK103 := Aside0.mk (blk_drew BK103.out)
       replace HB := Aside0.mk (below_drew1 HB.out)
       have p105 : 0 ≤ (x8_1 : Int) := tD
       have q105 : x8_1 < (l1.length : Int) := tD
       obtain ⟨ad105, e105, hx105_0⟩ := Kd.at_int HR1.out x8_1 p105 q105
       have hw105_0 := hx105_0
       cases e105
       replace hx105_0 := tH HB hx105_0
       replace p105 := eq_true p105
       replace q105 := eq_true q105
       refine sS6 15 [] rfl r11_Ready.tab6 r11_Ready.bits6 ⟨tz BK103 0, tz BK103 1, tz BK103 2, tz BK103 3, tz BK103 4, ((HB.out.cell (World.block_lt_of_cell? w _ hw105_0)).trans hw105_0)⟩ (fun hHeld HT_ HW_ => ?_)
       generalize wr.drew = w41 at BK101 BK103 HB hx105_0 hHeld ⊢
       refine sP 0 27 HT_ rfl rfl ?_
       refine sP 1 28 HT_ rfl rfl ?_
       refine sP 2 29 HT_ rfl rfl ?_
       refine sP 4 31 HT_ rfl rfl ?_
       refine sP 6 33 HT_ rfl rfl ?_
       refine sP 9 36 HT_ rfl rfl ?_
       refine sP 11 38 HT_ rfl rfl ?_
       refine sT 3 30 HT_ HW_ rfl rfl hHeld ?_
       refine sT 5 32 HT_ HW_ rfl rfl hHeld ?_
       refine sT 10 37 HT_ HW_ rfl rfl hHeld ?_
       refine sO 7 (some 34) HT_ rfl rfl (fun K hK => ?_)
       refine goes_ Try.func63 (by kernel_rfl) rfl #[.slice A102_1 ((rd_T74 l0_2 a2).f1).length c102_1, .int .i64 x8_1] (by rfl) rfl rfl (by (try simp only [List.map_toArray, List.map_cons, List.map_nil]); first | done | rfl | (simp only [List.length_drop, List.length_take]; rfl)) ?_
       (with_reducible refine (r11_weight.calls k1 _ _ ((rd_T74 l0_2 a2).f1) x8_1 t106 _ (tG HR102_1 HB) HC102_1.out A15.out).mono ?_)
       rintro e w' ⟨rfl, ⟨nd, rfl⟩⟩
       refine ⟨_, rfl, ?_⟩
       refine hK.out _ _ ⟨tz BK103 0, tz BK103 1, tz BK103 2, tz BK103 3, tz BK103 4, ((HB.out.cell (World.block_lt_of_cell? w _ hw105_0)).trans hw105_0)⟩ (fun hHeld => ?_)
       clear hK K
       refine sN 34 ?_
       refine sP 8 35 HT_ rfl rfl ?_
       refine sO 12 (some 39) HT_ rfl rfl (fun K hK => ?_)
       refine goes_ Try.func63 (by kernel_rfl) rfl #[.slice A102_2 ((rd_T74 l0_2 a2).f2).length c102_2, .int .i64 x8_1] (by rfl) rfl rfl (by (try simp only [List.map_toArray, List.map_cons, List.map_nil]); first | done | rfl | (simp only [List.length_drop, List.length_take]; rfl)) ?_
       (with_reducible refine (r11_weight.calls k1 _ _ ((rd_T74 l0_2 a2).f2) x8_1 t107 _ (tC (Kd.C_below HR102_2.out (tB))) HC102_2.out A16.out).mono ?_)
       rintro e w' ⟨rfl, ⟨nd, rfl⟩⟩
       refine ⟨_, rfl, ?_⟩
       refine hK.out _ _ ⟨tz BK103 0, tz BK103 1, tz BK103 2, tz BK103 3, tz BK103 4, ((HB.out.cell (World.block_lt_of_cell? w _ hw105_0)).trans hw105_0)⟩ (fun hHeld => ?_)
       clear hK K
       refine sN 39 ?_
       refine sP 13 40 HT_ rfl rfl ?_
       refine sP 14 10 HT_ rfl rfl ?_
       refine sD HT_ ?_
       try go_wp2
       (try (rw [drewN_self w41]; (first | (rw [drewN_self (World.drewN (World.drewN w41 _) _)]; generalize hq_ : World.drewN (World.drewN (World.drewN w41 _) _) _ = w41) | (rw [drewN_self (World.drewN w41 _)]; generalize hq_ : World.drewN (World.drewN w41 _) _ = w41) | generalize hq_ : World.drewN w41 _ = w41); have n0_ : Aside0 (w41.heap[gb101]? = some (.cells #[.string a0_0, .slice A0_1 l0_1.length c0_1, .slice (some ad102) l0_2.length c0_2] 39 (0, 0))) := ⟨by rw [← hq_]; exact (tK BK101)⟩; have n1_ : Aside0 (w41.heap[gb103]? = some (.cells #[.string ((rd_T74 l0_2 a2).f0), .slice A102_1 ((rd_T74 l0_2 a2).f1).length c102_1, .slice A102_2 ((rd_T74 l0_2 a2).f2).length c102_2, .slice A102_3 ((rd_T74 l0_2 a2).f3).length c102_3, .int .i64 ((rd_T74 l0_2 a2).f4)] 74 (0, 0))) := ⟨by rw [← hq_]; exact (tK BK103)⟩; have n2_ : Aside0 (Below w.heap.size w w41) := ⟨by rw [← hq_]; exact (tB)⟩; clear BK101 BK103 HB hq_; have BK101 := n0_; have BK103 := n1_; have HB := n2_; clear n0_ n1_ n2_))
       replace BK101 := Aside0.mk (blk_drew BK101.out)
       replace BK103 := Aside0.mk (blk_drew BK103.out)
       replace HB := Aside0.mk (below_drew1 HB.out)
       have p108 : 0 ≤ (x8_1 : Int) := tD
       have q108 : x8_1 < (l1.length : Int) := tD
       obtain ⟨ad108, e108, hx108_0⟩ := Kd.at_int HR1.out x8_1 p108 q108
       have hw108_0 := hx108_0
       obtain rfl : ad105 = ad108 := (by injection e108)
       replace hx108_0 := tH HB hx108_0
       replace p108 := eq_true p108
       replace q108 := eq_true q108
       have p110 : 0 ≤ (x8_1 : Int) := tD
       have q110 : x8_1 < (l1.length : Int) := tD
       obtain ⟨ad110, e110, hx110_0⟩ := Kd.at_int HR1.out x8_1 p110 q110
       have hw110_0 := hx110_0
       obtain rfl : ad105 = ad110 := (by injection e110)
       replace hx110_0 := tH HB hx110_0
       replace p110 := eq_true p110
       replace q110 := eq_true q110
       have p111 : 0 ≤ (x8_1 : Int) := tD
       have q111 : x8_1 < (l0_1.length : Int) := tD
       obtain ⟨ad111, e111, hx111_0, hx111_1, hx111_2⟩ := at_T71 HR0_1.out x8_1 p111 q111
       have hw111_2 := hx111_2
       have hw111_1 := hx111_1
       have hw111_0 := hx111_0
       cases e111
       replace hx111_0 := tH HB hx111_0
       replace hx111_1 := tH HB hx111_1
       replace hx111_2 := tH HB hx111_2
       replace p111 := eq_true p111
       replace q111 := eq_true q111
       have p112 : 0 ≤ (x8_1 : Int) := tD
       have q112 : x8_1 < (l0_1.length : Int) := tD
       obtain ⟨ad112, e112, hx112_0, hx112_1, hx112_2⟩ := at_T71 HR0_1.out x8_1 p112 q112
       have hw112_2 := hx112_2
       have hw112_1 := hx112_1
       have hw112_0 := hx112_0
       obtain rfl : ad111 = ad112 := (by injection e112)
       replace hx112_0 := tH HB hx112_0
       replace hx112_1 := tH HB hx112_1
       replace hx112_2 := tH HB hx112_2
       replace p112 := eq_true p112
       replace q112 := eq_true q112
       refine sS16 40 [] rfl r11_Ready.tab7 r11_Ready.bits7 ⟨tz BK103 0, tz BK103 1, tz BK103 2, tz BK103 3, tz BK103 4, tz BK101 0, tz BK101 1, tz BK101 2, ((HB.out.cell (World.block_lt_of_cell? w _ hw108_0)).trans hw108_0), ((HB.out.cell (World.block_lt_of_cell? w _ hw110_0)).trans hw110_0), ((HB.out.cell (World.block_lt_of_cell? w _ hw111_0)).trans hw111_0), ((HB.out.cell (World.block_lt_of_cell? w _ hw111_1)).trans hw111_1), ((HB.out.cell (World.block_lt_of_cell? w _ hw111_2)).trans hw111_2), ((HB.out.cell (World.block_lt_of_cell? w _ hw112_0)).trans hw112_0), ((HB.out.cell (World.block_lt_of_cell? w _ hw112_1)).trans hw112_1), ((HB.out.cell (World.block_lt_of_cell? w _ hw112_2)).trans hw112_2)⟩ (fun hHeld HT_ HW_ => ?_)
       generalize w41.drew = w42 at BK101 BK103 HB hx108_0 hx110_0 hx111_0 hx111_1 hx111_2 hx112_0 hx112_1 hx112_2 hHeld ⊢
       refine sP 0 41 HT_ rfl rfl ?_
       refine sP 1 42 HT_ rfl rfl ?_
       refine sP 2 43 HT_ rfl rfl ?_
       refine sP 4 45 HT_ rfl rfl ?_
       refine sP 6 47 HT_ rfl rfl ?_
       refine sT 3 44 HT_ HW_ rfl rfl hHeld ?_
       refine sT 5 46 HT_ HW_ rfl rfl hHeld ?_
       refine sO 7 (some 48) HT_ rfl rfl (fun K hK => ?_)
       refine goes_ Try.func63 (by kernel_rfl) rfl #[.slice A102_1 ((rd_T74 l0_2 a2).f1).length c102_1, .int .i64 x8_1] (by rfl) rfl rfl (by (try simp only [List.map_toArray, List.map_cons, List.map_nil]); first | done | rfl | (simp only [List.length_drop, List.length_take]; rfl)) ?_
       (with_reducible refine (r11_weight.calls k1 _ _ ((rd_T74 l0_2 a2).f1) x8_1 t109 _ (tG HR102_1 HB) HC102_1.out A17.out).mono ?_)
       rintro e w' ⟨rfl, ⟨nd, rfl⟩⟩
       refine ⟨_, rfl, ?_⟩
       refine hK.out _ _ ⟨tz BK103 0, tz BK103 1, tz BK103 2, tz BK103 3, tz BK103 4, tz BK101 0, tz BK101 1, tz BK101 2, ((HB.out.cell (World.block_lt_of_cell? w _ hw108_0)).trans hw108_0), ((HB.out.cell (World.block_lt_of_cell? w _ hw110_0)).trans hw110_0), ((HB.out.cell (World.block_lt_of_cell? w _ hw111_0)).trans hw111_0), ((HB.out.cell (World.block_lt_of_cell? w _ hw111_1)).trans hw111_1), ((HB.out.cell (World.block_lt_of_cell? w _ hw111_2)).trans hw111_2), ((HB.out.cell (World.block_lt_of_cell? w _ hw112_0)).trans hw112_0), ((HB.out.cell (World.block_lt_of_cell? w _ hw112_1)).trans hw112_1), ((HB.out.cell (World.block_lt_of_cell? w _ hw112_2)).trans hw112_2)⟩ (fun hHeld => ?_)
       clear hK K
       refine sN 48 ?_
       refine sP 8 49 HT_ rfl rfl ?_
       refine sP 9 50 HT_ rfl rfl ?_
       refine sP 10 51 HT_ rfl rfl ?_
       refine sP 11 52 HT_ rfl rfl ?_
       refine sP 12 53 HT_ rfl rfl ?_
       refine sP 13 54 HT_ rfl rfl ?_
       refine sP 14 55 HT_ rfl rfl ?_
       refine sP 15 56 HT_ rfl rfl ?_
       refine sP 17 58 HT_ rfl rfl ?_
       refine sT 16 57 HT_ HW_ rfl rfl hHeld ?_
       refine sP 18 59 HT_ rfl rfl ?_
       refine sP 19 60 HT_ rfl rfl ?_
       refine sP 20 61 HT_ rfl rfl ?_
       refine sP 21 62 HT_ rfl rfl ?_
       refine sP 22 63 HT_ rfl rfl ?_
       refine sP 24 65 HT_ rfl rfl ?_
       refine sT 23 64 HT_ HW_ rfl rfl hHeld ?_
       refine sP 25 66 HT_ rfl rfl ?_
       refine sP 26 67 HT_ rfl rfl ?_
       refine sT 27 68 HT_ HW_ rfl rfl hHeld ?_
       refine sP 28 69 HT_ rfl rfl ?_
       refine sP 29 70 HT_ rfl rfl ?_
       refine sP 30 71 HT_ rfl rfl ?_
       refine sP 31 72 HT_ rfl rfl ?_
       refine sP 33 74 HT_ rfl rfl ?_
       refine sT 32 73 HT_ HW_ rfl rfl hHeld ?_
       refine sP 34 75 HT_ rfl rfl ?_
       refine sP 35 76 HT_ rfl rfl ?_
       refine sT 36 77 HT_ HW_ rfl rfl hHeld ?_
       refine sP 37 78 HT_ rfl rfl ?_
       refine sP 38 79 HT_ rfl rfl ?_
       refine sP 39 80 HT_ rfl rfl ?_
       refine sD HT_ ?_
       try go_wp2
       go_roundg k1
       case measure => have := HK1.out; omega
       case rel => exact ⟨(wrap64 (x8_1 + 1)), tU, H', ⟨by have := HK1.out; omega⟩, ⟨tK BK101⟩, ⟨tK BK103⟩, ⟨tB⟩⟩
      rw [if_neg c31] at H
      have c31b0 := tdHi c31
      clear c31
      have H' := Aside0.mk H
      clear H
      have hnb43 := NB101_103.out
      have hnc43 := NB103_101.out
      obtain ⟨hcz44_0, hcz44_1, hcz44_2, hfz44_0, hfz44_1, hfz44_2⟩ := zc3 BK101
      obtain ⟨hcz45_0, hcz45_1, hcz45_2, hcz45_3, hcz45_4, hfz45_0, hfz45_1, hfz45_2, hfz45_3, hfz45_4⟩ := zc5 BK103
      try go_wp2_with (first | ((with_reducible refine gate_callee (f := 63) rfl ?_); refine goesL_ (some 26) rfl rfl Try.func63 (by kernel_rfl) rfl #[.slice A102_3 ((rd_T74 l0_2 a2).f3).length c102_3, .int .i64 x8_1] rfl (by (try simp only [List.map_toArray, List.map_cons, List.map_nil]); first | done | rfl | (simp only [List.length_drop, List.length_take]; rfl)) ?_; (with_reducible refine (r11_weight.calls k1 _ _ ((rd_T74 l0_2 a2).f3) x8_1 t104 _ (tG HR102_3 HB) HC102_3.out A12.out).mono ?_); rintro e w' ⟨rfl, ⟨nd, rfl⟩⟩; refine ⟨_, rfl, ?_⟩))
      (try (rw [drewN_self wr]; (first | (rw [drewN_self (World.drewN (World.drewN wr _) _)]; generalize hq_ : World.drewN (World.drewN (World.drewN wr _) _) _ = wr) | (rw [drewN_self (World.drewN wr _)]; generalize hq_ : World.drewN (World.drewN wr _) _ = wr) | generalize hq_ : World.drewN wr _ = wr); have n0_ : Aside0 (wr.heap[gb101]? = some (.cells #[.string a0_0, .slice A0_1 l0_1.length c0_1, .slice (some ad102) l0_2.length c0_2] 39 (0, 0))) := ⟨by rw [← hq_]; exact (tK BK101)⟩; have n1_ : Aside0 (wr.heap[gb103]? = some (.cells #[.string ((rd_T74 l0_2 a2).f0), .slice A102_1 ((rd_T74 l0_2 a2).f1).length c102_1, .slice A102_2 ((rd_T74 l0_2 a2).f2).length c102_2, .slice A102_3 ((rd_T74 l0_2 a2).f3).length c102_3, .int .i64 ((rd_T74 l0_2 a2).f4)] 74 (0, 0))) := ⟨by rw [← hq_]; exact (tK BK103)⟩; have n2_ : Aside0 (Below w.heap.size w wr) := ⟨by rw [← hq_]; exact (tB)⟩; clear BK101 BK103 HB hq_; have BK101 := n0_; have BK103 := n1_; have HB := n2_; clear n0_ n1_ n2_))
      replace BK101 := Aside0.mk (blk_drew BK101.out)
      replace BK103 := Aside0.mk (blk_drew BK103.out)
      replace HB := Aside0.mk (below_drew1 HB.out)
      have p105 : 0 ≤ (x8_1 : Int) := tD
      have q105 : x8_1 < (l1.length : Int) := tD
      obtain ⟨ad105, e105, hx105_0⟩ := Kd.at_int HR1.out x8_1 p105 q105
      have hw105_0 := hx105_0
      cases e105
      replace hx105_0 := tH HB hx105_0
      replace p105 := eq_true p105
      replace q105 := eq_true q105
      refine sS6 15 [] rfl r11_Ready.tab6 r11_Ready.bits6 ⟨tz BK103 0, tz BK103 1, tz BK103 2, tz BK103 3, tz BK103 4, ((HB.out.cell (World.block_lt_of_cell? w _ hw105_0)).trans hw105_0)⟩ (fun hHeld HT_ HW_ => ?_)
      generalize wr.drew = w46 at BK101 BK103 HB hx105_0 hHeld ⊢
      refine sP 0 27 HT_ rfl rfl ?_
      refine sP 1 28 HT_ rfl rfl ?_
      refine sP 2 29 HT_ rfl rfl ?_
      refine sP 4 31 HT_ rfl rfl ?_
      refine sP 6 33 HT_ rfl rfl ?_
      refine sP 9 36 HT_ rfl rfl ?_
      refine sP 11 38 HT_ rfl rfl ?_
      refine sT 3 30 HT_ HW_ rfl rfl hHeld ?_
      refine sT 5 32 HT_ HW_ rfl rfl hHeld ?_
      refine sT 10 37 HT_ HW_ rfl rfl hHeld ?_
      refine sO 7 (some 34) HT_ rfl rfl (fun K hK => ?_)
      refine goes_ Try.func63 (by kernel_rfl) rfl #[.slice A102_1 ((rd_T74 l0_2 a2).f1).length c102_1, .int .i64 x8_1] (by rfl) rfl rfl (by (try simp only [List.map_toArray, List.map_cons, List.map_nil]); first | done | rfl | (simp only [List.length_drop, List.length_take]; rfl)) ?_
      (with_reducible refine (r11_weight.calls k1 _ _ ((rd_T74 l0_2 a2).f1) x8_1 t106 _ (tG HR102_1 HB) HC102_1.out A15.out).mono ?_)
      rintro e w' ⟨rfl, ⟨nd, rfl⟩⟩
      refine ⟨_, rfl, ?_⟩
      refine hK.out _ _ ⟨tz BK103 0, tz BK103 1, tz BK103 2, tz BK103 3, tz BK103 4, ((HB.out.cell (World.block_lt_of_cell? w _ hw105_0)).trans hw105_0)⟩ (fun hHeld => ?_)
      clear hK K
      refine sN 34 ?_
      refine sP 8 35 HT_ rfl rfl ?_
      refine sO 12 (some 39) HT_ rfl rfl (fun K hK => ?_)
      refine goes_ Try.func63 (by kernel_rfl) rfl #[.slice A102_2 ((rd_T74 l0_2 a2).f2).length c102_2, .int .i64 x8_1] (by rfl) rfl rfl (by (try simp only [List.map_toArray, List.map_cons, List.map_nil]); first | done | rfl | (simp only [List.length_drop, List.length_take]; rfl)) ?_
      (with_reducible refine (r11_weight.calls k1 _ _ ((rd_T74 l0_2 a2).f2) x8_1 t107 _ (tC (Kd.C_below HR102_2.out (tB))) HC102_2.out A16.out).mono ?_)
      rintro e w' ⟨rfl, ⟨nd, rfl⟩⟩
      refine ⟨_, rfl, ?_⟩
      refine hK.out _ _ ⟨tz BK103 0, tz BK103 1, tz BK103 2, tz BK103 3, tz BK103 4, ((HB.out.cell (World.block_lt_of_cell? w _ hw105_0)).trans hw105_0)⟩ (fun hHeld => ?_)
      clear hK K
      refine sN 39 ?_
      refine sP 13 40 HT_ rfl rfl ?_
      refine sP 14 10 HT_ rfl rfl ?_
      refine sD HT_ ?_
      try go_wp2
      (try (rw [drewN_self w46]; (first | (rw [drewN_self (World.drewN (World.drewN w46 _) _)]; generalize hq_ : World.drewN (World.drewN (World.drewN w46 _) _) _ = w46) | (rw [drewN_self (World.drewN w46 _)]; generalize hq_ : World.drewN (World.drewN w46 _) _ = w46) | generalize hq_ : World.drewN w46 _ = w46); have n0_ : Aside0 (w46.heap[gb101]? = some (.cells #[.string a0_0, .slice A0_1 l0_1.length c0_1, .slice (some ad102) l0_2.length c0_2] 39 (0, 0))) := ⟨by rw [← hq_]; exact (tK BK101)⟩; have n1_ : Aside0 (w46.heap[gb103]? = some (.cells #[.string ((rd_T74 l0_2 a2).f0), .slice A102_1 ((rd_T74 l0_2 a2).f1).length c102_1, .slice A102_2 ((rd_T74 l0_2 a2).f2).length c102_2, .slice A102_3 ((rd_T74 l0_2 a2).f3).length c102_3, .int .i64 ((rd_T74 l0_2 a2).f4)] 74 (0, 0))) := ⟨by rw [← hq_]; exact (tK BK103)⟩; have n2_ : Aside0 (Below w.heap.size w w46) := ⟨by rw [← hq_]; exact (tB)⟩; clear BK101 BK103 HB hq_; have BK101 := n0_; have BK103 := n1_; have HB := n2_; clear n0_ n1_ n2_))
      replace BK101 := Aside0.mk (blk_drew BK101.out)
      replace BK103 := Aside0.mk (blk_drew BK103.out)
      replace HB := Aside0.mk (below_drew1 HB.out)
      have p108 : 0 ≤ (x8_1 : Int) := tD
      have q108 : x8_1 < (l1.length : Int) := tD
      obtain ⟨ad108, e108, hx108_0⟩ := Kd.at_int HR1.out x8_1 p108 q108
      have hw108_0 := hx108_0
      obtain rfl : ad105 = ad108 := (by injection e108)
      replace hx108_0 := tH HB hx108_0
      replace p108 := eq_true p108
      replace q108 := eq_true q108
      have p110 : 0 ≤ (x8_1 : Int) := tD
      have q110 : x8_1 < (l1.length : Int) := tD
      obtain ⟨ad110, e110, hx110_0⟩ := Kd.at_int HR1.out x8_1 p110 q110
      have hw110_0 := hx110_0
      obtain rfl : ad105 = ad110 := (by injection e110)
      replace hx110_0 := tH HB hx110_0
      replace p110 := eq_true p110
      replace q110 := eq_true q110
      have p111 : 0 ≤ (x8_1 : Int) := tD
      have q111 : x8_1 < (l0_1.length : Int) := tD
      obtain ⟨ad111, e111, hx111_0, hx111_1, hx111_2⟩ := at_T71 HR0_1.out x8_1 p111 q111
      have hw111_2 := hx111_2
      have hw111_1 := hx111_1
      have hw111_0 := hx111_0
      cases e111
      replace hx111_0 := tH HB hx111_0
      replace hx111_1 := tH HB hx111_1
      replace hx111_2 := tH HB hx111_2
      replace p111 := eq_true p111
      replace q111 := eq_true q111
      refine sS13 40 [] rfl r11_Ready.tab7 r11_Ready.bits7 ⟨tz BK103 0, tz BK103 1, tz BK103 2, tz BK103 3, tz BK103 4, tz BK101 0, tz BK101 1, tz BK101 2, ((HB.out.cell (World.block_lt_of_cell? w _ hw108_0)).trans hw108_0), ((HB.out.cell (World.block_lt_of_cell? w _ hw110_0)).trans hw110_0), ((HB.out.cell (World.block_lt_of_cell? w _ hw111_0)).trans hw111_0), ((HB.out.cell (World.block_lt_of_cell? w _ hw111_1)).trans hw111_1), ((HB.out.cell (World.block_lt_of_cell? w _ hw111_2)).trans hw111_2)⟩ (fun hHeld HT_ HW_ => ?_)
      generalize w46.drew = w47 at BK101 BK103 HB hx108_0 hx110_0 hx111_0 hx111_1 hx111_2 hHeld ⊢
      refine sP 0 41 HT_ rfl rfl ?_
      refine sP 1 42 HT_ rfl rfl ?_
      refine sP 2 43 HT_ rfl rfl ?_
      refine sP 4 45 HT_ rfl rfl ?_
      refine sP 6 47 HT_ rfl rfl ?_
      refine sT 3 44 HT_ HW_ rfl rfl hHeld ?_
      refine sT 5 46 HT_ HW_ rfl rfl hHeld ?_
      refine sO 7 (some 48) HT_ rfl rfl (fun K hK => ?_)
      refine goes_ Try.func63 (by kernel_rfl) rfl #[.slice A102_1 ((rd_T74 l0_2 a2).f1).length c102_1, .int .i64 x8_1] (by rfl) rfl rfl (by (try simp only [List.map_toArray, List.map_cons, List.map_nil]); first | done | rfl | (simp only [List.length_drop, List.length_take]; rfl)) ?_
      (with_reducible refine (r11_weight.calls k1 _ _ ((rd_T74 l0_2 a2).f1) x8_1 t109 _ (tG HR102_1 HB) HC102_1.out A17.out).mono ?_)
      rintro e w' ⟨rfl, ⟨nd, rfl⟩⟩
      refine ⟨_, rfl, ?_⟩
      refine hK.out _ _ ⟨tz BK103 0, tz BK103 1, tz BK103 2, tz BK103 3, tz BK103 4, tz BK101 0, tz BK101 1, tz BK101 2, ((HB.out.cell (World.block_lt_of_cell? w _ hw108_0)).trans hw108_0), ((HB.out.cell (World.block_lt_of_cell? w _ hw110_0)).trans hw110_0), ((HB.out.cell (World.block_lt_of_cell? w _ hw111_0)).trans hw111_0), ((HB.out.cell (World.block_lt_of_cell? w _ hw111_1)).trans hw111_1), ((HB.out.cell (World.block_lt_of_cell? w _ hw111_2)).trans hw111_2)⟩ (fun hHeld => ?_)
      clear hK K
      refine sN 48 ?_
      refine sP 8 49 HT_ rfl rfl ?_
      refine sP 9 50 HT_ rfl rfl ?_
      refine sP 10 51 HT_ rfl rfl ?_
      refine sP 11 52 HT_ rfl rfl ?_
      refine sP 12 53 HT_ rfl rfl ?_
      refine sP 13 54 HT_ rfl rfl ?_
      refine sP 14 55 HT_ rfl rfl ?_
      refine sP 15 56 HT_ rfl rfl ?_
      refine sP 17 58 HT_ rfl rfl ?_
      refine sT 16 57 HT_ HW_ rfl rfl hHeld ?_
      refine sP 18 59 HT_ rfl rfl ?_
      refine sP 19 60 HT_ rfl rfl ?_
      refine sP 20 61 HT_ rfl rfl ?_
      refine sP 21 62 HT_ rfl rfl ?_
      refine sP 22 63 HT_ rfl rfl ?_
      refine sP 24 65 HT_ rfl rfl ?_
      refine sT 23 64 HT_ HW_ rfl rfl hHeld ?_
      refine sP 25 66 HT_ rfl rfl ?_
      refine sP 26 67 HT_ rfl rfl ?_
      refine sT 27 68 HT_ HW_ rfl rfl hHeld ?_
      refine sP 28 69 HT_ rfl rfl ?_
      refine sP 29 70 HT_ rfl rfl ?_
      refine sU 30 71 HT_ rfl rfl ?_
      refine sU 31 72 HT_ rfl rfl ?_
      refine sU 32 73 HT_ rfl rfl ?_
      refine sU 33 74 HT_ rfl rfl ?_
      refine sU 34 75 HT_ rfl rfl ?_
      refine sU 35 76 HT_ rfl rfl ?_
      refine sU 36 77 HT_ rfl rfl ?_
      refine sU 37 78 HT_ rfl rfl ?_
      refine sP 38 79 HT_ rfl rfl ?_
      refine sP 39 80 HT_ rfl rfl ?_
      refine sD HT_ ?_
      try go_wp2
      go_roundg k1
      case measure => have := HK1.out; omega
      case rel => exact ⟨(wrap64 (x8_1 + 1)), tU, H', ⟨by have := HK1.out; omega⟩, ⟨tK BK101⟩, ⟨tK BK103⟩, ⟨tB⟩⟩
     rw [if_neg c24] at H
     have c24b0 := tdHi c24
     clear c24
     by_cases c48 : ((rd_T71 l0_1 x8_1).f2) > 0
     ·rw [if_pos c48] at H
      have c48b0 := tdGi c48
      clear c48
      by_cases c49 : (wrap64 ((wrap64 ((rd l1 x8_1) - t106)) + t107)) > ((rd_T71 l0_1 x8_1).f2)
      ·rw [if_pos c49] at H
       have c49b0 := tdGi c49
       have c49b0w_ : decide (((rd_T71 l0_1 x8_1).f2) < (IntKind.i64.wrap ((IntKind.i64.wrap ((rd l1 x8_1) - t106)) + t107))) = true := by simpa only [i64_w] using c49b0
       clear c49
       obtain rfl := Option.some.inj H
       have hnb50 := NB101_103.out
       have hnc50 := NB103_101.out
       obtain ⟨hcz51_0, hcz51_1, hcz51_2, hfz51_0, hfz51_1, hfz51_2⟩ := zc3 BK101
       obtain ⟨hcz52_0, hcz52_1, hcz52_2, hcz52_3, hcz52_4, hfz52_0, hfz52_1, hfz52_2, hfz52_3, hfz52_4⟩ := zc5 BK103
       try go_wp2_with (first | ((with_reducible refine gate_callee (f := 63) rfl ?_); refine goesL_ (some 26) rfl rfl Try.func63 (by kernel_rfl) rfl #[.slice A102_3 ((rd_T74 l0_2 a2).f3).length c102_3, .int .i64 x8_1] rfl (by (try simp only [List.map_toArray, List.map_cons, List.map_nil]); first | done | rfl | (simp only [List.length_drop, List.length_take]; rfl)) ?_; (with_reducible refine (r11_weight.calls k1 _ _ ((rd_T74 l0_2 a2).f3) x8_1 t104 _ (tG HR102_3 HB) HC102_3.out A12.out).mono ?_); rintro e w' ⟨rfl, ⟨nd, rfl⟩⟩; refine ⟨_, rfl, ?_⟩))
       (try (rw [drewN_self wr]; (first | (rw [drewN_self (World.drewN (World.drewN wr _) _)]; generalize hq_ : World.drewN (World.drewN (World.drewN wr _) _) _ = wr) | (rw [drewN_self (World.drewN wr _)]; generalize hq_ : World.drewN (World.drewN wr _) _ = wr) | generalize hq_ : World.drewN wr _ = wr); have n0_ : Aside0 (wr.heap[gb101]? = some (.cells #[.string a0_0, .slice A0_1 l0_1.length c0_1, .slice (some ad102) l0_2.length c0_2] 39 (0, 0))) := ⟨by rw [← hq_]; exact (tK BK101)⟩; have n1_ : Aside0 (wr.heap[gb103]? = some (.cells #[.string ((rd_T74 l0_2 a2).f0), .slice A102_1 ((rd_T74 l0_2 a2).f1).length c102_1, .slice A102_2 ((rd_T74 l0_2 a2).f2).length c102_2, .slice A102_3 ((rd_T74 l0_2 a2).f3).length c102_3, .int .i64 ((rd_T74 l0_2 a2).f4)] 74 (0, 0))) := ⟨by rw [← hq_]; exact (tK BK103)⟩; have n2_ : Aside0 (Below w.heap.size w wr) := ⟨by rw [← hq_]; exact (tB)⟩; clear BK101 BK103 HB hq_; have BK101 := n0_; have BK103 := n1_; have HB := n2_; clear n0_ n1_ n2_))
       replace BK101 := Aside0.mk (blk_drew BK101.out)
       replace BK103 := Aside0.mk (blk_drew BK103.out)
       replace HB := Aside0.mk (below_drew1 HB.out)
       have p105 : 0 ≤ (x8_1 : Int) := tD
       have q105 : x8_1 < (l1.length : Int) := tD
       obtain ⟨ad105, e105, hx105_0⟩ := Kd.at_int HR1.out x8_1 p105 q105
       have hw105_0 := hx105_0
       cases e105
       replace hx105_0 := tH HB hx105_0
       replace p105 := eq_true p105
       replace q105 := eq_true q105
       refine sS6 15 [] rfl r11_Ready.tab6 r11_Ready.bits6 ⟨tz BK103 0, tz BK103 1, tz BK103 2, tz BK103 3, tz BK103 4, ((HB.out.cell (World.block_lt_of_cell? w _ hw105_0)).trans hw105_0)⟩ (fun hHeld HT_ HW_ => ?_)
       generalize wr.drew = w53 at BK101 BK103 HB hx105_0 hHeld ⊢
       refine sP 0 27 HT_ rfl rfl ?_
       refine sP 1 28 HT_ rfl rfl ?_
       refine sP 2 29 HT_ rfl rfl ?_
       refine sP 4 31 HT_ rfl rfl ?_
       refine sP 6 33 HT_ rfl rfl ?_
       refine sP 9 36 HT_ rfl rfl ?_
       refine sP 11 38 HT_ rfl rfl ?_
       refine sT 3 30 HT_ HW_ rfl rfl hHeld ?_
       refine sT 5 32 HT_ HW_ rfl rfl hHeld ?_
       refine sT 10 37 HT_ HW_ rfl rfl hHeld ?_
       refine sO 7 (some 34) HT_ rfl rfl (fun K hK => ?_)
       refine goes_ Try.func63 (by kernel_rfl) rfl #[.slice A102_1 ((rd_T74 l0_2 a2).f1).length c102_1, .int .i64 x8_1] (by rfl) rfl rfl (by (try simp only [List.map_toArray, List.map_cons, List.map_nil]); first | done | rfl | (simp only [List.length_drop, List.length_take]; rfl)) ?_
       (with_reducible refine (r11_weight.calls k1 _ _ ((rd_T74 l0_2 a2).f1) x8_1 t106 _ (tG HR102_1 HB) HC102_1.out A15.out).mono ?_)
       rintro e w' ⟨rfl, ⟨nd, rfl⟩⟩
       refine ⟨_, rfl, ?_⟩
       refine hK.out _ _ ⟨tz BK103 0, tz BK103 1, tz BK103 2, tz BK103 3, tz BK103 4, ((HB.out.cell (World.block_lt_of_cell? w _ hw105_0)).trans hw105_0)⟩ (fun hHeld => ?_)
       clear hK K
       refine sN 34 ?_
       refine sP 8 35 HT_ rfl rfl ?_
       refine sO 12 (some 39) HT_ rfl rfl (fun K hK => ?_)
       refine goes_ Try.func63 (by kernel_rfl) rfl #[.slice A102_2 ((rd_T74 l0_2 a2).f2).length c102_2, .int .i64 x8_1] (by rfl) rfl rfl (by (try simp only [List.map_toArray, List.map_cons, List.map_nil]); first | done | rfl | (simp only [List.length_drop, List.length_take]; rfl)) ?_
       (with_reducible refine (r11_weight.calls k1 _ _ ((rd_T74 l0_2 a2).f2) x8_1 t107 _ (tC (Kd.C_below HR102_2.out (tB))) HC102_2.out A16.out).mono ?_)
       rintro e w' ⟨rfl, ⟨nd, rfl⟩⟩
       refine ⟨_, rfl, ?_⟩
       refine hK.out _ _ ⟨tz BK103 0, tz BK103 1, tz BK103 2, tz BK103 3, tz BK103 4, ((HB.out.cell (World.block_lt_of_cell? w _ hw105_0)).trans hw105_0)⟩ (fun hHeld => ?_)
       clear hK K
       refine sN 39 ?_
       refine sP 13 40 HT_ rfl rfl ?_
       refine sP 14 10 HT_ rfl rfl ?_
       refine sD HT_ ?_
       try go_wp2
       (try (rw [drewN_self w53]; (first | (rw [drewN_self (World.drewN (World.drewN w53 _) _)]; generalize hq_ : World.drewN (World.drewN (World.drewN w53 _) _) _ = w53) | (rw [drewN_self (World.drewN w53 _)]; generalize hq_ : World.drewN (World.drewN w53 _) _ = w53) | generalize hq_ : World.drewN w53 _ = w53); have n0_ : Aside0 (w53.heap[gb101]? = some (.cells #[.string a0_0, .slice A0_1 l0_1.length c0_1, .slice (some ad102) l0_2.length c0_2] 39 (0, 0))) := ⟨by rw [← hq_]; exact (tK BK101)⟩; have n1_ : Aside0 (w53.heap[gb103]? = some (.cells #[.string ((rd_T74 l0_2 a2).f0), .slice A102_1 ((rd_T74 l0_2 a2).f1).length c102_1, .slice A102_2 ((rd_T74 l0_2 a2).f2).length c102_2, .slice A102_3 ((rd_T74 l0_2 a2).f3).length c102_3, .int .i64 ((rd_T74 l0_2 a2).f4)] 74 (0, 0))) := ⟨by rw [← hq_]; exact (tK BK103)⟩; have n2_ : Aside0 (Below w.heap.size w w53) := ⟨by rw [← hq_]; exact (tB)⟩; clear BK101 BK103 HB hq_; have BK101 := n0_; have BK103 := n1_; have HB := n2_; clear n0_ n1_ n2_))
       replace BK101 := Aside0.mk (blk_drew BK101.out)
       replace BK103 := Aside0.mk (blk_drew BK103.out)
       replace HB := Aside0.mk (below_drew1 HB.out)
       have p108 : 0 ≤ (x8_1 : Int) := tD
       have q108 : x8_1 < (l1.length : Int) := tD
       obtain ⟨ad108, e108, hx108_0⟩ := Kd.at_int HR1.out x8_1 p108 q108
       have hw108_0 := hx108_0
       obtain rfl : ad105 = ad108 := (by injection e108)
       replace hx108_0 := tH HB hx108_0
       replace p108 := eq_true p108
       replace q108 := eq_true q108
       have p113 : 0 ≤ (x8_1 : Int) := tD
       have q113 : x8_1 < (l0_1.length : Int) := tD
       obtain ⟨ad113, e113, hx113_0, hx113_1, hx113_2⟩ := at_T71 HR0_1.out x8_1 p113 q113
       have hw113_2 := hx113_2
       have hw113_1 := hx113_1
       have hw113_0 := hx113_0
       cases e113
       replace hx113_0 := tH HB hx113_0
       replace hx113_1 := tH HB hx113_1
       replace hx113_2 := tH HB hx113_2
       replace p113 := eq_true p113
       replace q113 := eq_true q113
       have p114 : 0 ≤ (x8_1 : Int) := tD
       have q114 : x8_1 < (l0_1.length : Int) := tD
       obtain ⟨ad114, e114, hx114_0, hx114_1, hx114_2⟩ := at_T71 HR0_1.out x8_1 p114 q114
       have hw114_2 := hx114_2
       have hw114_1 := hx114_1
       have hw114_0 := hx114_0
       obtain rfl : ad113 = ad114 := (by injection e114)
       replace hx114_0 := tH HB hx114_0
       replace hx114_1 := tH HB hx114_1
       replace hx114_2 := tH HB hx114_2
       replace p114 := eq_true p114
       replace q114 := eq_true q114
       refine sS15 40 [] rfl r11_Ready.tab7 r11_Ready.bits7 ⟨tz BK103 0, tz BK103 1, tz BK103 2, tz BK103 3, tz BK103 4, tz BK101 0, tz BK101 1, tz BK101 2, ((HB.out.cell (World.block_lt_of_cell? w _ hw108_0)).trans hw108_0), ((HB.out.cell (World.block_lt_of_cell? w _ hw113_0)).trans hw113_0), ((HB.out.cell (World.block_lt_of_cell? w _ hw113_1)).trans hw113_1), ((HB.out.cell (World.block_lt_of_cell? w _ hw113_2)).trans hw113_2), ((HB.out.cell (World.block_lt_of_cell? w _ hw114_0)).trans hw114_0), ((HB.out.cell (World.block_lt_of_cell? w _ hw114_1)).trans hw114_1), ((HB.out.cell (World.block_lt_of_cell? w _ hw114_2)).trans hw114_2)⟩ (fun hHeld HT_ HW_ => ?_)
       generalize w53.drew = w54 at BK101 BK103 HB hx108_0 hx113_0 hx113_1 hx113_2 hx114_0 hx114_1 hx114_2 hHeld ⊢
       refine sP 0 41 HT_ rfl rfl ?_
       refine sP 1 42 HT_ rfl rfl ?_
       refine sP 2 43 HT_ rfl rfl ?_
       refine sP 4 45 HT_ rfl rfl ?_
       refine sP 6 47 HT_ rfl rfl ?_
       refine sT 3 44 HT_ HW_ rfl rfl hHeld ?_
       refine sT 5 46 HT_ HW_ rfl rfl hHeld ?_
       refine sO 7 (some 48) HT_ rfl rfl (fun K hK => ?_)
       refine goes_ Try.func63 (by kernel_rfl) rfl #[.slice A102_1 ((rd_T74 l0_2 a2).f1).length c102_1, .int .i64 x8_1] (by rfl) rfl rfl (by (try simp only [List.map_toArray, List.map_cons, List.map_nil]); first | done | rfl | (simp only [List.length_drop, List.length_take]; rfl)) ?_
       (with_reducible refine (r11_weight.calls k1 _ _ ((rd_T74 l0_2 a2).f1) x8_1 t109 _ (tG HR102_1 HB) HC102_1.out A17.out).mono ?_)
       rintro e w' ⟨rfl, ⟨nd, rfl⟩⟩
       refine ⟨_, rfl, ?_⟩
       refine hK.out _ _ ⟨tz BK103 0, tz BK103 1, tz BK103 2, tz BK103 3, tz BK103 4, tz BK101 0, tz BK101 1, tz BK101 2, ((HB.out.cell (World.block_lt_of_cell? w _ hw108_0)).trans hw108_0), ((HB.out.cell (World.block_lt_of_cell? w _ hw113_0)).trans hw113_0), ((HB.out.cell (World.block_lt_of_cell? w _ hw113_1)).trans hw113_1), ((HB.out.cell (World.block_lt_of_cell? w _ hw113_2)).trans hw113_2), ((HB.out.cell (World.block_lt_of_cell? w _ hw114_0)).trans hw114_0), ((HB.out.cell (World.block_lt_of_cell? w _ hw114_1)).trans hw114_1), ((HB.out.cell (World.block_lt_of_cell? w _ hw114_2)).trans hw114_2)⟩ (fun hHeld => ?_)
       clear hK K
       refine sN 48 ?_
       refine sP 8 49 HT_ rfl rfl ?_
       refine sP 9 50 HT_ rfl rfl ?_
       refine sP 10 51 HT_ rfl rfl ?_
       refine sP 11 52 HT_ rfl rfl ?_
       refine sP 12 53 HT_ rfl rfl ?_
       refine sU 13 54 HT_ rfl rfl ?_
       refine sU 14 55 HT_ rfl rfl ?_
       refine sU 15 56 HT_ rfl rfl ?_
       refine sU 16 57 HT_ rfl rfl ?_
       refine sU 17 58 HT_ rfl rfl ?_
       refine sU 18 59 HT_ rfl rfl ?_
       refine sP 19 60 HT_ rfl rfl ?_
       refine sP 20 61 HT_ rfl rfl ?_
       refine sP 21 62 HT_ rfl rfl ?_
       refine sP 22 63 HT_ rfl rfl ?_
       refine sP 24 65 HT_ rfl rfl ?_
       refine sT 23 64 HT_ HW_ rfl rfl hHeld ?_
       refine sP 25 66 HT_ rfl rfl ?_
       refine sP 26 67 HT_ rfl rfl ?_
       refine sT 27 68 HT_ HW_ rfl rfl hHeld ?_
       refine sP 28 69 HT_ rfl rfl ?_
       refine sP 29 70 HT_ rfl rfl ?_
       refine sP 30 71 HT_ rfl rfl ?_
       refine sP 31 72 HT_ rfl rfl ?_
       refine sP 33 74 HT_ rfl rfl ?_
       refine sT 32 73 HT_ HW_ rfl rfl hHeld ?_
       refine sP 34 75 HT_ rfl rfl ?_
       refine sP 35 76 HT_ rfl rfl ?_
       refine sT 36 77 HT_ HW_ rfl rfl hHeld ?_
       refine sP 37 78 HT_ rfl rfl ?_
       refine sP 38 79 HT_ rfl rfl ?_
       refine sP 39 80 HT_ rfl rfl ?_
       refine sD HT_ ?_
       try go_wp2
       go_ret
       exact ⟨tE, tB⟩
      rw [if_neg c49] at H
      have c49b0 := tdHi c49
      have c49b0w_ : decide (((rd_T71 l0_1 x8_1).f2) < (IntKind.i64.wrap ((IntKind.i64.wrap ((rd l1 x8_1) - t106)) + t107))) = false := by simpa only [i64_w] using c49b0
      clear c49
      have H' := Aside0.mk H
      clear H
      have hnb55 := NB101_103.out
      have hnc55 := NB103_101.out
      obtain ⟨hcz56_0, hcz56_1, hcz56_2, hfz56_0, hfz56_1, hfz56_2⟩ := zc3 BK101
      obtain ⟨hcz57_0, hcz57_1, hcz57_2, hcz57_3, hcz57_4, hfz57_0, hfz57_1, hfz57_2, hfz57_3, hfz57_4⟩ := zc5 BK103
      try go_wp2_with (first | ((with_reducible refine gate_callee (f := 63) rfl ?_); refine goesL_ (some 26) rfl rfl Try.func63 (by kernel_rfl) rfl #[.slice A102_3 ((rd_T74 l0_2 a2).f3).length c102_3, .int .i64 x8_1] rfl (by (try simp only [List.map_toArray, List.map_cons, List.map_nil]); first | done | rfl | (simp only [List.length_drop, List.length_take]; rfl)) ?_; (with_reducible refine (r11_weight.calls k1 _ _ ((rd_T74 l0_2 a2).f3) x8_1 t104 _ (tG HR102_3 HB) HC102_3.out A12.out).mono ?_); rintro e w' ⟨rfl, ⟨nd, rfl⟩⟩; refine ⟨_, rfl, ?_⟩))
      (try (rw [drewN_self wr]; (first | (rw [drewN_self (World.drewN (World.drewN wr _) _)]; generalize hq_ : World.drewN (World.drewN (World.drewN wr _) _) _ = wr) | (rw [drewN_self (World.drewN wr _)]; generalize hq_ : World.drewN (World.drewN wr _) _ = wr) | generalize hq_ : World.drewN wr _ = wr); have n0_ : Aside0 (wr.heap[gb101]? = some (.cells #[.string a0_0, .slice A0_1 l0_1.length c0_1, .slice (some ad102) l0_2.length c0_2] 39 (0, 0))) := ⟨by rw [← hq_]; exact (tK BK101)⟩; have n1_ : Aside0 (wr.heap[gb103]? = some (.cells #[.string ((rd_T74 l0_2 a2).f0), .slice A102_1 ((rd_T74 l0_2 a2).f1).length c102_1, .slice A102_2 ((rd_T74 l0_2 a2).f2).length c102_2, .slice A102_3 ((rd_T74 l0_2 a2).f3).length c102_3, .int .i64 ((rd_T74 l0_2 a2).f4)] 74 (0, 0))) := ⟨by rw [← hq_]; exact (tK BK103)⟩; have n2_ : Aside0 (Below w.heap.size w wr) := ⟨by rw [← hq_]; exact (tB)⟩; clear BK101 BK103 HB hq_; have BK101 := n0_; have BK103 := n1_; have HB := n2_; clear n0_ n1_ n2_))
      replace BK101 := Aside0.mk (blk_drew BK101.out)
      replace BK103 := Aside0.mk (blk_drew BK103.out)
      replace HB := Aside0.mk (below_drew1 HB.out)
      have p105 : 0 ≤ (x8_1 : Int) := tD
      have q105 : x8_1 < (l1.length : Int) := tD
      obtain ⟨ad105, e105, hx105_0⟩ := Kd.at_int HR1.out x8_1 p105 q105
      have hw105_0 := hx105_0
      cases e105
      replace hx105_0 := tH HB hx105_0
      replace p105 := eq_true p105
      replace q105 := eq_true q105
      refine sS6 15 [] rfl r11_Ready.tab6 r11_Ready.bits6 ⟨tz BK103 0, tz BK103 1, tz BK103 2, tz BK103 3, tz BK103 4, ((HB.out.cell (World.block_lt_of_cell? w _ hw105_0)).trans hw105_0)⟩ (fun hHeld HT_ HW_ => ?_)
      generalize wr.drew = w58 at BK101 BK103 HB hx105_0 hHeld ⊢
      refine sP 0 27 HT_ rfl rfl ?_
      refine sP 1 28 HT_ rfl rfl ?_
      refine sP 2 29 HT_ rfl rfl ?_
      refine sP 4 31 HT_ rfl rfl ?_
      refine sP 6 33 HT_ rfl rfl ?_
      refine sP 9 36 HT_ rfl rfl ?_
      refine sP 11 38 HT_ rfl rfl ?_
      refine sT 3 30 HT_ HW_ rfl rfl hHeld ?_
      refine sT 5 32 HT_ HW_ rfl rfl hHeld ?_
      refine sT 10 37 HT_ HW_ rfl rfl hHeld ?_
      refine sO 7 (some 34) HT_ rfl rfl (fun K hK => ?_)
      refine goes_ Try.func63 (by kernel_rfl) rfl #[.slice A102_1 ((rd_T74 l0_2 a2).f1).length c102_1, .int .i64 x8_1] (by rfl) rfl rfl (by (try simp only [List.map_toArray, List.map_cons, List.map_nil]); first | done | rfl | (simp only [List.length_drop, List.length_take]; rfl)) ?_
      (with_reducible refine (r11_weight.calls k1 _ _ ((rd_T74 l0_2 a2).f1) x8_1 t106 _ (tG HR102_1 HB) HC102_1.out A15.out).mono ?_)
      rintro e w' ⟨rfl, ⟨nd, rfl⟩⟩
      refine ⟨_, rfl, ?_⟩
      refine hK.out _ _ ⟨tz BK103 0, tz BK103 1, tz BK103 2, tz BK103 3, tz BK103 4, ((HB.out.cell (World.block_lt_of_cell? w _ hw105_0)).trans hw105_0)⟩ (fun hHeld => ?_)
      clear hK K
      refine sN 34 ?_
      refine sP 8 35 HT_ rfl rfl ?_
      refine sO 12 (some 39) HT_ rfl rfl (fun K hK => ?_)
      refine goes_ Try.func63 (by kernel_rfl) rfl #[.slice A102_2 ((rd_T74 l0_2 a2).f2).length c102_2, .int .i64 x8_1] (by rfl) rfl rfl (by (try simp only [List.map_toArray, List.map_cons, List.map_nil]); first | done | rfl | (simp only [List.length_drop, List.length_take]; rfl)) ?_
      (with_reducible refine (r11_weight.calls k1 _ _ ((rd_T74 l0_2 a2).f2) x8_1 t107 _ (tC (Kd.C_below HR102_2.out (tB))) HC102_2.out A16.out).mono ?_)
      rintro e w' ⟨rfl, ⟨nd, rfl⟩⟩
      refine ⟨_, rfl, ?_⟩
      refine hK.out _ _ ⟨tz BK103 0, tz BK103 1, tz BK103 2, tz BK103 3, tz BK103 4, ((HB.out.cell (World.block_lt_of_cell? w _ hw105_0)).trans hw105_0)⟩ (fun hHeld => ?_)
      clear hK K
      refine sN 39 ?_
      refine sP 13 40 HT_ rfl rfl ?_
      refine sP 14 10 HT_ rfl rfl ?_
      refine sD HT_ ?_
      try go_wp2
      (try (rw [drewN_self w58]; (first | (rw [drewN_self (World.drewN (World.drewN w58 _) _)]; generalize hq_ : World.drewN (World.drewN (World.drewN w58 _) _) _ = w58) | (rw [drewN_self (World.drewN w58 _)]; generalize hq_ : World.drewN (World.drewN w58 _) _ = w58) | generalize hq_ : World.drewN w58 _ = w58); have n0_ : Aside0 (w58.heap[gb101]? = some (.cells #[.string a0_0, .slice A0_1 l0_1.length c0_1, .slice (some ad102) l0_2.length c0_2] 39 (0, 0))) := ⟨by rw [← hq_]; exact (tK BK101)⟩; have n1_ : Aside0 (w58.heap[gb103]? = some (.cells #[.string ((rd_T74 l0_2 a2).f0), .slice A102_1 ((rd_T74 l0_2 a2).f1).length c102_1, .slice A102_2 ((rd_T74 l0_2 a2).f2).length c102_2, .slice A102_3 ((rd_T74 l0_2 a2).f3).length c102_3, .int .i64 ((rd_T74 l0_2 a2).f4)] 74 (0, 0))) := ⟨by rw [← hq_]; exact (tK BK103)⟩; have n2_ : Aside0 (Below w.heap.size w w58) := ⟨by rw [← hq_]; exact (tB)⟩; clear BK101 BK103 HB hq_; have BK101 := n0_; have BK103 := n1_; have HB := n2_; clear n0_ n1_ n2_))
      replace BK101 := Aside0.mk (blk_drew BK101.out)
      replace BK103 := Aside0.mk (blk_drew BK103.out)
      replace HB := Aside0.mk (below_drew1 HB.out)
      have p108 : 0 ≤ (x8_1 : Int) := tD
      have q108 : x8_1 < (l1.length : Int) := tD
      obtain ⟨ad108, e108, hx108_0⟩ := Kd.at_int HR1.out x8_1 p108 q108
      have hw108_0 := hx108_0
      obtain rfl : ad105 = ad108 := (by injection e108)
      replace hx108_0 := tH HB hx108_0
      replace p108 := eq_true p108
      replace q108 := eq_true q108
      have p113 : 0 ≤ (x8_1 : Int) := tD
      have q113 : x8_1 < (l0_1.length : Int) := tD
      obtain ⟨ad113, e113, hx113_0, hx113_1, hx113_2⟩ := at_T71 HR0_1.out x8_1 p113 q113
      have hw113_2 := hx113_2
      have hw113_1 := hx113_1
      have hw113_0 := hx113_0
      cases e113
      replace hx113_0 := tH HB hx113_0
      replace hx113_1 := tH HB hx113_1
      replace hx113_2 := tH HB hx113_2
      replace p113 := eq_true p113
      replace q113 := eq_true q113
      have p114 : 0 ≤ (x8_1 : Int) := tD
      have q114 : x8_1 < (l0_1.length : Int) := tD
      obtain ⟨ad114, e114, hx114_0, hx114_1, hx114_2⟩ := at_T71 HR0_1.out x8_1 p114 q114
      have hw114_2 := hx114_2
      have hw114_1 := hx114_1
      have hw114_0 := hx114_0
      obtain rfl : ad113 = ad114 := (by injection e114)
      replace hx114_0 := tH HB hx114_0
      replace hx114_1 := tH HB hx114_1
      replace hx114_2 := tH HB hx114_2
      replace p114 := eq_true p114
      replace q114 := eq_true q114
      refine sS15 40 [] rfl r11_Ready.tab7 r11_Ready.bits7 ⟨tz BK103 0, tz BK103 1, tz BK103 2, tz BK103 3, tz BK103 4, tz BK101 0, tz BK101 1, tz BK101 2, ((HB.out.cell (World.block_lt_of_cell? w _ hw108_0)).trans hw108_0), ((HB.out.cell (World.block_lt_of_cell? w _ hw113_0)).trans hw113_0), ((HB.out.cell (World.block_lt_of_cell? w _ hw113_1)).trans hw113_1), ((HB.out.cell (World.block_lt_of_cell? w _ hw113_2)).trans hw113_2), ((HB.out.cell (World.block_lt_of_cell? w _ hw114_0)).trans hw114_0), ((HB.out.cell (World.block_lt_of_cell? w _ hw114_1)).trans hw114_1), ((HB.out.cell (World.block_lt_of_cell? w _ hw114_2)).trans hw114_2)⟩ (fun hHeld HT_ HW_ => ?_)
      generalize w58.drew = w59 at BK101 BK103 HB hx108_0 hx113_0 hx113_1 hx113_2 hx114_0 hx114_1 hx114_2 hHeld ⊢
      refine sP 0 41 HT_ rfl rfl ?_
      refine sP 1 42 HT_ rfl rfl ?_
      refine sP 2 43 HT_ rfl rfl ?_
      refine sP 4 45 HT_ rfl rfl ?_
      refine sP 6 47 HT_ rfl rfl ?_
      refine sT 3 44 HT_ HW_ rfl rfl hHeld ?_
      refine sT 5 46 HT_ HW_ rfl rfl hHeld ?_
      refine sO 7 (some 48) HT_ rfl rfl (fun K hK => ?_)
      refine goes_ Try.func63 (by kernel_rfl) rfl #[.slice A102_1 ((rd_T74 l0_2 a2).f1).length c102_1, .int .i64 x8_1] (by rfl) rfl rfl (by (try simp only [List.map_toArray, List.map_cons, List.map_nil]); first | done | rfl | (simp only [List.length_drop, List.length_take]; rfl)) ?_
      (with_reducible refine (r11_weight.calls k1 _ _ ((rd_T74 l0_2 a2).f1) x8_1 t109 _ (tG HR102_1 HB) HC102_1.out A17.out).mono ?_)
      rintro e w' ⟨rfl, ⟨nd, rfl⟩⟩
      refine ⟨_, rfl, ?_⟩
      refine hK.out _ _ ⟨tz BK103 0, tz BK103 1, tz BK103 2, tz BK103 3, tz BK103 4, tz BK101 0, tz BK101 1, tz BK101 2, ((HB.out.cell (World.block_lt_of_cell? w _ hw108_0)).trans hw108_0), ((HB.out.cell (World.block_lt_of_cell? w _ hw113_0)).trans hw113_0), ((HB.out.cell (World.block_lt_of_cell? w _ hw113_1)).trans hw113_1), ((HB.out.cell (World.block_lt_of_cell? w _ hw113_2)).trans hw113_2), ((HB.out.cell (World.block_lt_of_cell? w _ hw114_0)).trans hw114_0), ((HB.out.cell (World.block_lt_of_cell? w _ hw114_1)).trans hw114_1), ((HB.out.cell (World.block_lt_of_cell? w _ hw114_2)).trans hw114_2)⟩ (fun hHeld => ?_)
      clear hK K
      refine sN 48 ?_
      refine sP 8 49 HT_ rfl rfl ?_
      refine sP 9 50 HT_ rfl rfl ?_
      refine sP 10 51 HT_ rfl rfl ?_
      refine sP 11 52 HT_ rfl rfl ?_
      refine sP 12 53 HT_ rfl rfl ?_
      refine sU 13 54 HT_ rfl rfl ?_
      refine sU 14 55 HT_ rfl rfl ?_
      refine sU 15 56 HT_ rfl rfl ?_
      refine sU 16 57 HT_ rfl rfl ?_
      refine sU 17 58 HT_ rfl rfl ?_
      refine sU 18 59 HT_ rfl rfl ?_
      refine sP 19 60 HT_ rfl rfl ?_
      refine sP 20 61 HT_ rfl rfl ?_
      refine sP 21 62 HT_ rfl rfl ?_
      refine sP 22 63 HT_ rfl rfl ?_
      refine sP 24 65 HT_ rfl rfl ?_
      refine sT 23 64 HT_ HW_ rfl rfl hHeld ?_
      refine sP 25 66 HT_ rfl rfl ?_
      refine sP 26 67 HT_ rfl rfl ?_
      refine sT 27 68 HT_ HW_ rfl rfl hHeld ?_
      refine sP 28 69 HT_ rfl rfl ?_
      refine sP 29 70 HT_ rfl rfl ?_
      refine sP 30 71 HT_ rfl rfl ?_
      refine sP 31 72 HT_ rfl rfl ?_
      refine sP 33 74 HT_ rfl rfl ?_
      refine sT 32 73 HT_ HW_ rfl rfl hHeld ?_
      refine sP 34 75 HT_ rfl rfl ?_
      refine sP 35 76 HT_ rfl rfl ?_
      refine sT 36 77 HT_ HW_ rfl rfl hHeld ?_
      refine sP 37 78 HT_ rfl rfl ?_
      refine sP 38 79 HT_ rfl rfl ?_
      refine sP 39 80 HT_ rfl rfl ?_
      refine sD HT_ ?_
      try go_wp2
      go_roundg k1
      case measure => have := HK1.out; omega
      case rel => exact ⟨(wrap64 (x8_1 + 1)), tU, H', ⟨by have := HK1.out; omega⟩, ⟨tK BK101⟩, ⟨tK BK103⟩, ⟨tB⟩⟩
     rw [if_neg c48] at H
     have c48b0 := tdHi c48
     clear c48
     have H' := Aside0.mk H
     clear H
     have hnb60 := NB101_103.out
     have hnc60 := NB103_101.out
     obtain ⟨hcz61_0, hcz61_1, hcz61_2, hfz61_0, hfz61_1, hfz61_2⟩ := zc3 BK101
     obtain ⟨hcz62_0, hcz62_1, hcz62_2, hcz62_3, hcz62_4, hfz62_0, hfz62_1, hfz62_2, hfz62_3, hfz62_4⟩ := zc5 BK103
     try go_wp2_with (first | ((with_reducible refine gate_callee (f := 63) rfl ?_); refine goesL_ (some 26) rfl rfl Try.func63 (by kernel_rfl) rfl #[.slice A102_3 ((rd_T74 l0_2 a2).f3).length c102_3, .int .i64 x8_1] rfl (by (try simp only [List.map_toArray, List.map_cons, List.map_nil]); first | done | rfl | (simp only [List.length_drop, List.length_take]; rfl)) ?_; (with_reducible refine (r11_weight.calls k1 _ _ ((rd_T74 l0_2 a2).f3) x8_1 t104 _ (tG HR102_3 HB) HC102_3.out A12.out).mono ?_); rintro e w' ⟨rfl, ⟨nd, rfl⟩⟩; refine ⟨_, rfl, ?_⟩))
     (try (rw [drewN_self wr]; (first | (rw [drewN_self (World.drewN (World.drewN wr _) _)]; generalize hq_ : World.drewN (World.drewN (World.drewN wr _) _) _ = wr) | (rw [drewN_self (World.drewN wr _)]; generalize hq_ : World.drewN (World.drewN wr _) _ = wr) | generalize hq_ : World.drewN wr _ = wr); have n0_ : Aside0 (wr.heap[gb101]? = some (.cells #[.string a0_0, .slice A0_1 l0_1.length c0_1, .slice (some ad102) l0_2.length c0_2] 39 (0, 0))) := ⟨by rw [← hq_]; exact (tK BK101)⟩; have n1_ : Aside0 (wr.heap[gb103]? = some (.cells #[.string ((rd_T74 l0_2 a2).f0), .slice A102_1 ((rd_T74 l0_2 a2).f1).length c102_1, .slice A102_2 ((rd_T74 l0_2 a2).f2).length c102_2, .slice A102_3 ((rd_T74 l0_2 a2).f3).length c102_3, .int .i64 ((rd_T74 l0_2 a2).f4)] 74 (0, 0))) := ⟨by rw [← hq_]; exact (tK BK103)⟩; have n2_ : Aside0 (Below w.heap.size w wr) := ⟨by rw [← hq_]; exact (tB)⟩; clear BK101 BK103 HB hq_; have BK101 := n0_; have BK103 := n1_; have HB := n2_; clear n0_ n1_ n2_))
     replace BK101 := Aside0.mk (blk_drew BK101.out)
     replace BK103 := Aside0.mk (blk_drew BK103.out)
     replace HB := Aside0.mk (below_drew1 HB.out)
     have p105 : 0 ≤ (x8_1 : Int) := tD
     have q105 : x8_1 < (l1.length : Int) := tD
     obtain ⟨ad105, e105, hx105_0⟩ := Kd.at_int HR1.out x8_1 p105 q105
     have hw105_0 := hx105_0
     cases e105
     replace hx105_0 := tH HB hx105_0
     replace p105 := eq_true p105
     replace q105 := eq_true q105
     refine sS6 15 [] rfl r11_Ready.tab6 r11_Ready.bits6 ⟨tz BK103 0, tz BK103 1, tz BK103 2, tz BK103 3, tz BK103 4, ((HB.out.cell (World.block_lt_of_cell? w _ hw105_0)).trans hw105_0)⟩ (fun hHeld HT_ HW_ => ?_)
     generalize wr.drew = w63 at BK101 BK103 HB hx105_0 hHeld ⊢
     refine sP 0 27 HT_ rfl rfl ?_
     refine sP 1 28 HT_ rfl rfl ?_
     refine sP 2 29 HT_ rfl rfl ?_
     refine sP 4 31 HT_ rfl rfl ?_
     refine sP 6 33 HT_ rfl rfl ?_
     refine sP 9 36 HT_ rfl rfl ?_
     refine sP 11 38 HT_ rfl rfl ?_
     refine sT 3 30 HT_ HW_ rfl rfl hHeld ?_
     refine sT 5 32 HT_ HW_ rfl rfl hHeld ?_
     refine sT 10 37 HT_ HW_ rfl rfl hHeld ?_
     refine sO 7 (some 34) HT_ rfl rfl (fun K hK => ?_)
     refine goes_ Try.func63 (by kernel_rfl) rfl #[.slice A102_1 ((rd_T74 l0_2 a2).f1).length c102_1, .int .i64 x8_1] (by rfl) rfl rfl (by (try simp only [List.map_toArray, List.map_cons, List.map_nil]); first | done | rfl | (simp only [List.length_drop, List.length_take]; rfl)) ?_
     (with_reducible refine (r11_weight.calls k1 _ _ ((rd_T74 l0_2 a2).f1) x8_1 t106 _ (tG HR102_1 HB) HC102_1.out A15.out).mono ?_)
     rintro e w' ⟨rfl, ⟨nd, rfl⟩⟩
     refine ⟨_, rfl, ?_⟩
     refine hK.out _ _ ⟨tz BK103 0, tz BK103 1, tz BK103 2, tz BK103 3, tz BK103 4, ((HB.out.cell (World.block_lt_of_cell? w _ hw105_0)).trans hw105_0)⟩ (fun hHeld => ?_)
     clear hK K
     refine sN 34 ?_
     refine sP 8 35 HT_ rfl rfl ?_
     refine sO 12 (some 39) HT_ rfl rfl (fun K hK => ?_)
     refine goes_ Try.func63 (by kernel_rfl) rfl #[.slice A102_2 ((rd_T74 l0_2 a2).f2).length c102_2, .int .i64 x8_1] (by rfl) rfl rfl (by (try simp only [List.map_toArray, List.map_cons, List.map_nil]); first | done | rfl | (simp only [List.length_drop, List.length_take]; rfl)) ?_
     (with_reducible refine (r11_weight.calls k1 _ _ ((rd_T74 l0_2 a2).f2) x8_1 t107 _ (tC (Kd.C_below HR102_2.out (tB))) HC102_2.out A16.out).mono ?_)
     rintro e w' ⟨rfl, ⟨nd, rfl⟩⟩
     refine ⟨_, rfl, ?_⟩
     refine hK.out _ _ ⟨tz BK103 0, tz BK103 1, tz BK103 2, tz BK103 3, tz BK103 4, ((HB.out.cell (World.block_lt_of_cell? w _ hw105_0)).trans hw105_0)⟩ (fun hHeld => ?_)
     clear hK K
     refine sN 39 ?_
     refine sP 13 40 HT_ rfl rfl ?_
     refine sP 14 10 HT_ rfl rfl ?_
     refine sD HT_ ?_
     try go_wp2
     (try (rw [drewN_self w63]; (first | (rw [drewN_self (World.drewN (World.drewN w63 _) _)]; generalize hq_ : World.drewN (World.drewN (World.drewN w63 _) _) _ = w63) | (rw [drewN_self (World.drewN w63 _)]; generalize hq_ : World.drewN (World.drewN w63 _) _ = w63) | generalize hq_ : World.drewN w63 _ = w63); have n0_ : Aside0 (w63.heap[gb101]? = some (.cells #[.string a0_0, .slice A0_1 l0_1.length c0_1, .slice (some ad102) l0_2.length c0_2] 39 (0, 0))) := ⟨by rw [← hq_]; exact (tK BK101)⟩; have n1_ : Aside0 (w63.heap[gb103]? = some (.cells #[.string ((rd_T74 l0_2 a2).f0), .slice A102_1 ((rd_T74 l0_2 a2).f1).length c102_1, .slice A102_2 ((rd_T74 l0_2 a2).f2).length c102_2, .slice A102_3 ((rd_T74 l0_2 a2).f3).length c102_3, .int .i64 ((rd_T74 l0_2 a2).f4)] 74 (0, 0))) := ⟨by rw [← hq_]; exact (tK BK103)⟩; have n2_ : Aside0 (Below w.heap.size w w63) := ⟨by rw [← hq_]; exact (tB)⟩; clear BK101 BK103 HB hq_; have BK101 := n0_; have BK103 := n1_; have HB := n2_; clear n0_ n1_ n2_))
     replace BK101 := Aside0.mk (blk_drew BK101.out)
     replace BK103 := Aside0.mk (blk_drew BK103.out)
     replace HB := Aside0.mk (below_drew1 HB.out)
     have p108 : 0 ≤ (x8_1 : Int) := tD
     have q108 : x8_1 < (l1.length : Int) := tD
     obtain ⟨ad108, e108, hx108_0⟩ := Kd.at_int HR1.out x8_1 p108 q108
     have hw108_0 := hx108_0
     obtain rfl : ad105 = ad108 := (by injection e108)
     replace hx108_0 := tH HB hx108_0
     replace p108 := eq_true p108
     replace q108 := eq_true q108
     have p113 : 0 ≤ (x8_1 : Int) := tD
     have q113 : x8_1 < (l0_1.length : Int) := tD
     obtain ⟨ad113, e113, hx113_0, hx113_1, hx113_2⟩ := at_T71 HR0_1.out x8_1 p113 q113
     have hw113_2 := hx113_2
     have hw113_1 := hx113_1
     have hw113_0 := hx113_0
     cases e113
     replace hx113_0 := tH HB hx113_0
     replace hx113_1 := tH HB hx113_1
     replace hx113_2 := tH HB hx113_2
     replace p113 := eq_true p113
     replace q113 := eq_true q113
     refine sS12 40 [] rfl r11_Ready.tab7 r11_Ready.bits7 ⟨tz BK103 0, tz BK103 1, tz BK103 2, tz BK103 3, tz BK103 4, tz BK101 0, tz BK101 1, tz BK101 2, ((HB.out.cell (World.block_lt_of_cell? w _ hw108_0)).trans hw108_0), ((HB.out.cell (World.block_lt_of_cell? w _ hw113_0)).trans hw113_0), ((HB.out.cell (World.block_lt_of_cell? w _ hw113_1)).trans hw113_1), ((HB.out.cell (World.block_lt_of_cell? w _ hw113_2)).trans hw113_2)⟩ (fun hHeld HT_ HW_ => ?_)
     generalize w63.drew = w64 at BK101 BK103 HB hx108_0 hx113_0 hx113_1 hx113_2 hHeld ⊢
     refine sP 0 41 HT_ rfl rfl ?_
     refine sP 1 42 HT_ rfl rfl ?_
     refine sP 2 43 HT_ rfl rfl ?_
     refine sP 4 45 HT_ rfl rfl ?_
     refine sP 6 47 HT_ rfl rfl ?_
     refine sT 3 44 HT_ HW_ rfl rfl hHeld ?_
     refine sT 5 46 HT_ HW_ rfl rfl hHeld ?_
     refine sO 7 (some 48) HT_ rfl rfl (fun K hK => ?_)
     refine goes_ Try.func63 (by kernel_rfl) rfl #[.slice A102_1 ((rd_T74 l0_2 a2).f1).length c102_1, .int .i64 x8_1] (by rfl) rfl rfl (by (try simp only [List.map_toArray, List.map_cons, List.map_nil]); first | done | rfl | (simp only [List.length_drop, List.length_take]; rfl)) ?_
     (with_reducible refine (r11_weight.calls k1 _ _ ((rd_T74 l0_2 a2).f1) x8_1 t109 _ (tG HR102_1 HB) HC102_1.out A17.out).mono ?_)
     rintro e w' ⟨rfl, ⟨nd, rfl⟩⟩
     refine ⟨_, rfl, ?_⟩
     refine hK.out _ _ ⟨tz BK103 0, tz BK103 1, tz BK103 2, tz BK103 3, tz BK103 4, tz BK101 0, tz BK101 1, tz BK101 2, ((HB.out.cell (World.block_lt_of_cell? w _ hw108_0)).trans hw108_0), ((HB.out.cell (World.block_lt_of_cell? w _ hw113_0)).trans hw113_0), ((HB.out.cell (World.block_lt_of_cell? w _ hw113_1)).trans hw113_1), ((HB.out.cell (World.block_lt_of_cell? w _ hw113_2)).trans hw113_2)⟩ (fun hHeld => ?_)
     clear hK K
     refine sN 48 ?_
     refine sP 8 49 HT_ rfl rfl ?_
     refine sP 9 50 HT_ rfl rfl ?_
     refine sP 10 51 HT_ rfl rfl ?_
     refine sP 11 52 HT_ rfl rfl ?_
     refine sP 12 53 HT_ rfl rfl ?_
     refine sU 13 54 HT_ rfl rfl ?_
     refine sU 14 55 HT_ rfl rfl ?_
     refine sU 15 56 HT_ rfl rfl ?_
     refine sU 16 57 HT_ rfl rfl ?_
     refine sU 17 58 HT_ rfl rfl ?_
     refine sU 18 59 HT_ rfl rfl ?_
     refine sP 19 60 HT_ rfl rfl ?_
     refine sP 20 61 HT_ rfl rfl ?_
     refine sP 21 62 HT_ rfl rfl ?_
     refine sP 22 63 HT_ rfl rfl ?_
     refine sP 24 65 HT_ rfl rfl ?_
     refine sT 23 64 HT_ HW_ rfl rfl hHeld ?_
     refine sP 25 66 HT_ rfl rfl ?_
     refine sP 26 67 HT_ rfl rfl ?_
     refine sT 27 68 HT_ HW_ rfl rfl hHeld ?_
     refine sP 28 69 HT_ rfl rfl ?_
     refine sP 29 70 HT_ rfl rfl ?_
     refine sU 30 71 HT_ rfl rfl ?_
     refine sU 31 72 HT_ rfl rfl ?_
     refine sU 32 73 HT_ rfl rfl ?_
     refine sU 33 74 HT_ rfl rfl ?_
     refine sU 34 75 HT_ rfl rfl ?_
     refine sU 35 76 HT_ rfl rfl ?_
     refine sU 36 77 HT_ rfl rfl ?_
     refine sU 37 78 HT_ rfl rfl ?_
     refine sP 38 79 HT_ rfl rfl ?_
     refine sP 39 80 HT_ rfl rfl ?_
     refine sD HT_ ?_
     try go_wp2
     go_roundg k1
     case measure => have := HK1.out; omega
     case rel => exact ⟨(wrap64 (x8_1 + 1)), tU, H', ⟨by have := HK1.out; omega⟩, ⟨tK BK101⟩, ⟨tK BK103⟩, ⟨tB⟩⟩
    rw [if_neg c11] at H
    have c11b0 := decide_eq_false c11
    clear c11
    obtain rfl := Option.some.inj H
    have hnb65 := NB101_103.out
    have hnc65 := NB103_101.out
    obtain ⟨hcz66_0, hcz66_1, hcz66_2, hfz66_0, hfz66_1, hfz66_2⟩ := zc3 BK101
    go_wp2
    go_ret
    exact ⟨tE, tB⟩
 rw [if_neg c4] at H
 exact absurd H (by simp)
mutual
def r11_Fires.l0 : Nat → List Int → List Int → Int → Int → ByteArray → List (S71) → List (S74) → Option (List Int)
 | 0, _, _, _, _, _, _, _ => none
 | k + 1, x1, x5, x6, x7, x102000, x102001, x102002 => if x7 < (x102002.length : Int) then ((r11_Ready.f k x102000 x102001 x102002 x1 x7).bind fun t102 => (if t102 = true then (if x5.length < 17592186044416 then (if 0 ≤ x7 then (r11_Fires.l0 k x1 (x5 ++ [x7]) (mx x6 ((rd_T74 x102002 x7).f4)) (wrap64 (x7 + 1)) x102000 x102001 x102002) else (none)) else (none)) else (r11_Fires.l0 k x1 x5 x6 (wrap64 (x7 + 1)) x102000 x102001 x102002))) else (r11_Fires.l1 k x5 x6 ([] : List Int) 0 x102000 x102001 x102002)
def r11_Fires.l1 : Nat → List Int → Int → List Int → Int → ByteArray → List (S71) → List (S74) → Option (List Int)
 | 0, _, _, _, _, _, _, _ => none
 | k + 1, x5, x6, x8, x9, x102000, x102001, x102002 => if x9 < (x5.length : Int) then (if 0 ≤ x9 then (if 0 ≤ (rd x5 x9) then (if (rd x5 x9) < (x102002.length : Int) then (if ((rd_T74 x102002 (rd x5 x9)).f4) = x6 then (if x8.length < 17592186044416 then (r11_Fires.l1 k x5 x6 (x8 ++ [rd x5 x9]) (wrap64 (x9 + 1)) x102000 x102001 x102002) else (none)) else (r11_Fires.l1 k x5 x6 x8 (wrap64 (x9 + 1)) x102000 x102001 x102002)) else (none)) else (none)) else (none)) else (some x8)
end
def r11_Fires.f (k : Nat) (a0_0 : ByteArray) (l0_1 : List (S71)) (l0_2 : List (S74)) (l1 : List Int) : Option (List Int) := r11_Fires.l0 k l1 ([] : List Int) 0 0 a0_0 l0_1 l0_2
set_option maxHeartbeats 8000000 in
set_option maxRecDepth 100000 in
theorem r11_Fires.calls (k : Nat) (a0_0 : ByteArray) (A0_1 : Option Addr) (c0_1 : Nat) (l0_1 : List (S71)) (A0_2 : Option Addr) (c0_2 : Nat) (l0_2 : List (S74)) (A1 : Option Addr) (c1 : Nat) (l1 : List Int) (r : List Int) (w : World) (hr0_1 : Kd.C k71 w A0_1 l0_1.length l0_1) (hc0_1 : l0_1.length ≤ c0_1) (hr0_2 : Kd.C k74 w A0_2 l0_2.length l0_2) (hc0_2 : l0_2.length ≤ c0_2) (hr1 : Kd.C (Kd.int .i64) w A1 l1.length l1) (hc1 : l1.length ≤ c1) (h : r11_Fires.f k a0_0 l0_1 l0_2 l1 = some r) :
  Calls Try.prog 44 #[.agg #[.string a0_0, .slice A0_1 l0_1.length c0_1, .slice A0_2 l0_2.length c0_2], .slice A1 l1.length c1] w fun e w' => ∃ v0_ : Value, e = .returned (v0_) ∧ Kd.R (Kd.int .i64) 3 w' w.heap.size (fun _ => True) v0_ r ∧ Below w.heap.size w w' := by
 have hu39 := Try.underlying39
 have HR0_1 := Aside0.mk hr0_1
 have HC0_1 := Aside0.mk hc0_1
 clear hr0_1 hc0_1
 have HR0_2 := Aside0.mk hr0_2
 have HC0_2 := Aside0.mk hc0_2
 clear hr0_2 hc0_2
 have HR1 := Aside0.mk hr1
 have HC1 := Aside0.mk hc1
 clear hr1 hc1
 have HB := Aside0.mk (Below.refl w.heap.size w)
 have H : (r11_Fires.l0 k l1 ([] : List Int) 0 0 a0_0 l0_1 l0_2) = some r := h
 clear h
 have H' := Aside0.mk H
 clear H
 go_enter Try.func44, Try.ntmps44
 go_wp2_with (first | ((with_reducible refine gate_dst (N := 2) rfl ?_); refine tBx 2 39 #[.string a0_0, .slice A0_1 l0_1.length c0_1, .slice A0_2 l0_2.length c0_2] ?_; intro gb101 hg w3 hbox hb; have BK101 := Aside0.mk (hbox); have GW101 := tW HB hg; have GE101 := tW HB hg; replace HB := tA HB hb; clear hb hbox hg) | go_quiet (fail))
 go_loopg [5, 6, 7] k (fun kq v5 v6 v7 w' => ∃ (x5_1 : List Int) (x6_1 : Int) (x7_1 : Int), v6 = .int .i64 x6_1 ∧ v7 = .int .i64 x7_1 ∧ Aside0 (r11_Fires.l0 kq l1 x5_1 x6_1 x7_1 a0_0 l0_1 l0_2 = some r) ∧ Aside0 (kq ≤ k) ∧ Aside0 (Kd.R (Kd.int .i64) 3 w' w.heap.size (fun _ => True) v5 x5_1) ∧ Aside0 (w'.heap[gb101]? = some (.cells #[.string a0_0, (.slice A0_1 l0_1.length c0_1), (.slice A0_2 l0_2.length c0_2)] 39 (0, 0))) ∧ Aside0 (Below w.heap.size w w'))
 case atStart => exact ⟨(([] : List Int)), (0), (0), tU, tU, H', ⟨Nat.le_refl _⟩, ⟨tV⟩, ⟨tK BK101⟩, ⟨tB⟩⟩
 case round =>
  clear H'
  (try clear c1); (try clear p2)
  obtain ⟨x5_1, x6_1, x7_1, rfl, rfl, HA, HK1, HO_5, BK101, HB⟩ := hrel
  cases gk with
  | zero => exact absurd HA.out (by simp [r11_Fires.l0])
  | succ k1 =>
   have H := HA.out
   clear HA
   simp only [r11_Fires.l0] at H
   by_cases c4 : x7_1 < (l0_2.length : Int)
   ·rw [if_pos c4] at H
    have c4b0 := decide_eq_true c4
    clear c4
    replace H := Option.bind_eq_some_iff.mp H
    obtain ⟨t102, A50, H⟩ := H
    (try dsimp only at H)
    have A5 := Aside0.mk A50
    clear A50
    by_cases c6 : t102 = true
    ·subst c6
     rw [if_pos rfl] at H
     replace H := tF H
     obtain ⟨c7, H⟩ := H
     have LMc7 := Aside0.mk c7
     clear c7
     obtain ⟨y103, hy103⟩ : ∃ y_ : List Int, y_ = (x5_1 ++ [x7_1]) := ⟨_, rfl⟩
     replace H : (if 0 ≤ x7_1 then (r11_Fires.l0 k1 l1 y103 (mx x6_1 ((rd_T74 l0_2 x7_1).f4)) (wrap64 (x7_1 + 1)) a0_0 l0_1 l0_2) else (none)) = some r := tQ hy103 H
     have Ny103 := Aside0.mk hy103
     clear hy103
     replace H := tF H
     obtain ⟨c8, H⟩ := H
     have c8b0 := decide_eq_true c8
     clear c8
     obtain ⟨ji9, hji9⟩ : ∃ j_ : Int, (mx x6_1 ((rd_T74 l0_2 x7_1).f4)) = j_ := ⟨_, rfl⟩
     replace H : (r11_Fires.l0 k1 l1 y103 ji9 (wrap64 (x7_1 + 1)) a0_0 l0_1 l0_2) = some r := by first | (rw [hji9] at H; exact H) | (simp only [hji9] at H ⊢; exact H)
     (try rw [hji9] at A5)
     have hji9_ : (if x6_1 < ((rd_T74 l0_2 x7_1).f4) then ((rd_T74 l0_2 x7_1).f4) else x6_1) = ji9 := hji9
     have H' := Aside0.mk H
     clear H
     obtain ⟨hcz10_0, hcz10_1, hcz10_2, hfz10_0, hfz10_1, hfz10_2⟩ := zc3 BK101
     go_wp2_with (first | (go_at_call 62; (with_reducible refine (r11_Ready.calls k1 a0_0 _ _ l0_1 _ _ l0_2 _ _ l1 x7_1 true _ (tG HR0_1 HB) HC0_1.out (tG HR0_2 HB) HC0_2.out (tG HR1 HB) HC1.out A5.out).mono ?_); rintro e w11 ⟨rfl, hb⟩; replace HO_5 := Aside0.mk (Kd.R_below (tR HO_5) hb); replace BK101 := tL BK101 hb; replace HB := tA HB hb; (try clear hb); (try clear hb2); (try clear hk); (try clear hi)) | ((with_reducible refine gate_builtin (b := .append) (xs := #[.tmp 21, .tmp 23]) rfl ?_); at_builtin; refine Kd.R_append (Kd.int .i64) (w0 := w) w.heap.size rfl (.tmp 21) (.tmp 23) 28 3 (.int .i64 0) 8 rfl Try.underlying28 info3 rfl (by decide) (by omega) u5 x5_1 x7_1 [.int .i64 x7_1] (fun _ => True) (fun _ => False) rfl rfl ?aP (fun _ hk => hk.elim) ?aF ?aO ?aB ?aS ?aL ?_; (case aP => exact rfl); (case aB => exact (tB)); (case aF => exact (fun _ _ => trivial)); (case aO => exact (tR HO_5)); (case aS => exact (below_size (tB))); (case aL => have := LMc7.out; omega); intro v104 w12 ho hb hg hat; rw [← Ny103.out] at ho; replace BK101 := Aside0.mk (blk_grown (g := gb101) (o := .cells #[.string a0_0, .slice A0_1 l0_1.length c0_1, .slice A0_2 l0_2.length c0_2] 39 (0, 0)) (tK BK101) hg (Kd.R_ne HO_5.out BK101.out (by decide))); replace HB := Aside0.mk (hb); have HO105 := Aside0.mk (ho); clear HO_5; clear ho hb hg hat; obtain ⟨hcz13_0, hcz13_1, hcz13_2, hfz13_0, hfz13_1, hfz13_2⟩ := zc3 BK101; have p106 : 0 ≤ (x7_1 : Int) := tD; have q106 : x7_1 < (l0_2.length : Int) := tD; obtain ⟨ad106, A106_1, c106_1, A106_2, c106_2, A106_3, c106_3, e106, hx106_0, hx106_1, hx106_2, hx106_3, hx106_4, hl106_1, hi106_1, hl106_2, hi106_2, hl106_3, hi106_3⟩ := at_T74 HR0_2.out x7_1 p106 q106; cases e106; replace hx106_0 := tH HB hx106_0; replace hx106_1 := tH HB hx106_1; replace hx106_2 := tH HB hx106_2; replace hx106_3 := tH HB hx106_3; replace hx106_4 := tH HB hx106_4; have HR106_1 := Aside0.mk hi106_1; have HC106_1 := Aside0.mk hl106_1; clear hi106_1 hl106_1; have HR106_2 := Aside0.mk hi106_2; have HC106_2 := Aside0.mk hl106_2; clear hi106_2 hl106_2; have HR106_3 := Aside0.mk hi106_3; have HC106_3 := Aside0.mk hl106_3; clear hi106_3 hl106_3; replace p106 := eq_true p106; replace q106 := eq_true q106) | go_quiet (fail))
     go_roundg k1
     case measure => have := HK1.out; omega
     case rel => exact ⟨(y103), (ji9), (wrap64 (x7_1 + 1)), (by first | rfl | (simp; done) | (simp only [← hji9] <;> (first | rfl | simp)) | (simp [*]; done)), tU, H', ⟨by have := HK1.out; omega⟩, ⟨tR HO105⟩, ⟨tK BK101⟩, ⟨tB⟩⟩
    replace c6 := Bool.eq_false_iff.mpr c6
    subst c6
    rw [if_neg (show ¬ (false = true) by decide)] at H
    have H' := Aside0.mk H
    clear H
    obtain ⟨hcz14_0, hcz14_1, hcz14_2, hfz14_0, hfz14_1, hfz14_2⟩ := zc3 BK101
    go_wp2_with (first | (go_at_call 62; (with_reducible refine (r11_Ready.calls k1 a0_0 _ _ l0_1 _ _ l0_2 _ _ l1 x7_1 false _ (tG HR0_1 HB) HC0_1.out (tG HR0_2 HB) HC0_2.out (tG HR1 HB) HC1.out A5.out).mono ?_); rintro e w15 ⟨rfl, hb⟩; replace HO_5 := Aside0.mk (Kd.R_below (tR HO_5) hb); replace BK101 := tL BK101 hb; replace HB := tA HB hb; (try clear hb); (try clear hb2); (try clear hk); (try clear hi)) | go_quiet (fail))
    go_roundg k1
    case measure => have := HK1.out; omega
    case rel => exact ⟨(x5_1), (x6_1), (wrap64 (x7_1 + 1)), tU, tU, H', ⟨by have := HK1.out; omega⟩, ⟨tR HO_5⟩, ⟨tK BK101⟩, ⟨tB⟩⟩
   rw [if_neg c4] at H
   have c4b0 := decide_eq_false c4
   clear c4
   have H' := Aside0.mk H
   clear H
   obtain ⟨hcz16_0, hcz16_1, hcz16_2, hfz16_0, hfz16_1, hfz16_2⟩ := zc3 BK101
   go_wp2
   repeat (go_quiet (fail); try go_wp2)
   go_loopg [8, 9] k1 (fun kq v8 v9 w' => ∃ (x8_2 : List Int) (x9_2 : Int), v9 = .int .i64 x9_2 ∧ Aside0 (r11_Fires.l1 kq x5_1 x6_1 x8_2 x9_2 a0_0 l0_1 l0_2 = some r) ∧ Aside0 (kq ≤ k1) ∧ Aside0 (Kd.R (Kd.int .i64) 3 w' w.heap.size (fun k_ => some k_ ≠ (v8 : Value).ownBlock) u5 x5_1) ∧ Aside0 (Kd.R (Kd.int .i64) 3 w' w.heap.size (fun k_ => some k_ ≠ (u5 : Value).ownBlock) v8 x8_2) ∧ Aside0 (w'.heap[gb101]? = some (.cells #[.string a0_0, (.slice A0_1 l0_1.length c0_1), (.slice A0_2 l0_2.length c0_2)] 39 (0, 0))) ∧ Aside0 (Below w.heap.size w w'))
   case atStart => exact ⟨(([] : List Int)), (0), tU, H', ⟨Nat.le_refl _⟩, ⟨by (with_reducible repeat (first | apply Kd.R_alloc | apply Kd.R_drewN | apply Kd.R_drew)); exact Kd.R_mono HO_5.out (fun _ hk => (by simp [Value.ownBlock]))⟩, ⟨tV⟩, ⟨tK BK101⟩, ⟨tB⟩⟩
   case round =>
    clear H'
    (try clear c1); (try clear p1); (try clear q1); (try clear hx1); (try clear p2); (try clear c4); (try clear c4b0); (try clear c6); (try clear p6); (try clear c7); (try clear c8); (try clear c8b0); (try clear c10); (try clear p10); (try clear q10); (try clear hx10); (try clear hcz10_0 hcz10_1 hcz10_2 hfz10_0 hfz10_1 hfz10_2); (try clear hcz13_0 hcz13_1 hcz13_2 hfz13_0 hfz13_1 hfz13_2); (try clear hcz14_0 hcz14_1 hcz14_2 hfz14_0 hfz14_1 hfz14_2); (try clear hcz16_0 hcz16_1 hcz16_2 hfz16_0 hfz16_1 hfz16_2); (try clear hx106_0); (try clear hx106_1); (try clear hx106_2); (try clear hx106_3); (try clear hx106_4); (try clear p106); (try clear q106)
    obtain ⟨x8_2, x9_2, rfl, HA, HK2, HO_5, HO_8, BK101, HB⟩ := hrel
    cases gk with
    | zero => exact absurd HA.out (by simp [r11_Fires.l1])
    | succ k2 =>
     have H := HA.out
     clear HA
     simp only [r11_Fires.l1] at H
     by_cases c17 : x9_2 < (x5_1.length : Int)
     ·rw [if_pos c17] at H
      have c17b0 := decide_eq_true c17
      clear c17
      replace H := tF H
      obtain ⟨c18, H⟩ := H
      have c18b0 := decide_eq_true c18
      clear c18
      replace H := tF H
      obtain ⟨c19, H⟩ := H
      have c19b0 := decide_eq_true c19
      clear c19
      replace H := tF H
      obtain ⟨c20, H⟩ := H
      have c20b0 := decide_eq_true c20
      clear c20
      by_cases c21 : ((rd_T74 l0_2 (rd x5_1 x9_2)).f4) = x6_1
      ·rw [if_pos c21] at H
       have c21b0 := beq_iff_eq.mpr c21
       have c21b1 := bne_eq_false_iff_eq.mpr c21
       clear c21
       replace H := tF H
       obtain ⟨c22, H⟩ := H
       have LMc22 := Aside0.mk c22
       clear c22
       obtain ⟨y110, hy110⟩ : ∃ y_ : List Int, y_ = (x8_2 ++ [rd x5_1 x9_2]) := ⟨_, rfl⟩
       replace H : (r11_Fires.l1 k2 x5_1 x6_1 y110 (wrap64 (x9_2 + 1)) a0_0 l0_1 l0_2) = some r := tQ hy110 H
       have Ny110 := Aside0.mk hy110
       clear hy110
       have H' := Aside0.mk H
       clear H
       obtain ⟨Ao23, co23, eo23⟩ := Kd.R_slice HO_5.out
       subst eo23
       obtain ⟨hcz24_0, hcz24_1, hcz24_2, hfz24_0, hfz24_1, hfz24_2⟩ := zc3 BK101
       have p107 : 0 ≤ (x9_2 : Int) := tD
       have q107 : x9_2 < (x5_1.length : Int) := tD
       obtain ⟨ad107, e107, hx107_0⟩ := Kd.at_int (Kd.R_reads' HO_5.out).2.2 x9_2 p107 q107
       cases e107
       replace p107 := eq_true p107
       replace q107 := eq_true q107
       have p108 : 0 ≤ ((rd x5_1 x9_2) : Int) := tD
       have q108 : (rd x5_1 x9_2) < (l0_2.length : Int) := tD
       obtain ⟨ad108, A108_1, c108_1, A108_2, c108_2, A108_3, c108_3, e108, hx108_0, hx108_1, hx108_2, hx108_3, hx108_4, hl108_1, hi108_1, hl108_2, hi108_2, hl108_3, hi108_3⟩ := at_T74 HR0_2.out (rd x5_1 x9_2) p108 q108
       cases e108
       replace hx108_0 := tH HB hx108_0
       replace hx108_1 := tH HB hx108_1
       replace hx108_2 := tH HB hx108_2
       replace hx108_3 := tH HB hx108_3
       replace hx108_4 := tH HB hx108_4
       have HR108_1 := Aside0.mk hi108_1
       have HC108_1 := Aside0.mk hl108_1
       clear hi108_1 hl108_1
       have HR108_2 := Aside0.mk hi108_2
       have HC108_2 := Aside0.mk hl108_2
       clear hi108_2 hl108_2
       have HR108_3 := Aside0.mk hi108_3
       have HC108_3 := Aside0.mk hl108_3
       clear hi108_3 hl108_3
       replace p108 := eq_true p108
       replace q108 := eq_true q108
       have p109 : 0 ≤ (x9_2 : Int) := tD
       have q109 : x9_2 < (x5_1.length : Int) := tD
       obtain ⟨ad109, e109, hx109_0⟩ := Kd.at_int (Kd.R_reads' HO_5.out).2.2 x9_2 p109 q109
       obtain rfl : ad107 = ad109 := (by injection e109)
       replace p109 := eq_true p109
       replace q109 := eq_true q109
       go_wp2_with (first | ((with_reducible refine gate_builtin (b := .append) (xs := #[.tmp 50, .tmp 55]) rfl ?_); at_builtin; refine Kd.R_append (Kd.int .i64) (w0 := w) w.heap.size rfl (.tmp 50) (.tmp 55) 28 3 (.int .i64 0) 8 rfl Try.underlying28 info3 rfl (by decide) (by omega) u8 x8_2 (rd x5_1 x9_2) [.int .i64 (rd x5_1 x9_2)] (fun k_ => some k_ ≠ (.slice (some ad107) x5_1.length co23 : Value).ownBlock) (fun _ => False) rfl rfl ?aP (fun _ hk => hk.elim) ?aF ?aO ?aB ?aS ?aL ?_; (case aP => exact rfl); (case aB => exact (tB)); (case aF => exact (fun k_ hk => Kd.fresh' (Kd.R_lt (tR HO_5)) k_ hk)); (case aO => exact (tR HO_8)); (case aS => exact (below_size (tB))); (case aL => have := LMc22.out; omega); intro v111 w25 ho hb hg hat; rw [← Ny110.out] at ho; replace HO_5 := Aside0.mk (Kd.R_after (ok := (fun _ => True)) (by (with_reducible repeat (first | apply Kd.R_alloc | apply Kd.R_drewN | apply Kd.R_drew)); exact Kd.R_mono HO_5.out (fun _ hk => ⟨trivial, hk⟩)) hg hat); replace BK101 := Aside0.mk (blk_grown (g := gb101) (o := .cells #[.string a0_0, .slice A0_1 l0_1.length c0_1, .slice (some ad108) l0_2.length c0_2] 39 (0, 0)) (tK BK101) hg (Kd.R_ne HO_8.out BK101.out (by decide))); replace HB := Aside0.mk (hb); have HO112 := Aside0.mk (ho); clear HO_8; clear ho hb hg hat) | go_quiet (fail))
       go_roundg k2
       case measure => have := HK1.out; have := HK2.out; omega
       case rel => exact ⟨(y110), (wrap64 (x9_2 + 1)), tU, H', ⟨by have := HK1.out; have := HK2.out; omega⟩, ⟨by (with_reducible repeat (first | apply Kd.R_alloc | apply Kd.R_drewN | apply Kd.R_drew)); exact Kd.R_mono HO_5.out (fun _ hk => hk.2)⟩, ⟨tR HO112⟩, ⟨tK BK101⟩, ⟨tB⟩⟩
      rw [if_neg c21] at H
      have c21b0 := beq_eq_false_iff_ne.mpr c21
      have c21b1 := bne_iff_ne.mpr c21
      have H' := Aside0.mk H
      clear H
      obtain ⟨Ao26, co26, eo26⟩ := Kd.R_slice HO_5.out
      subst eo26
      obtain ⟨hcz27_0, hcz27_1, hcz27_2, hfz27_0, hfz27_1, hfz27_2⟩ := zc3 BK101
      have p107 : 0 ≤ (x9_2 : Int) := tD
      have q107 : x9_2 < (x5_1.length : Int) := tD
      obtain ⟨ad107, e107, hx107_0⟩ := Kd.at_int (Kd.R_reads' HO_5.out).2.2 x9_2 p107 q107
      cases e107
      replace p107 := eq_true p107
      replace q107 := eq_true q107
      have p108 : 0 ≤ ((rd x5_1 x9_2) : Int) := tD
      have q108 : (rd x5_1 x9_2) < (l0_2.length : Int) := tD
      obtain ⟨ad108, A108_1, c108_1, A108_2, c108_2, A108_3, c108_3, e108, hx108_0, hx108_1, hx108_2, hx108_3, hx108_4, hl108_1, hi108_1, hl108_2, hi108_2, hl108_3, hi108_3⟩ := at_T74 HR0_2.out (rd x5_1 x9_2) p108 q108
      cases e108
      replace hx108_0 := tH HB hx108_0
      replace hx108_1 := tH HB hx108_1
      replace hx108_2 := tH HB hx108_2
      replace hx108_3 := tH HB hx108_3
      replace hx108_4 := tH HB hx108_4
      have HR108_1 := Aside0.mk hi108_1
      have HC108_1 := Aside0.mk hl108_1
      clear hi108_1 hl108_1
      have HR108_2 := Aside0.mk hi108_2
      have HC108_2 := Aside0.mk hl108_2
      clear hi108_2 hl108_2
      have HR108_3 := Aside0.mk hi108_3
      have HC108_3 := Aside0.mk hl108_3
      clear hi108_3 hl108_3
      replace p108 := eq_true p108
      replace q108 := eq_true q108
      go_wp2
      repeat (go_quiet (fail); try go_wp2)
      go_roundg k2
      case measure => have := HK1.out; have := HK2.out; omega
      case rel => exact ⟨(x8_2), (wrap64 (x9_2 + 1)), tU, H', ⟨by have := HK1.out; have := HK2.out; omega⟩, ⟨tR HO_5⟩, ⟨tR HO_8⟩, ⟨tK BK101⟩, ⟨tB⟩⟩
     rw [if_neg c17] at H
     have c17b0 := decide_eq_false c17
     clear c17
     obtain rfl := Option.some.inj H
     obtain ⟨Ao28, co28, eo28⟩ := Kd.R_slice HO_5.out
     subst eo28
     go_wp2
     repeat (go_quiet (fail); try go_wp2)
     go_ret
     exact ⟨_, tE, by (with_reducible repeat (first | apply Kd.R_alloc | apply Kd.R_drewN | apply Kd.R_drew)); exact Kd.R_mono HO_8.out (fun _ hk => trivial), tB⟩
def r11_After.l0 : Nat → List Int → Int → List Int → Int → ByteArray → List (S71) → List (S74) → Option (List Int × Bool)
 | 0, _, _, _, _, _, _, _ => none
 | k + 1, x1, x2, x8, x9, x102000, x102001, x102002 => if x9 < (x102001.length : Int) then (if 0 ≤ x9 then (if x9 < (x1.length : Int) then (if 0 ≤ x2 then (if x2 < (x102002.length : Int) then ((r11_weight.f k ((rd_T74 x102002 x2).f1) x9).bind fun t104 => ((r11_weight.f k ((rd_T74 x102002 x2).f2) x9).bind fun t106 => (if (wrap64 ((wrap64 ((rd x1 x9) - t104)) + t106)) > 1048576 then (some (([] : List Int), false)) else (if x8.length < 17592186044416 then (r11_After.l0 k x1 x2 (x8 ++ [wrap64 ((wrap64 ((rd x1 x9) - t104)) + t106)]) (wrap64 (x9 + 1)) x102000 x102001 x102002) else (none))))) else (none)) else (none)) else (none)) else (none)) else (some (x8, true))
def r11_After.f (k : Nat) (a0_0 : ByteArray) (l0_1 : List (S71)) (l0_2 : List (S74)) (l1 : List Int) (a2 : Int) : Option (List Int × Bool) := r11_After.l0 k l1 a2 ([] : List Int) 0 a0_0 l0_1 l0_2
set_option maxHeartbeats 8000000 in
set_option maxRecDepth 100000 in
theorem r11_After.calls (k : Nat) (a0_0 : ByteArray) (A0_1 : Option Addr) (c0_1 : Nat) (l0_1 : List (S71)) (A0_2 : Option Addr) (c0_2 : Nat) (l0_2 : List (S74)) (A1 : Option Addr) (c1 : Nat) (l1 : List Int) (a2 : Int) (r1 : List Int) (r2 : Bool) (w : World) (hr0_1 : Kd.C k71 w A0_1 l0_1.length l0_1) (hc0_1 : l0_1.length ≤ c0_1) (hr0_2 : Kd.C k74 w A0_2 l0_2.length l0_2) (hc0_2 : l0_2.length ≤ c0_2) (hr1 : Kd.C (Kd.int .i64) w A1 l1.length l1) (hc1 : l1.length ≤ c1) (h : r11_After.f k a0_0 l0_1 l0_2 l1 a2 = some (r1, r2)) :
  Calls Try.prog 45 #[.agg #[.string a0_0, .slice A0_1 l0_1.length c0_1, .slice A0_2 l0_2.length c0_2], .slice A1 l1.length c1, .int .i64 a2] w fun e w' => ∃ v0_ : Value, e = .returned (.tuple #[v0_, .bool r2]) ∧ Kd.R (Kd.int .i64) 3 w' w.heap.size (fun _ => True) v0_ r1 ∧ Below w.heap.size w w' := by
 have hu39 := Try.underlying39
 have HR0_1 := Aside0.mk hr0_1
 have HC0_1 := Aside0.mk hc0_1
 clear hr0_1 hc0_1
 have HR0_2 := Aside0.mk hr0_2
 have HC0_2 := Aside0.mk hc0_2
 clear hr0_2 hc0_2
 have HR1 := Aside0.mk hr1
 have HC1 := Aside0.mk hc1
 clear hr1 hc1
 have HB := Aside0.mk (Below.refl w.heap.size w)
 have H : (r11_After.l0 k l1 a2 ([] : List Int) 0 a0_0 l0_1 l0_2) = some (r1, r2) := h
 clear h
 have H' := Aside0.mk H
 clear H
 go_enter Try.func45, Try.ntmps45
 go_wp2_with (first | ((with_reducible refine gate_dst (N := 3) rfl ?_); refine tBx 3 39 #[.string a0_0, .slice A0_1 l0_1.length c0_1, .slice A0_2 l0_2.length c0_2] ?_; intro gb101 hg w4 hbox hb; have BK101 := Aside0.mk (hbox); have GW101 := tW HB hg; have GE101 := tW HB hg; replace HB := tA HB hb; clear hb hbox hg) | go_quiet (fail))
 go_loopg [8, 9] k (fun kq v8 v9 w' => ∃ (x8_1 : List Int) (x9_1 : Int), v9 = .int .i64 x9_1 ∧ Aside0 (r11_After.l0 kq l1 a2 x8_1 x9_1 a0_0 l0_1 l0_2 = some (r1, r2)) ∧ Aside0 (kq ≤ k) ∧ Aside0 (Kd.R (Kd.int .i64) 3 w' w.heap.size (fun _ => True) v8 x8_1) ∧ Aside0 (w'.heap[gb101]? = some (.cells #[.string a0_0, (.slice A0_1 l0_1.length c0_1), (.slice A0_2 l0_2.length c0_2)] 39 (0, 0))) ∧ Aside0 (Below w.heap.size w w'))
 case atStart => exact ⟨(([] : List Int)), (0), tU, H', ⟨Nat.le_refl _⟩, ⟨tV⟩, ⟨tK BK101⟩, ⟨tB⟩⟩
 case round =>
  clear H'
  (try clear c1); (try clear p2); (try clear c4)
  obtain ⟨x8_1, x9_1, rfl, HA, HK1, HO_8, BK101, HB⟩ := hrel
  cases gk with
  | zero => exact absurd HA.out (by simp [r11_After.l0])
  | succ k1 =>
   have H := HA.out
   clear HA
   simp only [r11_After.l0] at H
   by_cases c5 : x9_1 < (l0_1.length : Int)
   ·rw [if_pos c5] at H
    have c5b0 := decide_eq_true c5
    clear c5
    replace H := tF H
    obtain ⟨c6, H⟩ := H
    have c6b0 := decide_eq_true c6
    clear c6
    replace H := tF H
    obtain ⟨c7, H⟩ := H
    have c7b0 := decide_eq_true c7
    clear c7
    replace H := tF H
    obtain ⟨c8, H⟩ := H
    have c8b0 := decide_eq_true c8
    clear c8
    replace H := tF H
    obtain ⟨c9, H⟩ := H
    have c9b0 := decide_eq_true c9
    clear c9
    replace H := Option.bind_eq_some_iff.mp H
    obtain ⟨t104, A100, H⟩ := H
    (try dsimp only at H)
    have A10 := Aside0.mk A100
    clear A100
    replace H := Option.bind_eq_some_iff.mp H
    obtain ⟨t106, A110, H⟩ := H
    (try dsimp only at H)
    have A11 := Aside0.mk A110
    clear A110
    by_cases c12 : (wrap64 ((wrap64 ((rd l1 x9_1) - t104)) + t106)) > 1048576
    ·rw [if_pos c12] at H
     have c12b0 := tdGi c12
     have c12b0w_ : decide (1048576 < (IntKind.i64.wrap ((IntKind.i64.wrap ((rd l1 x9_1) - t104)) + t106))) = true := by simpa only [i64_w] using c12b0
     clear c12
     simp only [Option.some.injEq, Prod.mk.injEq] at H
     obtain ⟨rfl, rfl⟩ := H
     obtain ⟨hcz13_0, hcz13_1, hcz13_2, hfz13_0, hfz13_1, hfz13_2⟩ := zc3 BK101
     have p102 : 0 ≤ (x9_1 : Int) := tD
     have q102 : x9_1 < (l1.length : Int) := tD
     obtain ⟨ad102, e102, hx102_0⟩ := Kd.at_int HR1.out x9_1 p102 q102
     cases e102
     replace hx102_0 := tH HB hx102_0
     replace p102 := eq_true p102
     replace q102 := eq_true q102
     have p103 : 0 ≤ (a2 : Int) := tD
     have q103 : a2 < (l0_2.length : Int) := tD
     obtain ⟨ad103, A103_1, c103_1, A103_2, c103_2, A103_3, c103_3, e103, hx103_0, hx103_1, hx103_2, hx103_3, hx103_4, hl103_1, hi103_1, hl103_2, hi103_2, hl103_3, hi103_3⟩ := at_T74 HR0_2.out a2 p103 q103
     cases e103
     replace hx103_0 := tH HB hx103_0
     replace hx103_1 := tH HB hx103_1
     replace hx103_2 := tH HB hx103_2
     replace hx103_3 := tH HB hx103_3
     replace hx103_4 := tH HB hx103_4
     have HR103_1 := Aside0.mk hi103_1
     have HC103_1 := Aside0.mk hl103_1
     clear hi103_1 hl103_1
     have HR103_2 := Aside0.mk hi103_2
     have HC103_2 := Aside0.mk hl103_2
     clear hi103_2 hl103_2
     have HR103_3 := Aside0.mk hi103_3
     have HC103_3 := Aside0.mk hl103_3
     clear hi103_3 hl103_3
     replace p103 := eq_true p103
     replace q103 := eq_true q103
     go_wp2_with (first | (go_at_call 63; (with_reducible refine (r11_weight.calls k1 _ _ ((rd_T74 l0_2 a2).f1) x9_1 t104 _ (tG HR103_1 HB) HC103_1.out A10.out).mono ?_); rintro e w' ⟨rfl, ⟨nd, rfl⟩⟩; (try first | exact ⟨rfl, _, World.drewN_drewN _ _ _⟩ | exact ⟨rfl, _, Eq.trans (World.drewN_drewN _ _ _) (congrArg (World.drewN _) (Nat.add_assoc _ _ _))⟩); have p105 : 0 ≤ (a2 : Int) := tD; have q105 : a2 < (l0_2.length : Int) := tD; obtain ⟨ad105, A105_1, c105_1, A105_2, c105_2, A105_3, c105_3, e105, hx105_0, hx105_1, hx105_2, hx105_3, hx105_4, hl105_1, hi105_1, hl105_2, hi105_2, hl105_3, hi105_3⟩ := at_T74 HR0_2.out a2 p105 q105; obtain rfl : ad103 = ad105 := (by injection e105); replace hx105_0 := tH HB hx105_0; replace hx105_1 := tH HB hx105_1; replace hx105_2 := tH HB hx105_2; replace hx105_3 := tH HB hx105_3; replace hx105_4 := tH HB hx105_4; have HR105_1 := Aside0.mk hi105_1; have HC105_1 := Aside0.mk hl105_1; clear hi105_1 hl105_1; have HR105_2 := Aside0.mk hi105_2; have HC105_2 := Aside0.mk hl105_2; clear hi105_2 hl105_2; have HR105_3 := Aside0.mk hi105_3; have HC105_3 := Aside0.mk hl105_3; clear hi105_3 hl105_3; replace p105 := eq_true p105; replace q105 := eq_true q105; have ea_ := Option.some.inj (hx103_1.symm.trans hx105_1); injection ea_ with ea_ en_ ec_; subst ea_; subst ec_; clear en_; have ea_ := Option.some.inj (hx103_2.symm.trans hx105_2); injection ea_ with ea_ en_ ec_; subst ea_; subst ec_; clear en_; have ea_ := Option.some.inj (hx103_3.symm.trans hx105_3); injection ea_ with ea_ en_ ec_; subst ea_; subst ec_; clear en_) | (go_at_call 63; (with_reducible refine (r11_weight.calls k1 _ _ ((rd_T74 l0_2 a2).f2) x9_1 t106 _ (tC (Kd.C_below HR105_2.out (tB))) HC105_2.out A11.out).mono ?_); rintro e w' ⟨rfl, ⟨nd, rfl⟩⟩; (try first | exact ⟨rfl, _, World.drewN_drewN _ _ _⟩ | exact ⟨rfl, _, Eq.trans (World.drewN_drewN _ _ _) (congrArg (World.drewN _) (Nat.add_assoc _ _ _))⟩)) | go_quiet (first | (go_at_call 63; (with_reducible refine (r11_weight.calls k1 _ _ ((rd_T74 l0_2 a2).f1) x9_1 t104 _ (tG HR103_1 HB) HC103_1.out A10.out).mono ?_); rintro e w' ⟨rfl, ⟨nd, rfl⟩⟩; (try first | exact ⟨rfl, _, World.drewN_drewN _ _ _⟩ | exact ⟨rfl, _, Eq.trans (World.drewN_drewN _ _ _) (congrArg (World.drewN _) (Nat.add_assoc _ _ _))⟩); have p105 : 0 ≤ (a2 : Int) := tD; have q105 : a2 < (l0_2.length : Int) := tD; obtain ⟨ad105, A105_1, c105_1, A105_2, c105_2, A105_3, c105_3, e105, hx105_0, hx105_1, hx105_2, hx105_3, hx105_4, hl105_1, hi105_1, hl105_2, hi105_2, hl105_3, hi105_3⟩ := at_T74 HR0_2.out a2 p105 q105; obtain rfl : ad103 = ad105 := (by injection e105); replace hx105_0 := tH HB hx105_0; replace hx105_1 := tH HB hx105_1; replace hx105_2 := tH HB hx105_2; replace hx105_3 := tH HB hx105_3; replace hx105_4 := tH HB hx105_4; have HR105_1 := Aside0.mk hi105_1; have HC105_1 := Aside0.mk hl105_1; clear hi105_1 hl105_1; have HR105_2 := Aside0.mk hi105_2; have HC105_2 := Aside0.mk hl105_2; clear hi105_2 hl105_2; have HR105_3 := Aside0.mk hi105_3; have HC105_3 := Aside0.mk hl105_3; clear hi105_3 hl105_3; replace p105 := eq_true p105; replace q105 := eq_true q105; have ea_ := Option.some.inj (hx103_1.symm.trans hx105_1); injection ea_ with ea_ en_ ec_; subst ea_; subst ec_; clear en_; have ea_ := Option.some.inj (hx103_2.symm.trans hx105_2); injection ea_ with ea_ en_ ec_; subst ea_; subst ec_; clear en_; have ea_ := Option.some.inj (hx103_3.symm.trans hx105_3); injection ea_ with ea_ en_ ec_; subst ea_; subst ec_; clear en_) | (go_at_call 63; (with_reducible refine (r11_weight.calls k1 _ _ ((rd_T74 l0_2 a2).f2) x9_1 t106 _ (tC (Kd.C_below HR105_2.out (tB))) HC105_2.out A11.out).mono ?_); rintro e w' ⟨rfl, ⟨nd, rfl⟩⟩; (try first | exact ⟨rfl, _, World.drewN_drewN _ _ _⟩ | exact ⟨rfl, _, Eq.trans (World.drewN_drewN _ _ _) (congrArg (World.drewN _) (Nat.add_assoc _ _ _))⟩))))
     go_ret2
     exact ⟨_, tE, by first | exact Kd.R_nil _ _ _ _ _ | exact Kd.N_nil _ _ _ _ _ | exact Kd.V_nil _ _ _ _ _ | exact Kd.Q_nil _ _ _ _ _ | exact Kd.S_nil _ _ _ _ _, tB⟩
    rw [if_neg c12] at H
    have c12b0 := tdHi c12
    have c12b0w_ : decide (1048576 < (IntKind.i64.wrap ((IntKind.i64.wrap ((rd l1 x9_1) - t104)) + t106))) = false := by simpa only [i64_w] using c12b0
    clear c12
    replace H := tF H
    obtain ⟨c14, H⟩ := H
    have LMc14 := Aside0.mk c14
    clear c14
    obtain ⟨y107, hy107⟩ : ∃ y_ : List Int, y_ = (x8_1 ++ [wrap64 ((wrap64 ((rd l1 x9_1) - t104)) + t106)]) := ⟨_, rfl⟩
    replace H : (r11_After.l0 k1 l1 a2 y107 (wrap64 (x9_1 + 1)) a0_0 l0_1 l0_2) = some (r1, r2) := tQ hy107 H
    have Ny107 := Aside0.mk hy107
    clear hy107
    have H' := Aside0.mk H
    clear H
    obtain ⟨hcz15_0, hcz15_1, hcz15_2, hfz15_0, hfz15_1, hfz15_2⟩ := zc3 BK101
    have p102 : 0 ≤ (x9_1 : Int) := tD
    have q102 : x9_1 < (l1.length : Int) := tD
    obtain ⟨ad102, e102, hx102_0⟩ := Kd.at_int HR1.out x9_1 p102 q102
    cases e102
    replace hx102_0 := tH HB hx102_0
    replace p102 := eq_true p102
    replace q102 := eq_true q102
    have p103 : 0 ≤ (a2 : Int) := tD
    have q103 : a2 < (l0_2.length : Int) := tD
    obtain ⟨ad103, A103_1, c103_1, A103_2, c103_2, A103_3, c103_3, e103, hx103_0, hx103_1, hx103_2, hx103_3, hx103_4, hl103_1, hi103_1, hl103_2, hi103_2, hl103_3, hi103_3⟩ := at_T74 HR0_2.out a2 p103 q103
    cases e103
    replace hx103_0 := tH HB hx103_0
    replace hx103_1 := tH HB hx103_1
    replace hx103_2 := tH HB hx103_2
    replace hx103_3 := tH HB hx103_3
    replace hx103_4 := tH HB hx103_4
    have HR103_1 := Aside0.mk hi103_1
    have HC103_1 := Aside0.mk hl103_1
    clear hi103_1 hl103_1
    have HR103_2 := Aside0.mk hi103_2
    have HC103_2 := Aside0.mk hl103_2
    clear hi103_2 hl103_2
    have HR103_3 := Aside0.mk hi103_3
    have HC103_3 := Aside0.mk hl103_3
    clear hi103_3 hl103_3
    replace p103 := eq_true p103
    replace q103 := eq_true q103
    go_wp2_with (first | (go_at_call 63; (with_reducible refine (r11_weight.calls k1 _ _ ((rd_T74 l0_2 a2).f1) x9_1 t104 _ (tG HR103_1 HB) HC103_1.out A10.out).mono ?_); rintro e w' ⟨rfl, ⟨nd, rfl⟩⟩; (try first | exact ⟨rfl, _, World.drewN_drewN _ _ _⟩ | exact ⟨rfl, _, Eq.trans (World.drewN_drewN _ _ _) (congrArg (World.drewN _) (Nat.add_assoc _ _ _))⟩); have p105 : 0 ≤ (a2 : Int) := tD; have q105 : a2 < (l0_2.length : Int) := tD; obtain ⟨ad105, A105_1, c105_1, A105_2, c105_2, A105_3, c105_3, e105, hx105_0, hx105_1, hx105_2, hx105_3, hx105_4, hl105_1, hi105_1, hl105_2, hi105_2, hl105_3, hi105_3⟩ := at_T74 HR0_2.out a2 p105 q105; obtain rfl : ad103 = ad105 := (by injection e105); replace hx105_0 := tH HB hx105_0; replace hx105_1 := tH HB hx105_1; replace hx105_2 := tH HB hx105_2; replace hx105_3 := tH HB hx105_3; replace hx105_4 := tH HB hx105_4; have HR105_1 := Aside0.mk hi105_1; have HC105_1 := Aside0.mk hl105_1; clear hi105_1 hl105_1; have HR105_2 := Aside0.mk hi105_2; have HC105_2 := Aside0.mk hl105_2; clear hi105_2 hl105_2; have HR105_3 := Aside0.mk hi105_3; have HC105_3 := Aside0.mk hl105_3; clear hi105_3 hl105_3; replace p105 := eq_true p105; replace q105 := eq_true q105; have ea_ := Option.some.inj (hx103_1.symm.trans hx105_1); injection ea_ with ea_ en_ ec_; subst ea_; subst ec_; clear en_; have ea_ := Option.some.inj (hx103_2.symm.trans hx105_2); injection ea_ with ea_ en_ ec_; subst ea_; subst ec_; clear en_; have ea_ := Option.some.inj (hx103_3.symm.trans hx105_3); injection ea_ with ea_ en_ ec_; subst ea_; subst ec_; clear en_) | (go_at_call 63; (with_reducible refine (r11_weight.calls k1 _ _ ((rd_T74 l0_2 a2).f2) x9_1 t106 _ (tC (Kd.C_below HR105_2.out (tB))) HC105_2.out A11.out).mono ?_); rintro e w' ⟨rfl, ⟨nd, rfl⟩⟩; (try first | exact ⟨rfl, _, World.drewN_drewN _ _ _⟩ | exact ⟨rfl, _, Eq.trans (World.drewN_drewN _ _ _) (congrArg (World.drewN _) (Nat.add_assoc _ _ _))⟩)) | ((with_reducible refine gate_builtin (b := .append) (xs := #[.tmp 42, .tmp 44]) rfl ?_); at_builtin; refine Kd.R_append (Kd.int .i64) (w0 := w) w.heap.size rfl (.tmp 42) (.tmp 44) 28 3 (.int .i64 0) 8 rfl Try.underlying28 info3 rfl (by decide) (by omega) u8 x8_1 (wrap64 ((wrap64 ((rd l1 x9_1) - t104)) + t106)) [.int .i64 (wrap64 ((wrap64 ((rd l1 x9_1) - t104)) + t106))] (fun _ => True) (fun _ => False) rfl rfl ?aP (fun _ hk => hk.elim) ?aF ?aO ?aB ?aS ?aL ?_; (case aP => exact rfl); (case aB => exact (tB)); (case aF => exact (fun _ _ => trivial)); (case aO => exact (tR HO_8)); (case aS => exact (below_size (tB))); (case aL => have := LMc14.out; omega); intro v108 w16 ho hb hg hat; rw [← Ny107.out] at ho; replace BK101 := Aside0.mk (blk_grown (g := gb101) (o := .cells #[.string a0_0, .slice A0_1 l0_1.length c0_1, .slice (some ad103) l0_2.length c0_2] 39 (0, 0)) (tK BK101) hg (Kd.R_ne HO_8.out BK101.out (by decide))); replace HB := Aside0.mk (hb); have HO109 := Aside0.mk (ho); clear HO_8; clear ho hb hg hat) | go_quiet (first | (go_at_call 63; (with_reducible refine (r11_weight.calls k1 _ _ ((rd_T74 l0_2 a2).f1) x9_1 t104 _ (tG HR103_1 HB) HC103_1.out A10.out).mono ?_); rintro e w' ⟨rfl, ⟨nd, rfl⟩⟩; (try first | exact ⟨rfl, _, World.drewN_drewN _ _ _⟩ | exact ⟨rfl, _, Eq.trans (World.drewN_drewN _ _ _) (congrArg (World.drewN _) (Nat.add_assoc _ _ _))⟩); have p105 : 0 ≤ (a2 : Int) := tD; have q105 : a2 < (l0_2.length : Int) := tD; obtain ⟨ad105, A105_1, c105_1, A105_2, c105_2, A105_3, c105_3, e105, hx105_0, hx105_1, hx105_2, hx105_3, hx105_4, hl105_1, hi105_1, hl105_2, hi105_2, hl105_3, hi105_3⟩ := at_T74 HR0_2.out a2 p105 q105; obtain rfl : ad103 = ad105 := (by injection e105); replace hx105_0 := tH HB hx105_0; replace hx105_1 := tH HB hx105_1; replace hx105_2 := tH HB hx105_2; replace hx105_3 := tH HB hx105_3; replace hx105_4 := tH HB hx105_4; have HR105_1 := Aside0.mk hi105_1; have HC105_1 := Aside0.mk hl105_1; clear hi105_1 hl105_1; have HR105_2 := Aside0.mk hi105_2; have HC105_2 := Aside0.mk hl105_2; clear hi105_2 hl105_2; have HR105_3 := Aside0.mk hi105_3; have HC105_3 := Aside0.mk hl105_3; clear hi105_3 hl105_3; replace p105 := eq_true p105; replace q105 := eq_true q105; have ea_ := Option.some.inj (hx103_1.symm.trans hx105_1); injection ea_ with ea_ en_ ec_; subst ea_; subst ec_; clear en_; have ea_ := Option.some.inj (hx103_2.symm.trans hx105_2); injection ea_ with ea_ en_ ec_; subst ea_; subst ec_; clear en_; have ea_ := Option.some.inj (hx103_3.symm.trans hx105_3); injection ea_ with ea_ en_ ec_; subst ea_; subst ec_; clear en_) | (go_at_call 63; (with_reducible refine (r11_weight.calls k1 _ _ ((rd_T74 l0_2 a2).f2) x9_1 t106 _ (tC (Kd.C_below HR105_2.out (tB))) HC105_2.out A11.out).mono ?_); rintro e w' ⟨rfl, ⟨nd, rfl⟩⟩; (try first | exact ⟨rfl, _, World.drewN_drewN _ _ _⟩ | exact ⟨rfl, _, Eq.trans (World.drewN_drewN _ _ _) (congrArg (World.drewN _) (Nat.add_assoc _ _ _))⟩))))
    go_roundg k1
    case measure => have := HK1.out; omega
    case rel => exact ⟨(y107), (wrap64 (x9_1 + 1)), tU, H', ⟨by have := HK1.out; omega⟩, ⟨tR HO109⟩, ⟨tK BK101⟩, ⟨tB⟩⟩
   rw [if_neg c5] at H
   have c5b0 := decide_eq_false c5
   clear c5
   simp only [Option.some.injEq, Prod.mk.injEq] at H
   obtain ⟨rfl, rfl⟩ := H
   obtain ⟨hcz17_0, hcz17_1, hcz17_2, hfz17_0, hfz17_1, hfz17_2⟩ := zc3 BK101
   go_wp2
   repeat (go_quiet (fail); try go_wp2)
   go_ret2
   exact ⟨_, tE, by (with_reducible repeat (first | apply Kd.R_alloc | apply Kd.R_drewN | apply Kd.R_drew)); exact HO_8.out, tB⟩
end Go.Proofs.Ytfnjbgggmddgpaa.Q
end
