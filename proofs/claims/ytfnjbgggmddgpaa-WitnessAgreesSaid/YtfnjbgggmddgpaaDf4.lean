/- Part 4 of a proof: Df. Words and walks that a program printed for this claim stand here without what the claim does not use. -/
import Derived.Test.YtfnjbgggmddgpaaDf2
import Derived.Test.YtfnjbgggmddgpaaDf3
section
namespace Go.Proofs.Ytfnjbgggmddgpaa.Q
open Go.RowKit Go.Proofs.Fn Go.Proofs.YtfnjbgggmddgpaaW.PrintWords Go.Proofs.YtfnjbgggmddgpaaW.PrintLast Go.Proofs.YtfnjbgggmddgpaaW.PrintMore
attribute [local go_sem] max2_int min2_int max_two min_two max_three min_three max_four min_four
set_option linter.unusedVariables false
set_option linter.unusedSimpArgs false
theorem cell_far_ {W w1 : World} {ad : Addr} {g j n c : Nat} {i : Nat} {v u : Value} (h : W.cell? (ad.add i) = some v) (hne : some ad.block ≠ (Value.slice (some ⟨g, 0, none⟩) n c).ownBlock) (hw : w1 = W.setCell ⟨g, j, none⟩ u) : w1.cell? (ad.add i) = some v := by
 have hb : (ad.add i).block = ad.block := by unfold Addr.add; split <;> rfl
 have hne' : (ad.add i).block ≠ g := by rw [hb]; intro e; exact hne (by rw [e]; rfl)
 rw [hw, World.cell?_of_block (Below.heap_setCell W ⟨g, j, none⟩ u _ hne')]
 exact h
theorem cell_grown_ {W w1 : World} {ad : Addr} {i : Nat} {row : Option Nat} {v : Value} (h : W.cell? (ad.add i) = some v) (hg : W.grownBy w1 row) (hne : some ad.block ≠ row) : w1.cell? (ad.add i) = some v := by
 have hb : (ad.add i).block = ad.block := by unfold Addr.add; split <;> rfl
 rw [World.cell?_of_block (hg.block _ (World.block_lt_of_cell? W _ h) (by rw [hb]; exact hne))]
 exact h
theorem elemC_ {W : World} {base n c : Nat} {ok : Nat → Prop} {ad : Addr} {xs : List (List Int)} {i : Int} {A : Option Addr} {m cc : Nat} (h : Kd.S (Kd.slice 3 (Kd.int .i64)) 28 W base ok (.slice (some ad) n c) xs) (hx : W.cell? (ad.add i.toNat) = some (.slice A m cc)) (h0 : 0 ≤ i) (h1 : i < (n : Int)) : Kd.C (Kd.int .i64) W A (rd_L3 xs i).length (rd_L3 xs i) := by
 have hn := (Kd.S_reads' h).1
 obtain ⟨ad', A', c', e, hx', hl, hi⟩ := at_L3 (Kd.S_reads' h).2.2 i h0 (by omega)
 cases e
 rw [hx] at hx'
 injection hx' with hx'
 injection hx' with e1 _ _
 subst e1
 exact hi
mutual
def witness_distances.l0 : Nat → List (List (S66)) → (Int → Option Bool) → List (List Int) → List (List (S66)) → Int → Int → Option (List Int)
 | 0, _, _, _, _, _, _ => none
 | k + 1, x0, x1, x5, x19, x20, x21 => if x21 < x20 then (if 0 ≤ x21 then (if x21 < (x19.length : Int) then (witness_distances.l1 k x0 x1 x5 x21 x19 x20 x21 (rd_L66 x19 x21) ((rd_L66 x19 x21).length : Int) 0) else (none)) else (none)) else (if 0 ≤ (x0.length : Int) then (if ((x0.length : Int) : Int).toNat ≤ 35184372088832 then (witness_distances.l2 k x1 x5 (List.replicate ((x0.length : Int) : Int).toNat 0) ([] : List Int) (x0.length : Int) 0) else (none)) else (none))
def witness_distances.l1 : Nat → List (List (S66)) → (Int → Option Bool) → List (List Int) → Int → List (List (S66)) → Int → Int → List (S66) → Int → Int → Option (List Int)
 | 0, _, _, _, _, _, _, _, _, _, _ => none
 | k + 1, x0, x1, x5, x6, x19, x20, x21, x26, x27, x28 => if x28 < x27 then (if 0 ≤ x28 then (if x28 < (x26.length : Int) then (if 0 ≤ ((rd_T66 x26 x28).f1) then (if ((rd_T66 x26 x28).f1) < (x5.length : Int) then (if (rd_L3 x5 ((rd_T66 x26 x28).f1)).length < 17592186044416 then (witness_distances.l1 k x0 x1 (x5.set (((rd_T66 x26 x28).f1) : Int).toNat ((rd_L3 x5 ((rd_T66 x26 x28).f1)) ++ [x6])) x6 x19 x20 x21 x26 x27 (wrap64 (x28 + 1))) else (none)) else (none)) else (none)) else (none)) else (none)) else (witness_distances.l0 k x0 x1 x5 x19 x20 (wrap64 (x21 + 1)))
def witness_distances.l2 : Nat → (Int → Option Bool) → List (List Int) → List Int → List Int → Int → Int → Option (List Int)
 | 0, _, _, _, _, _, _ => none
 | k + 1, x1, x5, x10, x11, x50, x51 => if x51 < x50 then (if 0 ≤ x51 then (if x51 < (x10.length : Int) then ((some (x10.set (x51 : Int).toNat (-1) : List Int)).bind fun y115 => ((x1 x51).bind fun t116 => (if t116 = true then (if x11.length < 17592186044416 then (witness_distances.l2 k x1 x5 (y115.set (x51 : Int).toNat 0) (x11 ++ [x51]) x50 (wrap64 (x51 + 1))) else (none)) else (witness_distances.l2 k x1 x5 y115 x11 x50 (wrap64 (x51 + 1)))))) else (none)) else (none)) else (witness_distances.l3 k x5 x10 x11)
def witness_distances.l3 : Nat → List (List Int) → List Int → List Int → Option (List Int)
 | 0, _, _, _ => none
 | k + 1, x5, x10, x11 => if (x11.length : Int) > 0 then (if 0 < (x11.length : Int) then (if 1 ≤ (x11.length : Int) then (if 0 ≤ (rd x11 0) then (if (rd x11 0) < (x5.length : Int) then (witness_distances.l4 k x5 x10 (x11.drop (1 : Int).toNat) (rd x11 0) (rd_L3 x5 (rd x11 0)) ((rd_L3 x5 (rd x11 0)).length : Int) 0) else (none)) else (none)) else (none)) else (none)) else (some x10)
def witness_distances.l4 : Nat → List (List Int) → List Int → List Int → Int → List Int → Int → Int → Option (List Int)
 | 0, _, _, _, _, _, _, _ => none
 | k + 1, x5, x10, x11, x13, x79, x80, x81 => if x81 < x80 then (if 0 ≤ x81 then (if x81 < (x79.length : Int) then (if 0 ≤ (rd x79 x81) then (if (rd x79 x81) < (x10.length : Int) then (if (rd x10 (rd x79 x81)) < 0 then (if 0 ≤ x13 then (if x13 < (x10.length : Int) then (if x11.length < 17592186044416 then (witness_distances.l4 k x5 (x10.set ((rd x79 x81) : Int).toNat (wrap64 ((rd x10 x13) + 1))) (x11 ++ [rd x79 x81]) x13 x79 x80 (wrap64 (x81 + 1))) else (none)) else (none)) else (none)) else (witness_distances.l4 k x5 x10 x11 x13 x79 x80 (wrap64 (x81 + 1)))) else (none)) else (none)) else (none)) else (none)) else (witness_distances.l3 k x5 x10 x11)
end
def witness_distances.f (k : Nat) (l0 : List (List (S66))) (a1 : (Int → Option Bool)) : Option (List Int) := if 0 ≤ (l0.length : Int) then (if ((l0.length : Int) : Int).toNat ≤ 11728124029610 then (witness_distances.l0 k l0 a1 (List.replicate ((l0.length : Int) : Int).toNat []) l0 (l0.length : Int) 0) else (none)) else (none)
def witness_distances.T8 : Bool × List (List Nat × List Nat) := (true, [([], []), ([], []), ([1], [1]), ([], []), ([], []), ([4], [4]), ([3, 5], [3, 5]), ([6], [6]), ([], []), ([8], [8]), ([7, 9], [7, 9]), ([0, 2, 0, 1, 2, 3, 4, 5, 6, 7, 8, 9, 10], [0, 2]), ([11, 10, 10, 0, 1, 2, 3, 4, 5, 6, 7, 8, 9, 10], [10, 11])])
def witness_distances.B8 : List Nat := [0, 0, 2, 0, 0, 16, 56, 120, 0, 256, 1016, 2047, 4095]
theorem witness_distances.tab8 : rtab .any (opsOf Try.f53 8) = witness_distances.T8 := by kernel_rfl
theorem witness_distances.bits8 : waitsOk witness_distances.T8.2 witness_distances.B8 = true := by kernel_rfl
set_option maxHeartbeats 8000000 in
set_option maxRecDepth 100000 in
theorem witness_distances.calls (k : Nat) (A0 : Option Addr) (c0 : Nat) (l0 : List (List (S66))) (a1 : Int → Option Bool) (F1 : Nat) (C1 : Array Value) (r : List Int) (w : World) (hr0 : Kd.C (Kd.slice 66 k66) w A0 l0.length l0) (hc0 : l0.length ≤ c0) (hF1 : FnB Try.prog F1 C1 w a1) (h : witness_distances.f k l0 a1 = some r) :
  Calls Try.prog 53 #[.slice A0 l0.length c0, .func (.func F1) #[] C1] w fun e w' => ∃ v0_ : Value, e = .returned (v0_) ∧ Kd.R (Kd.int .i64) 3 w' w.heap.size (fun _ => True) v0_ r ∧ Below w.heap.size w w' := by
 have hu66 := Try.underlying66
 have HR0 := Aside0.mk hr0
 have HC0 := Aside0.mk hc0
 clear hr0 hc0
 have HF1 := Aside0.mk hF1
 clear hF1
 have HB := Aside0.mk (Below.refl w.heap.size w)
 have H : (if 0 ≤ (l0.length : Int) then (if ((l0.length : Int) : Int).toNat ≤ 11728124029610 then (witness_distances.l0 k l0 a1 (List.replicate ((l0.length : Int) : Int).toNat []) l0 (l0.length : Int) 0) else (none)) else (none)) = some r := h
 clear h
 by_cases c3 : 0 ≤ (l0.length : Int)
 ·rw [if_pos c3] at H
  have c3b0 := eq_true c3
  have c3b1 := decide_eq_true c3
  clear c3
  replace H := tF H
  obtain ⟨c4, H⟩ := H
  have c4b0 := eq_true c4
  have c4b1 := decide_eq_true c4
  clear c4
  obtain ⟨y101, hy101⟩ : ∃ y_ : List (List Int), y_ = (List.replicate ((l0.length : Int) : Int).toNat []) := ⟨_, rfl⟩
  replace H : (witness_distances.l0 k l0 a1 y101 l0 (l0.length : Int) 0) = some r := tQ hy101 H
  have Ny101 := Aside0.mk hy101
  clear hy101
  have H' := Aside0.mk H
  clear H
  go_enter Try.func53, Try.ntmps53
  go_wp2_with (first | ((with_reducible refine gate_dst (N := 18) rfl ?_); refine Kd.S_make (Kd.slice 3 (Kd.int .i64)) _ 28 rfl (N := 18) rfl 22 _ _ rfl (l0.length : Int) rfl rfl Try.underlying22 (.slice none 0 0) 24 info28 rfl (by decide) (by omega) [] (ok := fun _ => True) (okp := fun _ => True) ⟨_, rfl, Kd.R_nil _ _ _ _ _⟩ (fun _ hk => hk) trivial (tD) (Nat.le_trans (Nat.mul_le_mul_right _ (tD : (l0.length : Int).toNat ≤ 11728124029610)) (by omega)) (Below.refl _ _) (Nat.le_refl _) ?_; intro v102 w5 ho6 hb hg_ hnew_; clear hg_ hnew_; (first | rw [← Ny101.out] at ho6 | (simp only [Int.reduceToNat] at ho6; rw [← Ny101.out] at ho6)); have HO103 := Aside0.mk (Kd.S_lower ho6 (below_size (tB))); replace HB := tA HB hb; clear hb ho6))
  go_loopg [21] k (fun kq v21 w' => ∃ (x5_1 : List (List Int)) (x21_1 : Int), v21 = .int .i64 x21_1 ∧ Aside0 (witness_distances.l0 kq l0 a1 x5_1 l0 (l0.length : Int) x21_1 = some r) ∧ Aside0 (kq ≤ k) ∧ Aside0 (Kd.S (Kd.slice 3 (Kd.int .i64)) 28 w' w.heap.size (fun _ => True) v102 x5_1) ∧ Aside0 (Below w.heap.size w w'))
  case atStart => exact ⟨(y101), (0), tU, H', ⟨Nat.le_refl _⟩, ⟨tR HO103⟩, ⟨tB⟩⟩
  case round =>
   clear H'
   (try clear p2); (try clear c3); (try clear c3b0); (try clear c3b1); (try clear c4); (try clear c4b0); (try clear c4b1); (try clear c5)
   obtain ⟨x5_1, x21_1, rfl, HA, HK1, HO_5, HB⟩ := hrel
   cases gk with
   | zero => exact absurd HA.out (by simp [witness_distances.l0])
   | succ k1 =>
    have H := HA.out
    clear HA
    simp only [witness_distances.l0] at H
    by_cases c7 : x21_1 < (l0.length : Int)
    ·rw [if_pos c7] at H
     have c7b0 := decide_eq_true c7
     clear c7
     replace H := tF H
     obtain ⟨c8, H⟩ := H
     have c8b0 := decide_eq_true c8
     clear c8
     replace H := tF H
     obtain ⟨c9, H⟩ := H
     have c9b0 := decide_eq_true c9
     clear c9
     have H' := Aside0.mk H
     clear H
     have p104 : 0 ≤ (x21_1 : Int) := tD
     have q104 : x21_1 < (l0.length : Int) := tD
     obtain ⟨ad104, A104_0, c104_0, e104, hx104_0, hl104_0, hi104_0⟩ := at_L66 HR0.out x21_1 p104 q104
     cases e104
     replace hx104_0 := tH HB hx104_0
     have HR104_0 := Aside0.mk hi104_0
     have HC104_0 := Aside0.mk hl104_0
     clear hi104_0 hl104_0
     replace p104 := eq_true p104
     replace q104 := eq_true q104
     go_wp2
     go_loopg [28] k1 (fun kq v28 w' => ∃ (x5_2 : List (List Int)) (x28_2 : Int), v28 = .int .i64 x28_2 ∧ Aside0 (witness_distances.l1 kq l0 a1 x5_2 x21_1 l0 (l0.length : Int) x21_1 (rd_L66 l0 x21_1) ((rd_L66 l0 x21_1).length : Int) x28_2 = some r) ∧ Aside0 (kq ≤ k1) ∧ Aside0 (Kd.S (Kd.slice 3 (Kd.int .i64)) 28 w' w.heap.size (fun _ => True) v102 x5_2) ∧ Aside0 (Below w.heap.size w w'))
     case atStart => exact ⟨(x5_1), (0), tU, H', ⟨Nat.le_refl _⟩, ⟨tR HO_5⟩, ⟨tB⟩⟩
     case round =>
      clear H'
      (try clear c1); (try clear p1); (try clear q1); (try clear hx1); (try clear p2); (try clear c3); (try clear c3b0); (try clear c3b1); (try clear c4); (try clear c4b0); (try clear c4b1); (try clear c5); (try clear c7); (try clear c7b0); (try clear c8); (try clear c8b0); (try clear c9); (try clear c9b0); (try clear hx104_0); (try clear p104); (try clear q104)
      obtain ⟨x5_2, x28_2, rfl, HA, HK2, HO_5, HB⟩ := hrel
      cases gk with
      | zero => exact absurd HA.out (by simp [witness_distances.l1])
      | succ k2 =>
       have H := HA.out
       clear HA
       simp only [witness_distances.l1] at H
       by_cases c10 : x28_2 < ((rd_L66 l0 x21_1).length : Int)
       ·rw [if_pos c10] at H
        have c10b0 := decide_eq_true c10
        clear c10
        replace H := tF H
        obtain ⟨c11, H⟩ := H
        have c11b0 := decide_eq_true c11
        clear c11
        replace H := tF H
        obtain ⟨c12, H⟩ := H
        have c12b0 := decide_eq_true c12
        clear c12
        replace H := tF H
        obtain ⟨c13, H⟩ := H
        have c13b0 := decide_eq_true c13
        clear c13
        replace H := tF H
        obtain ⟨c14, H⟩ := H
        have c14b0 := decide_eq_true c14
        clear c14
        replace H := tF H
        obtain ⟨c15, H⟩ := H
        have LMc15 := Aside0.mk c15
        clear c15
        obtain ⟨y108, hy108⟩ : ∃ y_ : List Int, y_ = ((rd_L3 x5_2 ((rd_T66 (rd_L66 l0 x21_1) x28_2).f1)) ++ [x21_1]) := ⟨_, rfl⟩
        replace H : (witness_distances.l1 k2 l0 a1 (x5_2.set (((rd_T66 (rd_L66 l0 x21_1) x28_2).f1) : Int).toNat y108) x21_1 l0 (l0.length : Int) x21_1 (rd_L66 l0 x21_1) ((rd_L66 l0 x21_1).length : Int) (wrap64 (x28_2 + 1))) = some r := tQ hy108 H
        have Ny108 := Aside0.mk hy108
        clear hy108
        obtain ⟨y111, hy111⟩ : ∃ y_ : List (List Int), y_ = (x5_2.set (((rd_T66 (rd_L66 l0 x21_1) x28_2).f1) : Int).toNat y108) := ⟨_, rfl⟩
        replace H : (witness_distances.l1 k2 l0 a1 y111 x21_1 l0 (l0.length : Int) x21_1 (rd_L66 l0 x21_1) ((rd_L66 l0 x21_1).length : Int) (wrap64 (x28_2 + 1))) = some r := tQ hy111 H
        have Ny111 := Aside0.mk hy111
        clear hy111
        have H' := Aside0.mk H
        clear H
        have p105 : 0 ≤ (x28_2 : Int) := tD
        have q105 : x28_2 < ((rd_L66 l0 x21_1).length : Int) := tD
        obtain ⟨ad105, e105, hx105_0, hx105_1⟩ := at_T66 HR104_0.out x28_2 p105 q105
        cases e105
        replace hx105_0 := tH HB hx105_0
        replace hx105_1 := tH HB hx105_1
        replace p105 := eq_true p105
        replace q105 := eq_true q105
        try go_wp2_with (first | ((with_reducible refine gate_dst (N := 9) rfl ?_); refine tBx 9 66 #[.int .i64 0, .int .i64 0] ?_; intro gb106 hg w17 hbox hb; replace HO_5 := Aside0.mk (Kd.S_below (tR HO_5) hb); have BK106 := Aside0.mk (hbox); have GW106 := tW HB hg; have GE106 := tW HB hg; replace HB := tA HB hb; clear hb hbox hg; obtain ⟨hcz18_0, hcz18_1, hfz18_0, hfz18_1⟩ := zc2 BK106))
        have n0_ : Aside0 (Kd.S (Kd.slice 3 (Kd.int .i64)) 28 ((w17.setCell ⟨gb106, 0, none⟩ (.int .i64 ((rd_T66 (rd_L66 l0 x21_1) x28_2).f0))).setCell ⟨gb106, 1, none⟩ (.int .i64 ((rd_T66 (rd_L66 l0 x21_1) x28_2).f1))) w.heap.size (fun _ => True) v102 x5_2) := ⟨by (with_reducible repeat (first | apply Kd.S_alloc | apply Kd.S_drewN | apply Kd.S_drew)); exact Kd.S_mono (Kd.S_far (p := ⟨gb106, 1, none⟩) (Kd.S_far (p := ⟨gb106, 0, none⟩) (Kd.S_types HO_5.out BK106.out (by decide)) (fun _ hk => hk.2) (.int .i64 ((rd_T66 (rd_L66 l0 x21_1) x28_2).f0))) (fun _ hk => hk.2) (.int .i64 ((rd_T66 (rd_L66 l0 x21_1) x28_2).f1))) (fun _ hk => trivial)⟩
        have n1_ : Aside0 (((w17.setCell ⟨gb106, 0, none⟩ (.int .i64 ((rd_T66 (rd_L66 l0 x21_1) x28_2).f0))).setCell ⟨gb106, 1, none⟩ (.int .i64 ((rd_T66 (rd_L66 l0 x21_1) x28_2).f1))).heap[gb106]? = some (.cells #[.int .i64 ((rd_T66 (rd_L66 l0 x21_1) x28_2).f0), .int .i64 ((rd_T66 (rd_L66 l0 x21_1) x28_2).f1)] 66 (0, 0))) := ⟨by (with_reducible repeat (first | refine blk_drewN ?_ _ | refine blk_drew ?_ | refine blk_alloc ?_ _)); refine blk_put (cs := #[.int .i64 ((rd_T66 (rd_L66 l0 x21_1) x28_2).f0), .int .i64 0]) ?_ 1 _ rfl; (with_reducible repeat (first | refine blk_drewN ?_ _ | refine blk_drew ?_ | refine blk_alloc ?_ _)); refine blk_put (cs := #[.int .i64 0, .int .i64 0]) ?_ 0 _ rfl; (with_reducible repeat (first | refine blk_drewN ?_ _ | refine blk_drew ?_ | refine blk_alloc ?_ _)); exact BK106.out⟩
        have n2_ : Aside0 (Below w.heap.size w ((w17.setCell ⟨gb106, 0, none⟩ (.int .i64 ((rd_T66 (rd_L66 l0 x21_1) x28_2).f0))).setCell ⟨gb106, 1, none⟩ (.int .i64 ((rd_T66 (rd_L66 l0 x21_1) x28_2).f1)))) := ⟨tB⟩
        (try clear HO_5)
        (try clear BK106)
        (try clear HB)
        generalize ((w17.setCell ⟨gb106, 0, none⟩ (.int .i64 ((rd_T66 (rd_L66 l0 x21_1) x28_2).f0))).setCell ⟨gb106, 1, none⟩ (.int .i64 ((rd_T66 (rd_L66 l0 x21_1) x28_2).f1))) = w19 at n0_ n1_ n2_ ⊢
        have HO_5 := n0_
        have BK106 := n1_
        have HB := n2_
        clear n0_ n1_ n2_
        replace HO_5 := Aside0.mk (Kd.S_drew HO_5.out)
        replace BK106 := Aside0.mk (blk_drew BK106.out)
        replace HB := Aside0.mk (below_drew1 HB.out)
        obtain ⟨Ao21, co21, eo21⟩ := Kd.S_slice HO_5.out
        (first | subst eo21 | (injection eo21 with f1_ f2_ f3_; have f4_ := f1_.symm; have f5_ := f3_.symm; clear f1_ f2_ f3_; subst f4_; subst f5_))
        have p107 : 0 ≤ (((rd_T66 (rd_L66 l0 x21_1) x28_2).f1) : Int) := tD
        have q107 : ((rd_T66 (rd_L66 l0 x21_1) x28_2).f1) < (x5_2.length : Int) := tD
        obtain ⟨ad107, A107_0, c107_0, e107, hx107_0, hl107_0, hi107_0⟩ := at_L3 (Kd.S_reads' HO_5.out).2.2 ((rd_T66 (rd_L66 l0 x21_1) x28_2).f1) p107 q107
        cases e107
        obtain ⟨ce107, hce107, hMe107, hcc107⟩ := Kd.S_get HO_5.out [] ((rd_T66 (rd_L66 l0 x21_1) x28_2).f1) p107 (by first | exact q107 | exact tD | (have e_ := (Kd.S_reads' HO_5.out).1; omega))
        obtain ⟨ve107_0, rfl, ge107_0⟩ := hMe107
        have hv107_0 := hcc107 0 _ rfl
        rw [Nat.add_zero, show ((Kd.slice 3 (Kd.int .i64))).sz = 1 from rfl, Nat.mul_one] at hv107_0
        replace hv107_0 := Option.some.inj (hv107_0.symm.trans hx107_0)
        rw [hv107_0] at ge107_0
        have HL107_0 := Aside0.mk (show Kd.R (Kd.int .i64) 3 _ _ _ _ (rd_L3 x5_2 ((rd_T66 (rd_L66 l0 x21_1) x28_2).f1)) from ge107_0)
        clear hv107_0 ge107_0
        have HX107_0 := Aside0.mk hx107_0
        clear hcc107 hce107
        have HR107_0 := Aside0.mk hi107_0
        have HC107_0 := Aside0.mk hl107_0
        clear hi107_0 hl107_0
        replace p107 := eq_true p107
        replace q107 := eq_true q107
        obtain ⟨go22, co22, eo22, gb22, gl22, cl22, HG22⟩ := Kd.S_form HO_5.out (by have h_ : (((rd_T66 (rd_L66 l0 x21_1) x28_2).f1) : Int) < ((x5_2.length : Int) : Int) := tD; have h2_ : 0 ≤ (((rd_T66 (rd_L66 l0 x21_1) x28_2).f1) : Int) := (tD); omega)
        (first | cases eo22 | (injection eo22 with ea_ en_ ec_; (first | subst ea_ | (injection ea_ with ea_; subst ea_)); subst ec_; clear en_))
        have GB22 := Aside0.mk gb22
        have GG22 := Aside0.mk HG22
        clear gb22 gl22 HG22
        (first | simp only [add_plain] at hx107_0 | skip)
        obtain ⟨oki22, ce22, hcl22, hM22, hcc22, _, _, hH22⟩ := Kd.S_elem HO_5.out [] (((rd_T66 (rd_L66 l0 x21_1) x28_2).f1) : Int) (tD) (by have h_ : (((rd_T66 (rd_L66 l0 x21_1) x28_2).f1) : Int) < ((x5_2.length : Int) : Int) := tD; first | exact h_ | (have e_ := (Kd.S_reads' HO_5.out).1; omega) | simpa using h_)
        obtain ⟨ve22_0, rfl, ge22_0⟩ := hM22
        have hv22 := hcc22 0 _ rfl
        have hX22 := HX107_0.out
        (try simp only [add_plain] at hX22)
        (try simp only [Nat.add_zero] at hv22)
        (try rw [show ((Kd.slice 3 (Kd.int .i64))).sz = 1 from rfl, Nat.mul_one] at hv22)
        replace hv22 := Option.some.inj (hv22.symm.trans hX22)
        subst hv22
        clear hX22 hcc22 hcl22
        have UU22 := Aside0.mk (show Kd.R (Kd.int .i64) 3 _ w.heap.size oki22 (.slice A107_0 (rd_L3 x5_2 ((rd_T66 (rd_L66 l0 x21_1) x28_2).f1)).length c107_0) (rd_L3 x5_2 ((rd_T66 (rd_L66 l0 x21_1) x28_2).f1)) from ge22_0)
        have HH22 := Aside0.mk hH22
        have HN22 := Aside0.mk (Kd.S_reads' HO_5.out).1
        clear hH22 ge22_0
        refine sS3 13 [12] rfl witness_distances.tab8 witness_distances.bits8 ⟨tz BK106 0, tz BK106 1, hx107_0⟩ (fun hHeld HT_ HW_ => ?_)
        generalize w19.drew = w20 at HO_5 BK106 HB GG22 HH22 HL107_0 HR107_0 HX107_0 UU22 hx107_0 hHeld ⊢
        refine sP 0 32 HT_ rfl rfl ?_
        refine sP 1 33 HT_ rfl rfl ?_
        refine sP 3 35 HT_ rfl rfl ?_
        refine sP 4 36 HT_ rfl rfl ?_
        refine sP 8 40 HT_ rfl rfl ?_
        refine sT 2 34 HT_ HW_ rfl rfl hHeld ?_
        refine sT 5 37 HT_ HW_ rfl rfl hHeld ?_
        refine sP 6 38 HT_ rfl rfl ?_
        refine sT 7 39 HT_ HW_ rfl rfl hHeld ?_
        refine sO 9 (some 41) HT_ rfl rfl (fun K hK => ?_)
        refine value_ (w1 := ?_) (v := ?_) (by rfl) rfl ?_ ?_
        rotate_left 2
        ·go_simp
         constructor
         ·rfl
         ·rfl
        refine hK.out _ _ ⟨(blk_cell (blk_alloc BK106.out _) 0).trans rfl, (blk_cell (blk_alloc BK106.out _) 1).trans rfl, (World.cell?_alloc_lt _ _ _ (World.block_lt_of_cell? _ _ (hHeld.2.2))).trans (hHeld.2.2)⟩ (fun hHeld => ?_)
        clear hK K
        refine sN 41 ?_
        refine sO 10 (some 42) HT_ rfl rfl (fun K hK => ?_)
        refine Kd.R_append_step (Kd.int .i64) (w0 := w) w.heap.size (by rfl) (.tmp 39) (.tmp 41) 28 3 (.int .i64 0) 8 rfl Try.underlying28 info3 rfl (by decide) (by omega) (.slice A107_0 (rd_L3 x5_2 ((rd_T66 (rd_L66 l0 x21_1) x28_2).f1)).length c107_0) (rd_L3 x5_2 ((rd_T66 (rd_L66 l0 x21_1) x28_2).f1)) x21_1 [.int .i64 x21_1] (fun k_ => oki22 k_ ∨ ((fun _ => True)) k_ ∧ w20.heap.size ≤ k_) (fun _ => False) rfl rfl ?aP (fun _ hk => hk.elim) ?aF ?aO ?aB ?aS ?aL ?_
        (case aP => exact rfl)
        (case aB => exact (tB))
        (case aF => exact (fun k_ hk => .inr ⟨trivial, hk⟩))
        (case aO => exact (by (with_reducible repeat (first | apply Kd.R_alloc | apply Kd.R_drewN | apply Kd.R_drew)); exact Kd.R_mono UU22.out (fun _ hk => .inl hk)))
        (case aS => exact (below_size (tB)))
        (case aL => have := LMc15.out; omega)
        intro v109 w23 ho hb hg hat
        (first | have HS2_ := cell_grown hg (hHeld.2.2) (by first | (rw [add_block]; exact (fun e_ => ((HL107_0.out.1 _ e_.symm).2) rfl)) | (show some (Addr.add _ _).block ≠ _; rw [add_block]; exact (fun e_ => ((HL107_0.out.1 _ e_.symm).2) rfl)) | exact (fun e_ => ((HL107_0.out.1 _ e_.symm).2) rfl)) | have HS2_ := cell_grown hg (cell_unalloc (hHeld.2.2) (by first | (rw [add_block]; exact Kd.S_lt HO_5.out _ rfl) | (show (Addr.add _ _).block < _; rw [add_block]; exact Kd.S_lt HO_5.out _ rfl) | exact Kd.S_lt HO_5.out _ rfl)) (by first | (rw [add_block]; exact (fun e_ => ((HL107_0.out.1 _ e_.symm).2) rfl)) | (show some (Addr.add _ _).block ≠ _; rw [add_block]; exact (fun e_ => ((HL107_0.out.1 _ e_.symm).2) rfl)) | exact (fun e_ => ((HL107_0.out.1 _ e_.symm).2) rfl)))
        rw [← Ny108.out] at ho
        replace BK106 := Aside0.mk (blk_grown (g := gb106) (o := .cells #[.int .i64 ((rd_T66 (rd_L66 l0 x21_1) x28_2).f0), .int .i64 ((rd_T66 (rd_L66 l0 x21_1) x28_2).f1)] 66 (0, 0)) (tK BK106) hg (Kd.R_ne HL107_0.out BK106.out (by decide)))
        replace HB := Aside0.mk (hb)
        replace HH22 := Aside0.mk (Kd.H_grown (Kd.H_widen (by repeat (first | exact HH22.out | refine Kd.H_alloc ?_ _ | refine Kd.H_drewN ?_ _ | refine Kd.H_drew ?_))) hg (fun k_ e_ => .inl (UU22.out.1 k_ e_)))
        have HO110 := Aside0.mk (ho)
        clear HL107_0 HO_5 UU22
        clear ho hb hg hat
        have p16 : 0 ≤ (((rd_T66 (rd_L66 l0 x21_1) x28_2).f1) : Int) := tD
        have q16 : (((rd_T66 (rd_L66 l0 x21_1) x28_2).f1) : Int) < ((x5_2.length : Int) : Int) := tD
        replace p16 := eq_true p16
        replace q16 := eq_true q16
        obtain ⟨Ao26, co26, eo26⟩ := Kd.R_slice HO110.out
        (first | subst eo26 | (injection eo26 with f1_ f2_ f3_; have f4_ := f1_.symm; have f5_ := f3_.symm; clear f1_ f2_ f3_; subst f4_; subst f5_))
        obtain ⟨_, _, hraw24, _, _, hcc24, _⟩ := Kd.H_raw HH22.out (tD) (by have h_ : (((rd_T66 (rd_L66 l0 x21_1) x28_2).f1) : Int) < ((x5_2.length : Int) : Int) := tD; first | exact h_ | (have e_ := (HN22.out); omega) | simpa using h_)
        obtain ⟨_, hfr24⟩ := Kd.H_at HH22.out (tD) (by have h_ : (((rd_T66 (rd_L66 l0 x21_1) x28_2).f1) : Int) < ((x5_2.length : Int) : Int) := tD; first | exact h_ | (have e_ := (HN22.out); omega) | simpa using h_)
        have hx24_0 := hcc24 0 _ rfl
        have hf24_0 := hfr24 0
        (try simp only [Nat.add_zero] at hx24_0 hf24_0)
        (try rw [show ((Kd.slice 3 (Kd.int .i64))).sz = 1 from rfl, Nat.mul_one] at hx24_0)
        (try rw [show ((Kd.slice 3 (Kd.int .i64))).sz = 1 from rfl, Nat.mul_one] at hf24_0)
        have HP24 := Kd.S_seg0 HH22.out (tD) (by have h_ : (((rd_T66 (rd_L66 l0 x21_1) x28_2).f1) : Int) < ((x5_2.length : Int) : Int) := tD; first | exact h_ | (have e_ := (HN22.out); omega) | simpa using h_) (seg := [.slice Ao26 y108.length co26]) (j := 0) (show 1 ≤ 1 from by decide) (x' := y108) (Kd.M_row HO110.out) (fun _ hk => hk)
        (try simp only [show ((Kd.slice 3 (Kd.int .i64))).sz = 1 from rfl, Nat.mul_one, Nat.add_zero] at HP24)
        clear hcc24 hfr24
        have HNB106_go22 := Aside0.mk (show gb106 ≠ go22 from by have h_ := Kd.R_ne hraw24 BK106.out (by decide); intro e_; exact h_ (by rw [e_]; rfl))
        have HS24 := HP24.1
        rw [← Ny111.out] at HS24
        have HQ24 := Aside0.mk HS24
        obtain ⟨_, hgg24⟩ := Kd.R_typed hraw24 go22 rfl
        have GG24_ := Aside0.mk hgg24
        clear HP24 HS24 hgg24
        refine hK.out _ _ ⟨tz BK106 0, tz BK106 1, HS2_⟩ (fun hHeld => ?_)
        clear hK K
        refine sN 42 ?_
        refine sP 11 43 HT_ rfl rfl ?_
        refine sL 12 none HT_ rfl rfl (fun K hK => ?_)
        refine skip_ (w1 := ?_) (by rfl) rfl ?_ ?_
        rotate_left
        ·go_simp
         rfl
        refine hK.out _ _ ?_
        clear hK K
        refine sD HT_ ?_
        try go_wp2
        go_roundg k2
        case measure => have := HK1.out; have := HK2.out; omega
        case rel => exact ⟨(y111), (wrap64 (x28_2 + 1)), tU, H', ⟨by have := HK1.out; have := HK2.out; omega⟩, ⟨tR HQ24⟩, ⟨by repeat (first | (with_reducible first | exact HB.out | apply below_alloc | apply pw_below_drewN | apply below_drew1 | refine below_set ?_ GB22.out | refine below_set ?_ GE106.out) | exact HB.out)⟩⟩
       rw [if_neg c10] at H
       have c10b0 := decide_eq_false c10
       clear c10
       have H' := Aside0.mk H
       clear H
       go_wp2
       go_roundg k2
       case measure => have := HK1.out; have := HK2.out; omega
       case rel => exact ⟨(x5_2), (wrap64 (x21_1 + 1)), tU, H', ⟨by have := HK1.out; have := HK2.out; omega⟩, ⟨tR HO_5⟩, ⟨tB⟩⟩
    rw [if_neg c7] at H
    have c7b0 := decide_eq_false c7
    clear c7
    replace H := tF H
    obtain ⟨c27, H⟩ := H
    have c27b0 := eq_true c27
    have c27b1 := decide_eq_true c27
    clear c27
    replace H := tF H
    obtain ⟨c28, H⟩ := H
    have c28b0 := eq_true c28
    have c28b1 := decide_eq_true c28
    clear c28
    obtain ⟨y112, hy112⟩ : ∃ y_ : List Int, y_ = (List.replicate ((l0.length : Int) : Int).toNat 0) := ⟨_, rfl⟩
    replace H : (witness_distances.l2 k1 a1 x5_1 y112 ([] : List Int) (l0.length : Int) 0) = some r := tQ hy112 H
    have Ny112 := Aside0.mk hy112
    clear hy112
    have H' := Aside0.mk H
    clear H
    go_wp2_with (first | ((with_reducible refine gate_dst (N := 48) rfl ?_); refine Kd.R_make (Kd.int .i64) _ 3 rfl (N := 48) rfl 28 _ _ rfl (l0.length : Int) rfl rfl Try.underlying28 (.int .i64 0) 8 info3 rfl (by decide) (by omega) 0 (ok := fun _ => True) (okp := fun _ => True) rfl (fun _ hk => hk) trivial (tD) (Nat.le_trans (Nat.mul_le_mul_right _ (tD : (l0.length : Int).toNat ≤ 35184372088832)) (by omega)) (Below.refl _ _) (Nat.le_refl _) ?_; intro v113 w29 ho30 hb hg_ hnew_; clear hg_ hnew_; (first | rw [← Ny112.out] at ho30 | (simp only [Int.reduceToNat] at ho30; rw [← Ny112.out] at ho30)); replace HO_5 := Aside0.mk (Kd.S_elder' (tR HO_5) (Kd.R_base ho30) hb); have HO114 := Aside0.mk (Kd.R_lower ho30 (below_size (tB))); replace HB := tA HB hb; clear hb ho30))
    go_loopg [11, 51] k1 (fun kq v11 v51 w' => ∃ (x10_2 : List Int) (x11_2 : List Int) (x51_2 : Int), v51 = .int .i64 x51_2 ∧ Aside0 (witness_distances.l2 kq a1 x5_1 x10_2 x11_2 (l0.length : Int) x51_2 = some r) ∧ Aside0 (kq ≤ k1) ∧ Aside0 (Kd.S (Kd.slice 3 (Kd.int .i64)) 28 w' w.heap.size (fun k_ => some k_ ≠ (v113 : Value).ownBlock ∧ some k_ ≠ (v11 : Value).ownBlock) v102 x5_1) ∧ Aside0 (Kd.R (Kd.int .i64) 3 w' w.heap.size (fun k_ => some k_ ≠ (v11 : Value).ownBlock) v113 x10_2) ∧ Aside0 (Kd.Q (Kd.int .i64) 3 w' w.heap.size (fun k_ => some k_ ≠ (v113 : Value).ownBlock) v11 x11_2) ∧ Aside0 (Below w.heap.size w w'))
    case atStart => exact ⟨(y112), (([] : List Int)), (0), tU, H', ⟨Nat.le_refl _⟩, ⟨by (with_reducible repeat (first | apply Kd.S_alloc | apply Kd.S_drewN | apply Kd.S_drew)); exact Kd.S_mono HO_5.out (fun _ hk => ⟨hk.2, (by simp [Value.ownBlock])⟩)⟩, ⟨by (with_reducible repeat (first | apply Kd.R_alloc | apply Kd.R_drewN | apply Kd.R_drew)); exact Kd.R_mono HO114.out (fun _ hk => (by simp [Value.ownBlock]))⟩, ⟨Kd.Q_of_R (by first | exact Kd.R_nil _ _ _ _ _ | exact Kd.N_nil _ _ _ _ _ | exact Kd.V_nil _ _ _ _ _ | exact Kd.Q_nil _ _ _ _ _ | exact Kd.S_nil _ _ _ _ _)⟩, ⟨tB⟩⟩
    case round =>
     clear H'
     (try clear c1); (try clear p1); (try clear q1); (try clear hx1); (try clear c2); (try clear p2); (try clear hx2); (try clear hf2); (try clear c3); (try clear c3b0); (try clear c3b1); (try clear c4); (try clear c4b0); (try clear c4b1); (try clear c5); (try clear p6); (try clear c7); (try clear c7b0); (try clear c8); (try clear c8b0); (try clear c9); (try clear c9b0); (try clear c10); (try clear c10b0); (try clear p10); (try clear q10); (try clear hx10); (try clear c11); (try clear c11b0); (try clear c12); (try clear c12b0); (try clear c13); (try clear c13b0); (try clear c14); (try clear c14b0); (try clear c15); (try clear p16); (try clear q16); (try clear c22); (try clear c24); (try clear hx24); (try clear hf24); (try clear c27); (try clear c27b0); (try clear c27b1); (try clear c28); (try clear c28b0); (try clear c28b1); (try clear hcz18_0 hcz18_1 hfz18_0 hfz18_1); (try clear hx104_0); (try clear hx105_0); (try clear hx105_1); (try clear hx107_0); (try clear hx24_0); (try clear p104); (try clear p105); (try clear p107); (try clear q104); (try clear q105); (try clear q107)
     obtain ⟨x10_2, x11_2, x51_2, rfl, HA, HK2, HO_5, HO_10, HO_11, HB⟩ := hrel
     cases gk with
     | zero => exact absurd HA.out (by simp [witness_distances.l2])
     | succ k2 =>
      have H := HA.out
      clear HA
      simp only [witness_distances.l2] at H
      by_cases c31 : x51_2 < (l0.length : Int)
      ·rw [if_pos c31] at H
       have c31b0 := decide_eq_true c31
       clear c31
       replace H := tF H
       obtain ⟨c32, H⟩ := H
       have c32b0 := decide_eq_true c32
       clear c32
       replace H := tF H
       obtain ⟨c33, H⟩ := H
       have c33b0 := decide_eq_true c33
       clear c33
       obtain ⟨y115, hy115⟩ : ∃ y_ : List Int, y_ = (x10_2.set (x51_2 : Int).toNat (-1)) := ⟨_, rfl⟩
       replace H : ((a1 x51_2).bind fun t116 => (if t116 = true then (if x11_2.length < 17592186044416 then (witness_distances.l2 k2 a1 x5_1 (y115.set (x51_2 : Int).toNat 0) (x11_2 ++ [x51_2]) (l0.length : Int) (wrap64 (x51_2 + 1))) else (none)) else (witness_distances.l2 k2 a1 x5_1 y115 x11_2 (l0.length : Int) (wrap64 (x51_2 + 1))))) = some r := tQ hy115 H
       have Ny115 := Aside0.mk hy115
       clear hy115
       replace H := Option.bind_eq_some_iff.mp H
       obtain ⟨t116, A350, H⟩ := H
       (try dsimp only at H)
       have A35 := Aside0.mk A350
       clear A350
       by_cases c36 : t116 = true
       ·subst c36
        rw [if_pos rfl] at H
        obtain ⟨y117, hy117⟩ : ∃ y_ : List Int, y_ = (y115.set (x51_2 : Int).toNat 0) := ⟨_, rfl⟩
        replace H : (if x11_2.length < 17592186044416 then (witness_distances.l2 k2 a1 x5_1 y117 (x11_2 ++ [x51_2]) (l0.length : Int) (wrap64 (x51_2 + 1))) else (none)) = some r := tQ hy117 H
        have Ny117 := Aside0.mk hy117
        clear hy117
        replace H := tF H
        obtain ⟨c38, H⟩ := H
        have LMc38 := Aside0.mk c38
        clear c38
        obtain ⟨y118, hy118⟩ : ∃ y_ : List Int, y_ = (x11_2 ++ [x51_2]) := ⟨_, rfl⟩
        replace H : (witness_distances.l2 k2 a1 x5_1 y117 y118 (l0.length : Int) (wrap64 (x51_2 + 1))) = some r := tQ hy118 H
        have Ny118 := Aside0.mk hy118
        clear hy118
        have H' := Aside0.mk H
        clear H
        have p34 : 0 ≤ (x51_2 : Int) := tD
        have q34 : (x51_2 : Int) < ((x10_2.length : Int) : Int) := tD
        obtain ⟨go34, co34, eo34, gb34, gl34, cl34, HG34⟩ := Kd.R_form HO_10.out (by omega)
        (first | cases eo34 | (injection eo34 with ea_ en_ ec_; (first | subst ea_ | (injection ea_ with ea_; subst ea_)); subst ec_; clear en_))
        have GB34 := Aside0.mk gb34
        have GG34 := Aside0.mk HG34
        clear gb34 gl34 HG34
        obtain ⟨hx34_0, hf34_0⟩ := Kd.R_celln 0 HO_10.out (x51_2 : Int) p34 q34
        replace p34 := eq_true p34
        replace q34 := eq_true q34
        have HP39 := Kd.R_putg HO_10.out (x51_2 : Int) (-1)
        go_wp2_with (first | ((with_reducible refine gate_store (t := 3) (p := 56) rfl ?_); refine store_event (t := 3) (p := 56) (v := ?vo_w40) (w1 := (wr.setCell ⟨go34, (x51_2 : Int).toNat, none⟩ (.int .i64 (-1)))) ?hg ?ho ?hn ?hr ?_; (case ho => rfl); (case hg => rfl); (case hn => rfl); (case hr => first | (go_simp; done) | (go_simp; rfl)); intro w40 hw; have hg : wr.grownBy w40 (some go34) := (by rw [hw]; exact HP39.2); have hp_ : Kd.R (Kd.int .i64) 3 w40 w.heap.size (fun k_ => some k_ ≠ (u11 : Value).ownBlock) (.slice (some ⟨go34, 0, none⟩) x10_2.length co34) y115 := (by rw [hw, Ny115.out]; exact HP39.1); clear HP39; replace HO_5 := Aside0.mk (Kd.S_after (v := (.slice (some ⟨go34, 0, none⟩) x10_2.length co34)) (v1 := (.slice (some ⟨go34, 0, none⟩) x10_2.length co34)) (ok := (fun k_ => some k_ ≠ (u11 : Value).ownBlock)) (by (with_reducible repeat (first | apply Kd.S_alloc | apply Kd.S_drewN | apply Kd.S_drew)); exact Kd.S_mono HO_5.out (fun _ hk => ⟨hk.2, hk.1⟩)) hg (.inl rfl)); replace HO_10 := Aside0.mk (hp_); replace HO_11 := Aside0.mk (Kd.Q_after (v := (.slice (some ⟨go34, 0, none⟩) x10_2.length co34)) (v1 := (.slice (some ⟨go34, 0, none⟩) x10_2.length co34)) (ok := (fun _ => True)) (by (with_reducible repeat (first | apply Kd.Q_alloc | apply Kd.Q_drewN | apply Kd.Q_drew)); exact Kd.Q_mono HO_11.out (fun _ hk => ⟨trivial, hk⟩)) hg (.inl rfl)); replace HB := Aside0.mk ((by rw [hw]; exact below_set (HB.out) GB34.out : Below w.heap.size w w40)); clear hg hw hp_) | ((with_reducible refine gate_fnv rfl ?_); refine fnL_ (some 59) rfl rfl rfl rfl HF1.out.has #[.int .i64 x51_2] (by (try simp only [List.map_toArray, List.map_cons, List.map_nil]); first | done | rfl) ?_; (with_reducible refine (HF1.out.run x51_2 true _ tB A35.out).mono ?_); rintro e w41 ⟨rfl, hb⟩; refine ⟨_, rfl, ?_⟩; replace HO_5 := Aside0.mk (Kd.S_below (tR HO_5) hb); replace HO_10 := Aside0.mk (Kd.R_below (tR HO_10) hb); replace HO_11 := Aside0.mk (Kd.Q_below (tR HO_11) hb); replace HB := tA HB hb; (try clear hb); (try clear hb2); (try clear hk); (try clear hi); have p37 : 0 ≤ (x51_2 : Int) := tD; have q37 : (x51_2 : Int) < ((x10_2.length : Int) : Int) := tD; obtain ⟨hx37_0, hf37_0⟩ := Kd.R_celln 0 HO_10.out (x51_2 : Int) p37 q37; replace p37 := eq_true p37; replace q37 := eq_true q37; obtain ⟨hy42_, hz42_⟩ := Kd.R_celln 0 HO_10.out (x51_2 : Int) (tD) (tD); have HP42 := Kd.R_putg HO_10.out (x51_2 : Int) 0) | ((with_reducible refine gate_store (t := 3) (p := 62) rfl ?_); refine store_event (t := 3) (p := 62) (v := ?vo_w43) (w1 := (w41.setCell ⟨go34, (x51_2 : Int).toNat, none⟩ (.int .i64 0))) ?hg ?ho ?hn ?hr ?_; (case ho => rfl); (case hg => rfl); (case hn => rfl); (case hr => first | (go_simp; done) | (go_simp; rfl)); intro w43 hw; have hg : w41.grownBy w43 (some go34) := (by rw [hw]; exact HP42.2); have hp_ : Kd.R (Kd.int .i64) 3 w43 w.heap.size (fun k_ => some k_ ≠ (u11 : Value).ownBlock) (.slice (some ⟨go34, 0, none⟩) x10_2.length co34) y117 := (by rw [hw, Ny117.out]; exact HP42.1); clear HP42; replace HO_5 := Aside0.mk (Kd.S_after (v := (.slice (some ⟨go34, 0, none⟩) x10_2.length co34)) (v1 := (.slice (some ⟨go34, 0, none⟩) x10_2.length co34)) (ok := (fun k_ => some k_ ≠ (u11 : Value).ownBlock)) (tR HO_5) hg (.inl rfl)); replace HO_10 := Aside0.mk (hp_); replace HO_11 := Aside0.mk (Kd.Q_after (v := (.slice (some ⟨go34, 0, none⟩) x10_2.length co34)) (v1 := (.slice (some ⟨go34, 0, none⟩) x10_2.length co34)) (ok := (fun _ => True)) (tR HO_11) hg (.inl rfl)); replace HB := Aside0.mk ((by rw [hw]; exact below_set (HB.out) GB34.out : Below w.heap.size w w43)); clear hg hw hp_) | ((with_reducible refine gate_builtin (b := .append) (xs := #[.tmp 63, .tmp 65]) rfl ?_); at_builtin; refine Kd.Q_append (Kd.int .i64) (w0 := w) w.heap.size rfl (.tmp 63) (.tmp 65) 28 3 (.int .i64 0) 8 rfl Try.underlying28 info3 rfl (by decide) (by omega) u11 x11_2 x51_2 [.int .i64 x51_2] (fun k_ => some k_ ≠ (.slice (some ⟨go34, 0, none⟩) x10_2.length co34 : Value).ownBlock) (fun _ => False) rfl rfl ?aP (fun _ hk => hk.elim) ?aF ?aO ?aB ?aS ?aL ?_; (case aP => exact rfl); (case aB => exact (tB)); (case aF => exact (fun k_ hk => Kd.fresh' (Kd.R_lt (tR HO_10)) k_ hk)); (case aO => exact (by (with_reducible repeat (first | apply Kd.Q_alloc | apply Kd.Q_drewN | apply Kd.Q_drew)); exact Kd.Q_mono HO_11.out (fun _ hk => hk.2))); (case aS => exact (below_size (tB))); (case aL => have := LMc38.out; omega); intro v119 w44 ho hb hg hat; rw [← Ny118.out] at ho; replace HO_5 := Aside0.mk (Kd.S_after (ok := (fun k_ => some k_ ≠ (.slice (some ⟨go34, 0, none⟩) x10_2.length co34 : Value).ownBlock)) (by (with_reducible repeat (first | apply Kd.S_alloc | apply Kd.S_drewN | apply Kd.S_drew)); exact Kd.S_mono HO_5.out (fun _ hk => ⟨hk.2, hk.1⟩)) hg hat); replace HO_10 := Aside0.mk (Kd.R_after (ok := (fun _ => True)) (by (with_reducible repeat (first | apply Kd.R_alloc | apply Kd.R_drewN | apply Kd.R_drew)); exact Kd.R_mono HO_10.out (fun _ hk => ⟨trivial, hk⟩)) hg hat); replace HB := Aside0.mk (hb); have HO120 := Aside0.mk (ho); clear HO_11; clear ho hb hg hat))
        go_roundg k2
        case measure => have := HK1.out; have := HK2.out; omega
        case rel => exact ⟨(y117), (y118), (wrap64 (x51_2 + 1)), tU, H', ⟨by have := HK1.out; have := HK2.out; omega⟩, ⟨tR HO_5⟩, ⟨by (with_reducible repeat (first | apply Kd.R_alloc | apply Kd.R_drewN | apply Kd.R_drew)); exact Kd.R_mono HO_10.out (fun _ hk => hk.2)⟩, ⟨tR HO120⟩, ⟨tB⟩⟩
       replace c36 := Bool.eq_false_iff.mpr c36
       subst c36
       rw [if_neg (show ¬ (false = true) by decide)] at H
       have H' := Aside0.mk H
       clear H
       have p34 : 0 ≤ (x51_2 : Int) := tD
       have q34 : (x51_2 : Int) < ((x10_2.length : Int) : Int) := tD
       obtain ⟨go34, co34, eo34, gb34, gl34, cl34, HG34⟩ := Kd.R_form HO_10.out (by omega)
       (first | cases eo34 | (injection eo34 with ea_ en_ ec_; (first | subst ea_ | (injection ea_ with ea_; subst ea_)); subst ec_; clear en_))
       have GB34 := Aside0.mk gb34
       have GG34 := Aside0.mk HG34
       clear gb34 gl34 HG34
       obtain ⟨hx34_0, hf34_0⟩ := Kd.R_celln 0 HO_10.out (x51_2 : Int) p34 q34
       replace p34 := eq_true p34
       replace q34 := eq_true q34
       have HP45 := Kd.R_putg HO_10.out (x51_2 : Int) (-1)
       go_wp2_with (first | ((with_reducible refine gate_store (t := 3) (p := 56) rfl ?_); refine store_event (t := 3) (p := 56) (v := ?vo_w46) (w1 := (wr.setCell ⟨go34, (x51_2 : Int).toNat, none⟩ (.int .i64 (-1)))) ?hg ?ho ?hn ?hr ?_; (case ho => rfl); (case hg => rfl); (case hn => rfl); (case hr => first | (go_simp; done) | (go_simp; rfl)); intro w46 hw; have hg : wr.grownBy w46 (some go34) := (by rw [hw]; exact HP45.2); have hp_ : Kd.R (Kd.int .i64) 3 w46 w.heap.size (fun k_ => some k_ ≠ (u11 : Value).ownBlock) (.slice (some ⟨go34, 0, none⟩) x10_2.length co34) y115 := (by rw [hw, Ny115.out]; exact HP45.1); clear HP45; replace HO_5 := Aside0.mk (Kd.S_after (v := (.slice (some ⟨go34, 0, none⟩) x10_2.length co34)) (v1 := (.slice (some ⟨go34, 0, none⟩) x10_2.length co34)) (ok := (fun k_ => some k_ ≠ (u11 : Value).ownBlock)) (by (with_reducible repeat (first | apply Kd.S_alloc | apply Kd.S_drewN | apply Kd.S_drew)); exact Kd.S_mono HO_5.out (fun _ hk => ⟨hk.2, hk.1⟩)) hg (.inl rfl)); replace HO_10 := Aside0.mk (hp_); replace HO_11 := Aside0.mk (Kd.Q_after (v := (.slice (some ⟨go34, 0, none⟩) x10_2.length co34)) (v1 := (.slice (some ⟨go34, 0, none⟩) x10_2.length co34)) (ok := (fun _ => True)) (by (with_reducible repeat (first | apply Kd.Q_alloc | apply Kd.Q_drewN | apply Kd.Q_drew)); exact Kd.Q_mono HO_11.out (fun _ hk => ⟨trivial, hk⟩)) hg (.inl rfl)); replace HB := Aside0.mk ((by rw [hw]; exact below_set (HB.out) GB34.out : Below w.heap.size w w46)); clear hg hw hp_) | ((with_reducible refine gate_fnv rfl ?_); refine fnL_ (some 59) rfl rfl rfl rfl HF1.out.has #[.int .i64 x51_2] (by (try simp only [List.map_toArray, List.map_cons, List.map_nil]); first | done | rfl) ?_; (with_reducible refine (HF1.out.run x51_2 false _ tB A35.out).mono ?_); rintro e w47 ⟨rfl, hb⟩; refine ⟨_, rfl, ?_⟩; replace HO_5 := Aside0.mk (Kd.S_below (tR HO_5) hb); replace HO_10 := Aside0.mk (Kd.R_below (tR HO_10) hb); replace HO_11 := Aside0.mk (Kd.Q_below (tR HO_11) hb); replace HB := tA HB hb; (try clear hb); (try clear hb2); (try clear hk); (try clear hi)))
       go_roundg k2
       case measure => have := HK1.out; have := HK2.out; omega
       case rel => exact ⟨(y115), (x11_2), (wrap64 (x51_2 + 1)), tU, H', ⟨by have := HK1.out; have := HK2.out; omega⟩, ⟨by (with_reducible repeat (first | apply Kd.S_alloc | apply Kd.S_drewN | apply Kd.S_drew)); exact Kd.S_mono HO_5.out (fun _ hk => ⟨hk.2, hk.1⟩)⟩, ⟨tR HO_10⟩, ⟨by (with_reducible repeat (first | apply Kd.Q_alloc | apply Kd.Q_drewN | apply Kd.Q_drew)); exact Kd.Q_mono HO_11.out (fun _ hk => hk.2)⟩, ⟨tB⟩⟩
      rw [if_neg c31] at H
      have c31b0 := decide_eq_false c31
      clear c31
      have H' := Aside0.mk H
      clear H
      go_wp2
      go_loopg [11] k2 (fun kq v11 w' => ∃ (x10_3 : List Int) (x11_3 : List Int), Aside0 (witness_distances.l3 kq x5_1 x10_3 x11_3 = some r) ∧ Aside0 (kq ≤ k2) ∧ Aside0 (Kd.S (Kd.slice 3 (Kd.int .i64)) 28 w' w.heap.size (fun k_ => some k_ ≠ (v113 : Value).ownBlock ∧ some k_ ≠ (v11 : Value).ownBlock) v102 x5_1) ∧ Aside0 (Kd.R (Kd.int .i64) 3 w' w.heap.size (fun k_ => some k_ ≠ (v11 : Value).ownBlock) v113 x10_3) ∧ Aside0 (Kd.Q (Kd.int .i64) 3 w' w.heap.size (fun k_ => some k_ ≠ (v113 : Value).ownBlock) v11 x11_3) ∧ Aside0 (Below w.heap.size w w'))
      case atStart => exact ⟨(x10_2), (x11_2), H', ⟨Nat.le_refl _⟩, ⟨tR HO_5⟩, ⟨tR HO_10⟩, ⟨tR HO_11⟩, ⟨tB⟩⟩
      case round =>
       clear H'
       (try clear c1); (try clear p1); (try clear q1); (try clear hx1); (try clear c2); (try clear p2); (try clear hx2); (try clear hf2); (try clear c3); (try clear c3b0); (try clear c3b1); (try clear p3); (try clear q3); (try clear hx3); (try clear hf3); (try clear c4); (try clear c4b0); (try clear c4b1); (try clear c5); (try clear p6); (try clear c7); (try clear c7b0); (try clear c8); (try clear c8b0); (try clear c9); (try clear c9b0); (try clear c10); (try clear c10b0); (try clear p10); (try clear q10); (try clear hx10); (try clear c11); (try clear c11b0); (try clear c12); (try clear c12b0); (try clear c13); (try clear c13b0); (try clear c14); (try clear c14b0); (try clear c15); (try clear p16); (try clear q16); (try clear c22); (try clear c24); (try clear hx24); (try clear hf24); (try clear c27); (try clear c27b0); (try clear c27b1); (try clear c28); (try clear c28b0); (try clear c28b1); (try clear c31); (try clear c31b0); (try clear c32); (try clear c32b0); (try clear c33); (try clear c33b0); (try clear p34); (try clear q34); (try clear hx34); (try clear hf34); (try clear c36); (try clear p37); (try clear q37); (try clear hx37); (try clear hf37); (try clear c38); (try clear hcz18_0 hcz18_1 hfz18_0 hfz18_1); (try clear hx104_0); (try clear hx105_0); (try clear hx105_1); (try clear hx107_0); (try clear hx24_0); (try clear hx34_0); (try clear hx37_0); (try clear p104); (try clear p105); (try clear p107); (try clear q104); (try clear q105); (try clear q107)
       obtain ⟨x10_3, x11_3, HA, HK3, HO_5, HO_10, HO_11, HB⟩ := hrel
       cases gk with
       | zero => exact absurd HA.out (by simp [witness_distances.l3])
       | succ k3 =>
        have H := HA.out
        clear HA
        simp only [witness_distances.l3] at H
        by_cases c48 : (x11_3.length : Int) > 0
        ·rw [if_pos c48] at H
         have c48b0 := tdGi c48
         have c48b1 : decide (0 < x11_3.length) = true := decide_eq_true (by omega)
         clear c48
         replace H := tF H
         obtain ⟨c49, H⟩ := H
         have c49b0 := decide_eq_true c49
         have c49b1 : decide (0 < x11_3.length) = true := decide_eq_true (by omega)
         clear c49
         replace H := tF H
         obtain ⟨c50, H⟩ := H
         have c50b0 := eq_true c50
         have c50b1 := decide_eq_true c50
         clear c50
         obtain ⟨y122, hy122⟩ : ∃ y_ : List Int, y_ = (x11_3.drop (1 : Int).toNat) := ⟨_, rfl⟩
         replace H : (if 0 ≤ (rd x11_3 0) then (if (rd x11_3 0) < (x5_1.length : Int) then (witness_distances.l4 k3 x5_1 x10_3 y122 (rd x11_3 0) (rd_L3 x5_1 (rd x11_3 0)) ((rd_L3 x5_1 (rd x11_3 0)).length : Int) 0) else (none)) else (none)) = some r := tQ hy122 H
         have Ny122 := Aside0.mk hy122
         clear hy122
         replace H := tF H
         obtain ⟨c51, H⟩ := H
         have c51b0 := decide_eq_true c51
         clear c51
         replace H := tF H
         obtain ⟨c52, H⟩ := H
         have c52b0 := decide_eq_true c52
         clear c52
         have H' := Aside0.mk H
         clear H
         obtain ⟨Ao53, co53, eo53, _⟩ := Kd.Q_slice HO_11.out
         subst eo53
         have p121 : 0 ≤ (0 : Int) := (by omega)
         have q121 : 0 < (x11_3.length : Int) := tD
         obtain ⟨ad121, e121, hx121_0⟩ := Kd.at_int (Kd.Q_reads' HO_11.out).2.2 0 p121 q121
         cases e121
         have qi121 : (0 < x11_3.length) = True := eq_true (by omega)
         (try rw [show ((0 : Int)).toNat = 0 from rfl] at hx121_0)
         (try rw [Addr.add_zero'] at hx121_0)
         replace p121 := eq_true p121
         replace q121 := eq_true q121
         have q54 : (1 : Int) ≤ ((x11_3.length : Int) : Int) := tD
         obtain ⟨i054, hi054, _, hsz54, _⟩ := info_parts info3
         have hcut54 := cut_from (P := Try.prog) 28 3 .i64 Try.underlying28 hi054 1 hsz54 (some ad121) x11_3.length co53 1 (by omega) q54
         have hr54 := Kd.Q_drop (k := (1 : Int).toNat) HO_11.out (by omega)
         obtain ⟨A54, hA54⟩ : ∃ A1, A1 = (if co53 = (1 : Int).toNat then (some ad121) else ((some ad121) : Option Addr).map (·.add ((1 : Int).toNat * 1))) := ⟨_, rfl⟩
         obtain ⟨c54, hc54⟩ : ∃ c1, c1 = co53 - (1 : Int).toNat := ⟨_, rfl⟩
         have hy54 : y122.length = x11_3.length - (1 : Int).toNat := (by rw [Ny122.out, List.length_drop])
         rw [← Ny122.out] at hr54
         rw [← hy54, ← hA54, ← hc54] at hcut54
         replace hr54 : Kd.Q (Kd.int .i64) 3 wr w.heap.size (fun k_ => some k_ ≠ (v113 : Value).ownBlock) (.slice A54 y122.length c54) y122 := (by rw [hA54, hc54, hy54]; exact hr54)
         have HE54 : Aside0 ((Value.slice A54 y122.length c54).ownBlock = (.slice (some ad121) x11_3.length co53 : Value).ownBlock) := ⟨by rw [hA54]; split <;> (cases ((some ad121) : Option Addr) <;> rfl)⟩
         clear hy54 hi054 hsz54 HO_11 hA54 hc54
         have HO124 := Aside0.mk hr54
         clear hr54
         replace q54 := eq_true q54
         have n_ := Aside0.mk (Kd.S_mono (ok' := fun k_ => (some k_ ≠ (v113 : Value).ownBlock ∧ some k_ ≠ (.slice A54 y122.length c54 : Value).ownBlock)) HO_5.out (fun k_ hk => ⟨hk.1, (by rw [HE54.out]; exact hk.2)⟩))
         clear HO_5
         have HO_5 := n_
         clear n_
         have n_ := Aside0.mk (Kd.R_mono (ok' := fun k_ => some k_ ≠ (.slice A54 y122.length c54 : Value).ownBlock) HO_10.out (fun k_ hk => (by rw [HE54.out]; exact hk)))
         clear HO_10
         have HO_10 := n_
         clear n_
         obtain ⟨Ao55, co55, eo55⟩ := Kd.S_slice HO_5.out
         subst eo55
         have p125 : 0 ≤ ((rd x11_3 0) : Int) := tD
         have q125 : (rd x11_3 0) < (x5_1.length : Int) := tD
         obtain ⟨ad125, A125_0, c125_0, e125, hx125_0, hl125_0, hi125_0⟩ := at_L3 (Kd.S_reads' HO_5.out).2.2 (rd x11_3 0) p125 q125
         cases e125
         obtain ⟨ce125, hce125, hMe125, hcc125⟩ := Kd.S_get HO_5.out [] (rd x11_3 0) p125 (by first | exact q125 | exact tD | (have e_ := (Kd.S_reads' HO_5.out).1; omega))
         obtain ⟨ve125_0, rfl, ge125_0⟩ := hMe125
         have hv125_0 := hcc125 0 _ rfl
         rw [Nat.add_zero, show ((Kd.slice 3 (Kd.int .i64))).sz = 1 from rfl, Nat.mul_one] at hv125_0
         replace hv125_0 := Option.some.inj (hv125_0.symm.trans hx125_0)
         rw [hv125_0] at ge125_0
         have HL125_0 := Aside0.mk (show Kd.R (Kd.int .i64) 3 _ _ _ _ (rd_L3 x5_1 (rd x11_3 0)) from ge125_0)
         clear hv125_0 ge125_0
         have HX125_0 := Aside0.mk hx125_0
         clear hcc125 hce125
         have HR125_0 := Aside0.mk hi125_0
         have HC125_0 := Aside0.mk hl125_0
         clear hi125_0 hl125_0
         replace p125 := eq_true p125
         replace q125 := eq_true q125
         go_wp2
         have HPQ125 := Aside0.mk (And.intro (of_eq_true p125) (of_eq_true q125))
         go_loopg [11, 81] k3 (fun kq v11 v81 w' => ∃ (x10_4 : List Int) (x11_4 : List Int) (x81_4 : Int), v81 = .int .i64 x81_4 ∧ Aside0 (witness_distances.l4 kq x5_1 x10_4 x11_4 (rd x11_3 0) (rd_L3 x5_1 (rd x11_3 0)) ((rd_L3 x5_1 (rd x11_3 0)).length : Int) x81_4 = some r) ∧ Aside0 (kq ≤ k3) ∧ Aside0 (Kd.S (Kd.slice 3 (Kd.int .i64)) 28 w' w.heap.size (fun k_ => some k_ ≠ (v113 : Value).ownBlock ∧ some k_ ≠ (v11 : Value).ownBlock) (.slice (some ad125) x5_1.length co55) x5_1) ∧ Aside0 (Kd.R (Kd.int .i64) 3 w' w.heap.size (fun k_ => some k_ ≠ (v11 : Value).ownBlock) v113 x10_4) ∧ Aside0 (Kd.Q (Kd.int .i64) 3 w' w.heap.size (fun k_ => some k_ ≠ (v113 : Value).ownBlock) v11 x11_4) ∧ Aside0 (Below w.heap.size w w') ∧ Aside0 (w'.cell? (ad125.add (rd x11_3 0).toNat) = some (.slice A125_0 (rd_L3 x5_1 (rd x11_3 0)).length c125_0)))
         case atStart => exact ⟨(x10_3), (y122), (0), tU, H', ⟨Nat.le_refl _⟩, ⟨tR HO_5⟩, ⟨tR HO_10⟩, ⟨tR HO124⟩, ⟨tB⟩, ⟨hx125_0⟩⟩
         case round =>
          clear H'
          (try clear c1); (try clear p1); (try clear q1); (try clear hx1); (try clear qi1); (try clear c2); (try clear p2); (try clear hx2); (try clear hf2); (try clear c3); (try clear c3b0); (try clear c3b1); (try clear p3); (try clear q3); (try clear hx3); (try clear hf3); (try clear c4); (try clear c4b0); (try clear c4b1); (try clear c5); (try clear q5); (try clear p6); (try clear c7); (try clear c7b0); (try clear c8); (try clear c8b0); (try clear c9); (try clear c9b0); (try clear c10); (try clear c10b0); (try clear p10); (try clear q10); (try clear hx10); (try clear c11); (try clear c11b0); (try clear c12); (try clear c12b0); (try clear p12); (try clear q12); (try clear hx12); (try clear qi12); (try clear c13); (try clear c13b0); (try clear c14); (try clear c14b0); (try clear c15); (try clear p16); (try clear q16); (try clear c22); (try clear c24); (try clear hx24); (try clear hf24); (try clear c27); (try clear c27b0); (try clear c27b1); (try clear c28); (try clear c28b0); (try clear c28b1); (try clear c31); (try clear c31b0); (try clear c32); (try clear c32b0); (try clear c33); (try clear c33b0); (try clear p34); (try clear q34); (try clear hx34); (try clear hf34); (try clear c36); (try clear p37); (try clear q37); (try clear hx37); (try clear hf37); (try clear c38); (try clear c48); (try clear c48b0); (try clear c48b1); (try clear c49); (try clear c49b0); (try clear c49b1); (try clear c50); (try clear c50b0); (try clear c50b1); (try clear c51); (try clear c51b0); (try clear c52); (try clear c52b0); (try clear c54); (try clear q54); (try clear hcz18_0 hcz18_1 hfz18_0 hfz18_1); (try clear hx104_0); (try clear hx105_0); (try clear hx105_1); (try clear hx107_0); (try clear hx121_0); (try clear hx125_0); (try clear hx24_0); (try clear hx34_0); (try clear hx37_0); (try clear p104); (try clear p105); (try clear p107); (try clear p121); (try clear p125); (try clear q104); (try clear q105); (try clear q107); (try clear q121); (try clear q125)
          obtain ⟨x10_4, x11_4, x81_4, rfl, HA, HK4, HO_5, HO_10, HO_11, HB, HXX⟩ := hrel
          have hnb_ := (Kd.S_R HO_5.out).1 _ rfl
          have HNB := Aside0.mk hnb_
          clear hnb_
          have HR125_0 := Aside0.mk (elemC_ HO_5.out HXX.out HPQ125.out.1 HPQ125.out.2)
          cases gk with
          | zero => exact absurd HA.out (by simp [witness_distances.l4])
          | succ k4 =>
           have H := HA.out
           clear HA
           simp only [witness_distances.l4] at H
           by_cases c56 : x81_4 < ((rd_L3 x5_1 (rd x11_3 0)).length : Int)
           ·rw [if_pos c56] at H
            have c56b0 := decide_eq_true c56
            clear c56
            replace H := tF H
            obtain ⟨c57, H⟩ := H
            have c57b0 := decide_eq_true c57
            clear c57
            replace H := tF H
            obtain ⟨c58, H⟩ := H
            have c58b0 := decide_eq_true c58
            clear c58
            replace H := tF H
            obtain ⟨c59, H⟩ := H
            have c59b0 := decide_eq_true c59
            clear c59
            replace H := tF H
            obtain ⟨c60, H⟩ := H
            have c60b0 := decide_eq_true c60
            clear c60
            by_cases c61 : (rd x10_4 (rd (rd_L3 x5_1 (rd x11_3 0)) x81_4)) < 0
            ·rw [if_pos c61] at H
             have c61b0 := decide_eq_true c61
             clear c61
             replace H := tF H
             obtain ⟨c62, H⟩ := H
             have c62b0 := decide_eq_true c62
             clear c62
             replace H := tF H
             obtain ⟨c63, H⟩ := H
             have c63b0 := decide_eq_true c63
             clear c63
             obtain ⟨y129, hy129⟩ : ∃ y_ : List Int, y_ = (x10_4.set ((rd (rd_L3 x5_1 (rd x11_3 0)) x81_4) : Int).toNat (wrap64 ((rd x10_4 (rd x11_3 0)) + 1))) := ⟨_, rfl⟩
             replace H : (if x11_4.length < 17592186044416 then (witness_distances.l4 k4 x5_1 y129 (x11_4 ++ [rd (rd_L3 x5_1 (rd x11_3 0)) x81_4]) (rd x11_3 0) (rd_L3 x5_1 (rd x11_3 0)) ((rd_L3 x5_1 (rd x11_3 0)).length : Int) (wrap64 (x81_4 + 1))) else (none)) = some r := tQ hy129 H
             have Ny129 := Aside0.mk hy129
             clear hy129
             replace H := tF H
             obtain ⟨c65, H⟩ := H
             have LMc65 := Aside0.mk c65
             clear c65
             obtain ⟨y130, hy130⟩ : ∃ y_ : List Int, y_ = (x11_4 ++ [rd (rd_L3 x5_1 (rd x11_3 0)) x81_4]) := ⟨_, rfl⟩
             replace H : (witness_distances.l4 k4 x5_1 y129 y130 (rd x11_3 0) (rd_L3 x5_1 (rd x11_3 0)) ((rd_L3 x5_1 (rd x11_3 0)).length : Int) (wrap64 (x81_4 + 1))) = some r := tQ hy130 H
             have Ny130 := Aside0.mk hy130
             clear hy130
             have H' := Aside0.mk H
             clear H
             have p126 : 0 ≤ (x81_4 : Int) := tD
             have q126 : x81_4 < ((rd_L3 x5_1 (rd x11_3 0)).length : Int) := tD
             obtain ⟨ad126, e126, hx126_0⟩ := Kd.at_int HR125_0.out x81_4 p126 q126
             cases e126
             skip
             replace p126 := eq_true p126
             replace q126 := eq_true q126
             obtain ⟨Ao66, co66, eo66⟩ := Kd.R_slice HO_10.out
             subst eo66
             have p127 : 0 ≤ ((rd (rd_L3 x5_1 (rd x11_3 0)) x81_4) : Int) := tD
             have q127 : (rd (rd_L3 x5_1 (rd x11_3 0)) x81_4) < (x10_4.length : Int) := tD
             obtain ⟨ad127, e127, hx127_0⟩ := Kd.at_int (Kd.R_reads' HO_10.out).2.2 (rd (rd_L3 x5_1 (rd x11_3 0)) x81_4) p127 q127
             cases e127
             replace p127 := eq_true p127
             replace q127 := eq_true q127
             have p128 : 0 ≤ ((rd x11_3 0) : Int) := tD
             have q128 : (rd x11_3 0) < (x10_4.length : Int) := tD
             obtain ⟨ad128, e128, hx128_0⟩ := Kd.at_int (Kd.R_reads' HO_10.out).2.2 (rd x11_3 0) p128 q128
             obtain rfl : ad127 = ad128 := (by injection e128)
             replace p128 := eq_true p128
             replace q128 := eq_true q128
             have p64 : 0 ≤ ((rd (rd_L3 x5_1 (rd x11_3 0)) x81_4) : Int) := tD
             have q64 : ((rd (rd_L3 x5_1 (rd x11_3 0)) x81_4) : Int) < ((x10_4.length : Int) : Int) := tD
             obtain ⟨go64, co64, eo64, gb64, gl64, cl64, HG64⟩ := Kd.R_form HO_10.out (by omega)
             (first | cases eo64 | (injection eo64 with ea_ en_ ec_; (first | subst ea_ | (injection ea_ with ea_; subst ea_)); subst ec_; clear en_))
             have GB64 := Aside0.mk gb64
             have GG64 := Aside0.mk HG64
             clear gb64 gl64 HG64
             (first | simp only [add_plain] at hx127_0 | skip)
             (first | simp only [add_plain] at hx128_0 | skip)
             obtain ⟨hx64_0, hf64_0⟩ := Kd.R_celln 0 HO_10.out ((rd (rd_L3 x5_1 (rd x11_3 0)) x81_4) : Int) p64 q64
             replace p64 := eq_true p64
             replace q64 := eq_true q64
             have HP67 := Kd.R_putg HO_10.out ((rd (rd_L3 x5_1 (rd x11_3 0)) x81_4) : Int) (wrap64 ((rd x10_4 (rd x11_3 0)) + 1))
             go_wp2_with (first | ((with_reducible refine gate_store (t := 3) (p := 97) rfl ?_); refine store_event (t := 3) (p := 97) (v := ?vo_w68) (w1 := (wr.setCell ⟨go64, ((rd (rd_L3 x5_1 (rd x11_3 0)) x81_4) : Int).toNat, none⟩ (.int .i64 (wrap64 ((rd x10_4 (rd x11_3 0)) + 1))))) ?hg ?ho ?hn ?hr ?_; (case ho => rfl); (case hg => rfl); (case hn => rfl); (case hr => first | (go_simp; done) | (go_simp; rfl)); intro w68 hw; have nX_ := Aside0.mk (cell_far_ HXX.out HNB.out.1 hw); clear HXX; have HXX := nX_; clear nX_; have hg : wr.grownBy w68 (some go64) := (by rw [hw]; exact HP67.2); have hp_ : Kd.R (Kd.int .i64) 3 w68 w.heap.size (fun k_ => some k_ ≠ (u11 : Value).ownBlock) (.slice (some ⟨go64, 0, none⟩) x10_4.length co66) y129 := (by rw [hw, Ny129.out]; exact HP67.1); clear HP67; replace HO_5 := Aside0.mk (Kd.S_after (v := (.slice (some ⟨go64, 0, none⟩) x10_4.length co66)) (v1 := (.slice (some ⟨go64, 0, none⟩) x10_4.length co66)) (ok := (fun k_ => some k_ ≠ (u11 : Value).ownBlock)) (by (with_reducible repeat (first | apply Kd.S_alloc | apply Kd.S_drewN | apply Kd.S_drew)); exact Kd.S_mono HO_5.out (fun _ hk => ⟨hk.2, hk.1⟩)) hg (.inl rfl)); replace HO_10 := Aside0.mk (hp_); replace HO_11 := Aside0.mk (Kd.Q_after (v := (.slice (some ⟨go64, 0, none⟩) x10_4.length co66)) (v1 := (.slice (some ⟨go64, 0, none⟩) x10_4.length co66)) (ok := (fun _ => True)) (by (with_reducible repeat (first | apply Kd.Q_alloc | apply Kd.Q_drewN | apply Kd.Q_drew)); exact Kd.Q_mono HO_11.out (fun _ hk => ⟨trivial, hk⟩)) hg (.inl rfl)); replace HB := Aside0.mk ((by rw [hw]; exact below_set (HB.out) GB64.out : Below w.heap.size w w68)); clear hg hw hp_) | ((with_reducible refine gate_builtin (b := .append) (xs := #[.tmp 98, .tmp 100]) rfl ?_); at_builtin; refine Kd.Q_append (Kd.int .i64) (w0 := w) w.heap.size rfl (.tmp 98) (.tmp 100) 28 3 (.int .i64 0) 8 rfl Try.underlying28 info3 rfl (by decide) (by omega) u11 x11_4 (rd (rd_L3 x5_1 (rd x11_3 0)) x81_4) [.int .i64 (rd (rd_L3 x5_1 (rd x11_3 0)) x81_4)] (fun k_ => some k_ ≠ (.slice (some ⟨go64, 0, none⟩) x10_4.length co66 : Value).ownBlock) (fun _ => False) rfl rfl ?aP (fun _ hk => hk.elim) ?aF ?aO ?aB ?aS ?aL ?_; (case aP => exact rfl); (case aB => exact (tB)); (case aF => exact (fun k_ hk => Kd.fresh' (Kd.R_lt (tR HO_10)) k_ hk)); (case aO => exact (by (with_reducible repeat (first | apply Kd.Q_alloc | apply Kd.Q_drewN | apply Kd.Q_drew)); exact Kd.Q_mono HO_11.out (fun _ hk => hk.2))); (case aS => exact (below_size (tB))); (case aL => have := LMc65.out; omega); intro v131 w69 ho hb hg hat; have nX_ := Aside0.mk (cell_grown_ HXX.out hg HNB.out.2); clear HXX; have HXX := nX_; clear nX_; rw [← Ny130.out] at ho; replace HO_5 := Aside0.mk (Kd.S_after (ok := (fun k_ => some k_ ≠ (.slice (some ⟨go64, 0, none⟩) x10_4.length co66 : Value).ownBlock)) (by (with_reducible repeat (first | apply Kd.S_alloc | apply Kd.S_drewN | apply Kd.S_drew)); exact Kd.S_mono HO_5.out (fun _ hk => ⟨hk.2, hk.1⟩)) hg hat); replace HO_10 := Aside0.mk (Kd.R_after (ok := (fun _ => True)) (by (with_reducible repeat (first | apply Kd.R_alloc | apply Kd.R_drewN | apply Kd.R_drew)); exact Kd.R_mono HO_10.out (fun _ hk => ⟨trivial, hk⟩)) hg hat); replace HB := Aside0.mk (hb); have HO132 := Aside0.mk (ho); clear HO_11; clear ho hb hg hat))
             go_roundg k4
             case measure => have := HK1.out; have := HK2.out; have := HK3.out; have := HK4.out; omega
             case rel => exact ⟨(y129), (y130), (wrap64 (x81_4 + 1)), tU, H', ⟨by have := HK1.out; have := HK2.out; have := HK3.out; have := HK4.out; omega⟩, ⟨tR HO_5⟩, ⟨by (with_reducible repeat (first | apply Kd.R_alloc | apply Kd.R_drewN | apply Kd.R_drew)); exact Kd.R_mono HO_10.out (fun _ hk => hk.2)⟩, ⟨tR HO132⟩, ⟨tB⟩, ⟨HXX.out⟩⟩
            rw [if_neg c61] at H
            have c61b0 := decide_eq_false c61
            clear c61
            have H' := Aside0.mk H
            clear H
            have p126 : 0 ≤ (x81_4 : Int) := tD
            have q126 : x81_4 < ((rd_L3 x5_1 (rd x11_3 0)).length : Int) := tD
            obtain ⟨ad126, e126, hx126_0⟩ := Kd.at_int HR125_0.out x81_4 p126 q126
            cases e126
            skip
            replace p126 := eq_true p126
            replace q126 := eq_true q126
            obtain ⟨Ao70, co70, eo70⟩ := Kd.R_slice HO_10.out
            subst eo70
            have p127 : 0 ≤ ((rd (rd_L3 x5_1 (rd x11_3 0)) x81_4) : Int) := tD
            have q127 : (rd (rd_L3 x5_1 (rd x11_3 0)) x81_4) < (x10_4.length : Int) := tD
            obtain ⟨ad127, e127, hx127_0⟩ := Kd.at_int (Kd.R_reads' HO_10.out).2.2 (rd (rd_L3 x5_1 (rd x11_3 0)) x81_4) p127 q127
            cases e127
            replace p127 := eq_true p127
            replace q127 := eq_true q127
            go_wp2
            go_roundg k4
            case measure => have := HK1.out; have := HK2.out; have := HK3.out; have := HK4.out; omega
            case rel => exact ⟨(x10_4), (x11_4), (wrap64 (x81_4 + 1)), tU, H', ⟨by have := HK1.out; have := HK2.out; have := HK3.out; have := HK4.out; omega⟩, ⟨tR HO_5⟩, ⟨tR HO_10⟩, ⟨tR HO_11⟩, ⟨tB⟩, ⟨HXX.out⟩⟩
           rw [if_neg c56] at H
           have c56b0 := decide_eq_false c56
           clear c56
           have H' := Aside0.mk H
           clear H
           go_wp2
           go_roundg k4
           case measure => have := HK1.out; have := HK2.out; have := HK3.out; have := HK4.out; omega
           case rel => exact ⟨(x10_4), (x11_4), H', ⟨by have := HK1.out; have := HK2.out; have := HK3.out; have := HK4.out; omega⟩, ⟨tR HO_5⟩, ⟨tR HO_10⟩, ⟨tR HO_11⟩, ⟨tB⟩⟩
        rw [if_neg c48] at H
        have c48b0 := tdHi c48
        have c48b1 : decide (0 < x11_3.length) = false := decide_eq_false (by omega)
        clear c48
        obtain rfl := Option.some.inj H
        obtain ⟨Ao71, co71, eo71, _⟩ := Kd.Q_slice HO_11.out
        subst eo71
        go_wp2
        go_ret
        exact ⟨_, tE, by (with_reducible repeat (first | apply Kd.R_alloc | apply Kd.R_drewN | apply Kd.R_drew)); exact Kd.R_mono HO_10.out (fun _ hk => trivial), tB⟩
 rw [if_neg c3] at H
 exact absurd H (by simp)
mutual
def r16_distances.l0 : Nat → List (List (S80)) → List Bool → List Int → Int → Option (List Int)
 | 0, _, _, _, _ => none
 | k + 1, x0, x1, x5, x6 => if x6 < (x0.length : Int) then (if 0 ≤ x6 then (if x6 < (x1.length : Int) then (if rdOf false x1 x6 = true then (if x5.length < 17592186044416 then (r16_distances.l0 k x0 x1 (x5 ++ [0]) (wrap64 (x6 + 1))) else (none)) else (if x5.length < 17592186044416 then (r16_distances.l0 k x0 x1 (x5 ++ [(-1)]) (wrap64 (x6 + 1))) else (none))) else (none)) else (none)) else (r16_distances.l1 k x0 x5 0)
def r16_distances.l1 : Nat → List (List (S80)) → List Int → Int → Option (List Int)
 | 0, _, _, _ => none
 | k + 1, x0, x5, x7 => if x7 < (x0.length : Int) then (r16_distances.l2 k x0 x5 x7 0) else (some x5)
def r16_distances.l2 : Nat → List (List (S80)) → List Int → Int → Int → Option (List Int)
 | 0, _, _, _, _ => none
 | k + 1, x0, x5, x7, x8 => if x8 < (x0.length : Int) then (r16_distances.l3 k x0 x5 x7 x8 0) else (r16_distances.l1 k x0 x5 (wrap64 (x7 + 1)))
def r16_distances.l3 : Nat → List (List (S80)) → List Int → Int → Int → Int → Option (List Int)
 | 0, _, _, _, _, _ => none
 | k + 1, x0, x5, x7, x8, x9 => if 0 ≤ x8 then (if x8 < (x0.length : Int) then (if x9 < ((rd_L80 x0 x8).length : Int) then (if x8 < (x5.length : Int) then (if (rd x5 x8) < 0 then (if 0 ≤ x9 then (if 0 ≤ ((rd_T80 (rd_L80 x0 x8) x9).f2) then (if ((rd_T80 (rd_L80 x0 x8) x9).f2) < (x5.length : Int) then (if (rd x5 ((rd_T80 (rd_L80 x0 x8) x9).f2)) = x7 then (r16_distances.l3 k x0 (x5.set (x8 : Int).toNat (wrap64 (x7 + 1))) x7 x8 (wrap64 (x9 + 1))) else (r16_distances.l3 k x0 x5 x7 x8 (wrap64 (x9 + 1)))) else (none)) else (none)) else (none)) else (r16_distances.l3 k x0 x5 x7 x8 (wrap64 (x9 + 1)))) else (none)) else (r16_distances.l2 k x0 x5 x7 (wrap64 (x8 + 1)))) else (none)) else (none)
end
def r16_distances.f (k : Nat) (l0 : List (List (S80))) (l1 : List Bool) : Option (List Int) := r16_distances.l0 k l0 l1 ([] : List Int) 0
end Go.Proofs.Ytfnjbgggmddgpaa.Q
end
section
set_option linter.unusedVariables false
set_option linter.unusedSimpArgs false
namespace Go.Proofs.Ytfnjbgggmddgpaa.Q
open Go.RowKit Go.Proofs.Fn Go.Proofs.YtfnjbgggmddgpaaW.PrintWords Go.Proofs.Gr
def E (T : List (List S80)) (i j : Nat) : Prop := ∃ e ∈ T.getD i [], e.f2 = (j : Int)
def D (xs : List Int) : Nat → Int := fun i => xs.getD i 0
structure OkT (n : Nat) (T : List (List S80)) : Prop where
  len : T.length = n
  small : n ≤ 1000000
  rows : ∀ i, i < n → (T.getD i []).length ≤ 1000000
  tgt : ∀ i, i < n → ∀ e ∈ T.getD i [], 0 ≤ e.f2 ∧ e.f2 < (n : Int)
theorem rdD {xs : List Int} {i : Nat} : rd xs (i : Int) = D xs i := by simp [rd, D]
theorem D_set {xs : List Int} {r : Nat} {v : Int} (h : r < xs.length) : ∀ i, i < xs.length → D (xs.set r v) i = upd (D xs) r v i := by
  intro i hi
  simp only [D, upd, List.getD_eq_getElem?_getD, List.getElem?_set]
  grind
theorem rdmap {T : List (List S80)} {s : Nat} : rd_L66 (T.map (List.map pr)) (s : Int) = (T.getD s []).map pr := by
  simp only [rd_L66, Int.toNat_natCast, List.getD_eq_getElem?_getD, List.getElem?_map]
  cases T[s]? <;> rfl
theorem rd66map {l : List S80} {q : Nat} : rd_T66 (l.map pr) (q : Int) = pr (rd_T80 l (q : Int)) := by
  simp only [rd_T66, rd_T80, Int.toNat_natCast, List.getD_eq_getElem?_getD, List.getElem?_map]
  cases l[q]? <;> rfl
structure Bk (n : Nat) (T : List (List S80)) (s q : Nat) (B : List (List Int)) : Prop where
  len : B.length = n
  small : ∀ j, (B.getD j []).length ≤ s * 1000000 + q
  only : ∀ j, j < n → ∀ r ∈ B.getD j [], ∃ i : Nat, i < n ∧ r = (i : Int) ∧ E T i j
  all : ∀ i j, i < s → j < n → E T i j → (i : Int) ∈ B.getD j []
  cur : ∀ e ∈ (T.getD s []).take q, (s : Int) ∈ B.getD e.f2.toNat []
theorem Bk.push {n : Nat} {T : List (List S80)} {s q : Nat} {B : List (List Int)} (hT : OkT n T) (h : Bk n T s q B) (hs : s < n) (hq : q < (T.getD s []).length) (t : Nat) (ht : (rd_T80 (T.getD s []) (q : Int)).f2 = (t : Int)) : Bk n T s (q + 1) (B.set t (B.getD t [] ++ [(s : Int)])) := by
  have he : rd_T80 (T.getD s []) (q : Int) ∈ T.getD s [] := by rw [rd80 hq]; exact List.getElem_mem _
  have htn : t < n := by have := (hT.tgt s hs _ he).2; omega
  have g : ∀ j, (B.set t (B.getD t [] ++ [(s : Int)])).getD j [] = if j = t then B.getD t [] ++ [(s : Int)] else B.getD j [] := by
    intro j
    have := h.len
    simp only [List.getD_eq_getElem?_getD, List.getElem?_set]
    grind
  refine ⟨by simpa using h.len, fun j => ?_, fun j hj r hr => ?_, fun i j hi hj hE => ?_, fun e hm => ?_⟩
  · rw [g]; have := h.small j; split
    · subst j; rw [List.length_append, List.length_singleton]; omega
    · omega
  · rw [g] at hr
    split at hr
    · subst j
      rcases List.mem_append.1 hr with hr | hr
      · exact h.only t hj r hr
      · exact ⟨s, hs, List.mem_singleton.1 hr, _, he, ht⟩
    · exact h.only j hj r hr
  · rw [g]; have := h.all i j hi hj hE; split
    · subst j; exact List.mem_append_left _ this
    · exact this
  · rw [g]
    have e1 : (T.getD s []).take (q + 1) = (T.getD s []).take q ++ [(T.getD s [])[q]] := by rw [List.take_succ_eq_append_getElem hq]
    rw [e1] at hm
    rcases List.mem_append.1 hm with hm | hm
    · have := h.cur e hm
      split
      · rename_i c; rw [c] at this; exact List.mem_append_left _ this
      · exact this
    · obtain rfl := List.mem_singleton.1 hm
      rw [← rd80 hq, ht, Int.toNat_natCast, if_pos rfl]
      simp
theorem Bk.next {n : Nat} {T : List (List S80)} {s q : Nat} {B : List (List Int)} (hT : OkT n T) (h : Bk n T s q B) (hs : s < n) (hq : q = (T.getD s []).length) : Bk n T (s + 1) 0 B := by
  subst hq
  refine ⟨h.len, fun j => ?_, h.only, fun i j hi hj hE => ?_, by simp⟩
  · have a := h.small j
    have b := hT.rows s hs
    rw [Nat.succ_mul]
    exact Nat.le_trans a (Nat.add_le_add_left b _)
  · by_cases e : i = s
    · subst e
      obtain ⟨e, he, ht⟩ := hE
      have := h.cur e (by rw [List.take_length]; exact he)
      rw [ht, Int.toNat_natCast] at this; exact this
    · exact h.all i j (by omega) hj hE
theorem dist_l1 {n : Nat} {T : List (List S80)} (hT : OkT n T) (φ : Int → Option Bool) (P : List Int → Prop) (s : Nat) (hs : s < n)
    (next : ∀ B, Bk n T (s + 1) 0 B → ∃ d, P d ∧ Evn (fun k => witness_distances.l0 k (T.map (List.map pr)) φ B (T.map (List.map pr)) (n : Int) ((s + 1 : Nat) : Int)) d) :
    ∀ (m q : Nat) (B : List (List Int)), q + m = (T.getD s []).length → Bk n T s q B →
    ∃ d, P d ∧ Evn (fun k => witness_distances.l1 k (T.map (List.map pr)) φ B (s : Int) (T.map (List.map pr)) (n : Int) (s : Int) ((T.getD s []).map pr) ((T.getD s []).length : Int) (q : Int)) d := by
  have hsm := hT.small
  have hrow := hT.rows s hs
  intro m
  induction m with
  | zero =>
    intro q B hq hB
    obtain ⟨d, hP, hd⟩ := next B (hB.next hT hs (by omega))
    refine ⟨d, hP, Evn.succ ?_⟩
    simp only [witness_distances.l1, wrap_succ (show s < 9223372036854775807 by omega)]
    (first | refine Evn.pos (by first | assumption | omega | (simp; done) | (simp; omega)) ?_ | refine Evn.neg (by first | assumption | omega | (simp; done) | (simp; omega)) ?_)
    exact hd
  | succ m ih =>
    intro q B hq hB
    have hq2 : q < (T.getD s []).length := by omega
    have he : rd_T80 (T.getD s []) (q : Int) ∈ T.getD s [] := by rw [rd80 hq2]; exact List.getElem_mem _
    have htg := hT.tgt s hs _ he
    obtain ⟨t, ht⟩ : ∃ t : Nat, (rd_T80 (T.getD s []) (q : Int)).f2 = (t : Int) := ⟨_, (Int.toNat_of_nonneg htg.1).symm⟩
    obtain ⟨d, hP, hd⟩ := ih (q + 1) _ (by omega) (hB.push hT hs hq2 t ht)
    have ht2 : (rd_T66 ((T.getD s []).map pr) (q : Int)).f1 = (t : Int) := by rw [rd66map]; exact ht
    have hl := hB.len
    have hsB := hB.small t
    have htn : t < n := by omega
    refine ⟨d, hP, Evn.succ ?_⟩
    simp only [witness_distances.l1, ht2, rd_L3, Int.toNat_natCast, wrap_succ (show q < 9223372036854775807 by omega)]
    have h3 : s * 1000000 + q < 17592186044416 := by have : s * 1000000 ≤ 1000000 * 1000000 := Nat.mul_le_mul_right _ (by omega); omega
    (first | refine Evn.pos (by first | assumption | omega | (simp; done) | (simp; omega)) ?_ | refine Evn.neg (by first | assumption | omega | (simp; done) | (simp; omega)) ?_); (first | refine Evn.pos (by first | assumption | omega | (simp; done) | (simp; omega)) ?_ | refine Evn.neg (by first | assumption | omega | (simp; done) | (simp; omega)) ?_)
    refine Evn.pos (by simp only [List.length_map]; omega) ?_
    (first | refine Evn.pos (by first | assumption | omega | (simp; done) | (simp; omega)) ?_ | refine Evn.neg (by first | assumption | omega | (simp; done) | (simp; omega)) ?_); (first | refine Evn.pos (by first | assumption | omega | (simp; done) | (simp; omega)) ?_ | refine Evn.neg (by first | assumption | omega | (simp; done) | (simp; omega)) ?_); (first | refine Evn.pos (by first | assumption | omega | (simp; done) | (simp; omega)) ?_ | refine Evn.neg (by first | assumption | omega | (simp; done) | (simp; omega)) ?_)
    exact hd
theorem dist_l0 {n : Nat} {T : List (List S80)} (hT : OkT n T) (φ : Int → Option Bool) (P : List Int → Prop)
    (next : ∀ B, Bk n T n 0 B → ∃ d, P d ∧ Evn (fun k => witness_distances.l2 k φ B (List.replicate n 0) [] (n : Int) 0) d) :
    ∀ (m s : Nat) (B : List (List Int)), s + m = n → Bk n T s 0 B →
    ∃ d, P d ∧ Evn (fun k => witness_distances.l0 k (T.map (List.map pr)) φ B (T.map (List.map pr)) (n : Int) (s : Int)) d := by
  have hsm := hT.small
  have hln := hT.len
  intro m
  induction m with
  | zero =>
    intro s B hs hB
    obtain rfl : s = n := by omega
    obtain ⟨d, hP, hd⟩ := next B hB
    refine ⟨d, hP, Evn.succ ?_⟩
    simp only [witness_distances.l0, List.length_map, hln, Int.toNat_natCast]
    (first | refine Evn.pos (by first | assumption | omega | (simp; done) | (simp; omega)) ?_ | refine Evn.neg (by first | assumption | omega | (simp; done) | (simp; omega)) ?_); (first | refine Evn.pos (by first | assumption | omega | (simp; done) | (simp; omega)) ?_ | refine Evn.neg (by first | assumption | omega | (simp; done) | (simp; omega)) ?_); (first | refine Evn.pos (by first | assumption | omega | (simp; done) | (simp; omega)) ?_ | refine Evn.neg (by first | assumption | omega | (simp; done) | (simp; omega)) ?_)
    exact hd
  | succ m ih =>
    intro s B hs hB
    obtain ⟨d, hP, hd⟩ := dist_l1 hT φ P s (by omega) (fun B' hB' => ih (s + 1) B' (by omega) hB') _ 0 B (by rw [Nat.zero_add]) hB
    refine ⟨d, hP, Evn.succ ?_⟩
    simp only [witness_distances.l0, List.length_map, hln, rdmap]
    (first | refine Evn.pos (by first | assumption | omega | (simp; done) | (simp; omega)) ?_ | refine Evn.neg (by first | assumption | omega | (simp; done) | (simp; omega)) ?_); (first | refine Evn.pos (by first | assumption | omega | (simp; done) | (simp; omega)) ?_ | refine Evn.neg (by first | assumption | omega | (simp; done) | (simp; omega)) ?_); (first | refine Evn.pos (by first | assumption | omega | (simp; done) | (simp; omega)) ?_ | refine Evn.neg (by first | assumption | omega | (simp; done) | (simp; omega)) ?_)
    exact hd
def ini (g : Nat → Bool) (i : Nat) : Int := if g i = true then 0 else -1
theorem dist_l2 {n : Nat} (hn : n ≤ 1000000) (φ : Int → Option Bool) (g : Nat → Bool) (hg : ∀ i, i < n → φ (i : Int) = some (g i)) (B : List (List Int)) (P : List Int → Prop)
    (next : ∃ d, P d ∧ Evn (fun k => witness_distances.l3 k B ((List.range n).map (ini g)) (((List.range n).filter g).map (Nat.cast : Nat → Int))) d) :
    ∀ (m i : Nat), i + m = n → ∃ d, P d ∧ Evn (fun k => witness_distances.l2 k φ B ((List.range i).map (ini g) ++ List.replicate m 0) (((List.range i).filter g).map (Nat.cast : Nat → Int)) (n : Int) (i : Int)) d := by
  intro m
  induction m with
  | zero =>
    intro i hi
    obtain rfl : i = n := by omega
    obtain ⟨d, hP, hd⟩ := next
    refine ⟨d, hP, Evn.succ ?_⟩
    simp only [witness_distances.l2]
    (first | refine Evn.pos (by first | assumption | omega | (simp; done) | (simp; omega)) ?_ | refine Evn.neg (by first | assumption | omega | (simp; done) | (simp; omega)) ?_)
    simpa using hd
  | succ m ih =>
    intro i hi
    obtain ⟨d, hP, hd⟩ := ih (i + 1) (by omega)
    refine ⟨d, hP, Evn.succ ?_⟩
    have hs : ∀ v : Int, ((List.range i).map (ini g) ++ List.replicate (m + 1) 0).set i v = (List.range i).map (ini g) ++ v :: List.replicate m 0 := by
      intro v
      rw [List.set_append_right _ _ (by simp)]
      simp [List.replicate_succ]
    have hs2 : ∀ v u : Int, ((List.range i).map (ini g) ++ u :: List.replicate m 0).set i v = (List.range i).map (ini g) ++ v :: List.replicate m 0 := by
      intro v u
      rw [List.set_append_right _ _ (by simp)]
      simp
    simp only [witness_distances.l2, Int.toNat_natCast, hs, hs2, hg i (by omega), Option.bind_some, wrap_succ (show i < 9223372036854775807 by omega)]
    rw [List.range_succ, List.map_append, List.filter_append, List.map_append] at hd
    simp only [List.map_cons, List.map_nil, List.append_assoc, List.singleton_append, List.filter_cons, List.filter_nil] at hd
    (first | refine Evn.pos (by first | assumption | omega | (simp; done) | (simp; omega)) ?_ | refine Evn.neg (by first | assumption | omega | (simp; done) | (simp; omega)) ?_); (first | refine Evn.pos (by first | assumption | omega | (simp; done) | (simp; omega)) ?_ | refine Evn.neg (by first | assumption | omega | (simp; done) | (simp; omega)) ?_)
    refine Evn.pos (by simp; omega) ?_
    by_cases c : g i = true
    · refine Evn.pos c ?_
      have hl := List.length_filter_le g (List.range i)
      rw [List.length_range] at hl
      refine Evn.pos (by rw [List.length_map]; omega) ?_
      simpa [ini, c] using hd
    · refine Evn.neg c ?_
      simpa [ini, c] using hd
theorem neg_le (n : Nat) (d : Nat → Int) : neg n d ≤ n := by
  induction n with
  | zero => simp [neg]
  | succ n ih => simp only [neg]; split <;> omega
abbrev QI (q : List Nat) : List Int := q.map (Nat.cast : Nat → Int)
theorem dist_l4 {n : Nat} {T : List (List S80)} (hn : n ≤ 1000000) {B : List (List Int)} (hB : Bk n T n 0 B) (g : Nat → Bool) (P : List Int → Prop) (N s : Nat) (hs : s < n)
    (next : ∀ (q : List Nat) (d : List Int), d.length = n → Bfs n (E T) (fun i => g i = true) (D d) q s [] (D d s) → 0 ≤ D d s → (∀ i, i < n → D d i + neg n (D d) ≤ n) → q.length + neg n (D d) = N → ∃ r, P r ∧ Evn (fun k => witness_distances.l3 k B d (QI q)) r) :
    ∀ (m p : Nat) (q : List Nat) (d : List Int), p + m = (B.getD s []).length → d.length = n → Bfs n (E T) (fun i => g i = true) (D d) q s (((B.getD s []).drop p).map Int.toNat) (D d s) → 0 ≤ D d s → (∀ i, i < n → D d i + neg n (D d) ≤ n) → q.length + neg n (D d) = N → N ≤ 2000000 →
    ∃ r, P r ∧ Evn (fun k => witness_distances.l4 k B d (QI q) (s : Int) (B.getD s []) ((B.getD s []).length : Int) (p : Int)) r := by
  have hsB := hB.small s
  have h3 : n * 1000000 + 0 < 17592186044416 := by have : n * 1000000 ≤ 1000000 * 1000000 := Nat.mul_le_mul_right _ (by omega); omega
  intro m
  induction m with
  | zero =>
    intro p q d hp hd hb h0 hm hN hN2
    rw [List.drop_of_length_le (by omega)] at hb
    obtain ⟨r, hP, hr⟩ := next q d hd hb h0 hm hN
    refine ⟨r, hP, Evn.succ ?_⟩
    simp only [witness_distances.l4]
    (first | refine Evn.pos (by first | assumption | omega | (simp; done) | (simp; omega)) ?_ | refine Evn.neg (by first | assumption | omega | (simp; done) | (simp; omega)) ?_)
    exact hr
  | succ m ih =>
    intro p q d hp hd hb h0 hm hN hN2
    have hpl : p < (B.getD s []).length := by omega
    rw [List.drop_eq_getElem_cons hpl, List.map_cons] at hb
    obtain ⟨i, hi, hri, hE⟩ := hB.only s hs _ (List.getElem_mem hpl)
    have hrd : rd (B.getD s []) (p : Int) = (i : Int) := by
      rw [← hri]; show (B.getD s []).getD ((p : Int).toNat) 0 = _
      rw [Int.toNat_natCast, List.getD_eq_getElem?_getD, List.getElem?_eq_getElem hpl]; rfl
    rw [hri, Int.toNat_natCast] at hb
    by_cases c : D d i < 0
    · have hmi := hm s hs
      have hnu : neg n (upd (D d) i (D d s + 1)) + 1 = neg n (D d) := neg_upd hi c (by omega)
      have hset : ∀ x, x < n → upd (D d) i (D d s + 1) x = D (d.set i (D d s + 1)) x := fun x hx => (D_set (by omega) x (by omega)).symm
      have hneg : neg n (D (d.set i (D d s + 1))) = neg n (upd (D d) i (D d s + 1)) := (neg_congr hset).symm
      have hb2 := (hb.new hs h0 hE hi c).congr hset
      rw [hset s hs] at hb2
      obtain ⟨r, hP, hr⟩ := ih (p + 1) (q ++ [i]) (d.set i (D d s + 1)) (by omega) (by simpa using hd) hb2 (by
        rw [← hset s hs]; show 0 ≤ if s = i then _ else _
        split <;> omega) (fun x hx => by
        rw [hneg, ← hset x hx]
        have := hm x hx
        have hu : upd (D d) i (D d s + 1) x = if x = i then D d s + 1 else D d x := rfl
        rw [hu]; split <;> omega) (by rw [hneg]; simp; omega) hN2
      refine ⟨r, hP, Evn.succ ?_⟩
      simp only [witness_distances.l4, hrd, rdD, Int.toNat_natCast, wrap_succ (show p < 9223372036854775807 by omega), hd]
      have hw : wrap64 (D d s + 1) = D d s + 1 := by unfold wrap64; omega
      rw [hw]
      iterate 8 (first | refine Evn.pos (by first | assumption | omega | (simp; done) | (simp; omega)) ?_ | refine Evn.neg (by first | assumption | omega | (simp; done) | (simp; omega)) ?_)
      refine Evn.pos (by simp [QI]; omega) ?_
      simpa [QI] using hr
    · have hb2 := hb.old hi (by omega)
      obtain ⟨r, hP, hr⟩ := ih (p + 1) q d (by omega) hd hb2 h0 hm hN hN2
      refine ⟨r, hP, Evn.succ ?_⟩
      simp only [witness_distances.l4, hrd, rdD, Int.toNat_natCast, wrap_succ (show p < 9223372036854775807 by omega), hd]
      iterate 6 (first | refine Evn.pos (by first | assumption | omega | (simp; done) | (simp; omega)) ?_ | refine Evn.neg (by first | assumption | omega | (simp; done) | (simp; omega)) ?_)
      exact hr
theorem dist_l3 {n : Nat} {T : List (List S80)} (hn : n ≤ 1000000) {B : List (List Int)} (hB : Bk n T n 0 B) (g : Nat → Bool) :
    ∀ (N : Nat) (q : List Nat) (d : List Int) (s0 : Nat) (v : Int), d.length = n → Bfs n (E T) (fun i => g i = true) (D d) q s0 [] v → (∀ i, i < n → D d i + neg n (D d) ≤ n) → q.length + neg n (D d) = N → N ≤ 2000000 →
    ∃ r, (r.length = n ∧ Lab n (E T) (fun i => g i = true) (D r) ∧ ∀ i, i < n → D r i ≤ n) ∧ Evn (fun k => witness_distances.l3 k B d (QI q)) r := by
  intro N
  induction N with
  | zero =>
    intro q d s0 v hd hb hm hN hN2
    obtain rfl : q = [] := List.length_eq_zero_iff.1 (by omega)
    refine ⟨d, ⟨hd, hb.lab, fun i hi => by have := hm i hi; omega⟩, Evn.succ ?_⟩
    simp only [witness_distances.l3, QI, List.map_nil]
    (first | refine Evn.pos (by first | assumption | omega | (simp; done) | (simp; omega)) ?_ | refine Evn.neg (by first | assumption | omega | (simp; done) | (simp; omega)) ?_)
    exact Evn.const _
  | succ N ih =>
    intro q d s0 v hd hb hm hN hN2
    cases q with
    | nil =>
      refine ⟨d, ⟨hd, hb.lab, fun i hi => by have := hm i hi; omega⟩, Evn.succ ?_⟩
      simp only [witness_distances.l3, QI, List.map_nil]
      (first | refine Evn.pos (by first | assumption | omega | (simp; done) | (simp; omega)) ?_ | refine Evn.neg (by first | assumption | omega | (simp; done) | (simp; omega)) ?_)
      exact Evn.const _
    | cons s q =>
      have hs := hb.qlt s List.mem_cons_self
      have hb2 := hb.pop ((B.getD s []).map Int.toNat) (fun i hi hE => by
        have := hB.all i s hi hs.1 hE
        exact List.mem_map.2 ⟨_, this, by simp⟩)
      obtain ⟨r, hP, hr⟩ := dist_l4 hn hB g _ N s hs.1 (fun q d hd hb h0 hm hN => ih q d s _ hd hb hm hN (by omega)) _ 0 q d (by rw [Nat.zero_add]) hd (by simpa using hb2) hs.2.1 hm (by simp at hN; omega) (by omega)
      refine ⟨r, hP, Evn.succ ?_⟩
      have hl := hB.len
      have e1 : rd (QI (s :: q)) 0 = (s : Int) := by simp [rd, QI]
      have e2 : (QI (s :: q)).drop (1 : Int).toNat = QI q := by simp [QI]
      have e3 : rd_L3 B (s : Int) = B.getD s [] := by simp [rd_L3]
      have e4 : (QI (s :: q)).length = q.length + 1 := by simp [QI]
      simp only [witness_distances.l3, e1, e2, e3, e4]
      iterate 5 (first | refine Evn.pos (by first | assumption | omega | (simp; done) | (simp; omega)) ?_ | refine Evn.neg (by first | assumption | omega | (simp; done) | (simp; omega)) ?_)
      exact hr
theorem ini_range (g : Nat → Bool) (n : Nat) : ∀ i, i < n → D ((List.range n).map (ini g)) i = ini g i := by
  intro i hi
  simp [D, hi]
theorem distances_ev {n : Nat} {T : List (List S80)} (hT : OkT n T) (φ : Int → Option Bool) (g : Nat → Bool) (hg : ∀ i, i < n → φ (i : Int) = some (g i)) :
    ∃ r, (r.length = n ∧ Lab n (E T) (fun i => g i = true) (D r) ∧ ∀ i, i < n → D r i ≤ n) ∧ Evn (fun k => witness_distances.f k (T.map (List.map pr)) φ) r := by
  have hsm := hT.small
  have hln := hT.len
  have hb0 : ∀ i, i < n → D ((List.range n).map (ini g)) i = ini g i := ini_range g n
  obtain ⟨r, hP, hr⟩ := dist_l0 hT φ (fun r => r.length = n ∧ Lab n (E T) (fun i => g i = true) (D r) ∧ ∀ i, i < n → D r i ≤ n) (fun B hB => by
    have := dist_l2 hsm φ g hg B (fun r => r.length = n ∧ Lab n (E T) (fun i => g i = true) (D r) ∧ ∀ i, i < n → D r i ≤ n) (by
      refine dist_l3 hsm hB g _ ((List.range n).filter g) ((List.range n).map (ini g)) 0 0 (by simp) ?_ ?_ rfl ?_
      · refine Bfs.congr (out := ini g) ?_ (fun i hi => (hb0 i hi).symm)
        refine ⟨fun i hi => ?_, fun i hi => ?_, fun i hi h => ?_, fun i j hi hj hE h hq => ?_, fun x hx => ?_, fun i hi => ?_, ?_⟩
        · unfold ini; split <;> omega
        · unfold ini; split <;> simp_all
        · unfold ini at h; split at h <;> omega
        · exfalso
          refine hq (List.mem_filter.2 ⟨List.mem_range.2 hj, ?_⟩)
          unfold ini at h; split at h
          · assumption
          · omega
        · have := List.mem_filter.1 hx
          refine ⟨List.mem_range.1 this.1, ?_⟩
          unfold ini; rw [if_pos this.2]; omega
        · unfold ini; split <;> omega
        · refine List.Pairwise.imp_of_mem ?_ ((List.pairwise_lt_range (n := n)).filter g)
          intro a b ha hb _
          simp only [ini, (List.mem_filter.1 ha).2, (List.mem_filter.1 hb).2, if_true]; omega
      · intro i hi
        rw [hb0 i hi]
        have := neg_le n (D ((List.range n).map (ini g)))
        have hu : ini g i = if g i = true then 0 else -1 := rfl
        rw [hu]; split <;> omega
      · have := neg_le n (D ((List.range n).map (ini g)))
        have h2 := List.length_filter_le g (List.range n)
        rw [List.length_range] at h2
        omega) n 0 (by omega)
    simpa using this) n 0 (List.replicate n []) (by omega) ⟨by simp, fun j => by
      simp only [List.getD_eq_getElem?_getD, List.getElem?_replicate]; split <;> simp, fun j hj r hr => by
      simp [List.getElem?_replicate, hj] at hr, fun i j hi => by omega, by simp⟩
  refine ⟨r, hP, ?_⟩
  simp only [witness_distances.f, List.length_map, hln, Int.toNat_natCast]
  (first | refine Evn.pos (by first | assumption | omega | (simp; done) | (simp; omega)) ?_ | refine Evn.neg (by first | assumption | omega | (simp; done) | (simp; omega)) ?_); (first | refine Evn.pos (by first | assumption | omega | (simp; done) | (simp; omega)) ?_ | refine Evn.neg (by first | assumption | omega | (simp; done) | (simp; omega)) ?_)
  exact hr
structure Rd (n : Nat) (T : List (List S80)) (g : Nat → Bool) (k : Nat) (i p : Nat) (d : List Int) : Prop where
  len : d.length = n
  lo : ∀ a, a < n → -1 ≤ D d a ∧ D d a ≤ k + 1
  old : ∀ a, i < a → a < n → D d a ≤ k + 1
  zero : ∀ a, a < n → (D d a = 0 ↔ g a = true)
  step : ∀ a, a < n → 0 < D d a → ∃ b, b < n ∧ E T a b ∧ D d b = D d a - 1
  edge : ∀ a b, a < n → b < n → E T a b → 0 ≤ D d b → D d b < k → 0 ≤ D d a ∧ D d a ≤ D d b + 1
  now : ∀ a b, a < i → a < n → b < n → E T a b → D d b = k → 0 ≤ D d a
  cur : ∀ e ∈ (T.getD i []).take p, D d e.f2.toNat = k → 0 ≤ D d i
theorem Rd.set {n : Nat} {T : List (List S80)} {g : Nat → Bool} {k i p : Nat} {d : List Int} (hT : OkT n T) (h : Rd n T g k i p d) (hi : i < n) (hn : D d i < 0) (t : Nat) (ht : t < n) (hE : E T i t) (hk : D d t = k) : Rd n T g k i (p + 1) (d.set i ((k : Int) + 1)) := by
  have hl := h.len
  have u : ∀ x, x < n → D (d.set i ((k : Int) + 1)) x = if x = i then (k : Int) + 1 else D d x := fun x hx => D_set (by omega) x (by omega)
  have uo : ∀ x, x < n → x ≠ i → D (d.set i ((k : Int) + 1)) x = D d x := fun x hx hne => by rw [u x hx, if_neg hne]
  have ui : D (d.set i ((k : Int) + 1)) i = (k : Int) + 1 := by rw [u i hi, if_pos rfl]
  refine ⟨by simpa using hl, fun a ha => ?_, fun a h1 ha => ?_, fun a ha => ?_, fun a ha hp => ?_, fun a b ha hb hE2 h0 hk2 => ?_, fun a b hai ha hb hE2 hk2 => ?_, fun e he hk2 => ?_⟩
  · have := h.lo a ha; rw [u a ha]; split <;> omega
  · rw [uo a ha (by omega)]; exact h.old a h1 ha
  · by_cases e : a = i
    · subst e; rw [ui]
      have := h.zero a ha
      constructor
      · intro c; omega
      · intro c; have := this.2 c; omega
    · rw [uo a ha e]; exact h.zero a ha
  · by_cases e : a = i
    · subst e
      refine ⟨t, ht, hE, ?_⟩
      rw [ui, uo t ht (fun c => by subst c; omega)]; omega
    · rw [uo a ha e] at hp ⊢
      obtain ⟨b, hb, h1, h2⟩ := h.step a ha hp
      exact ⟨b, hb, h1, by rw [uo b hb (fun c => by subst c; omega)]; exact h2⟩
  · by_cases e : b = i
    · subst e; rw [ui] at hk2; omega
    · rw [uo b hb e] at h0 hk2 ⊢
      have := h.edge a b ha hb hE2 h0 hk2
      by_cases e2 : a = i
      · subst e2; omega
      · rw [uo a ha e2]; exact this
  · by_cases e : b = i
    · subst e; rw [ui] at hk2; omega
    · rw [uo b hb e] at hk2
      rw [uo a ha (by omega)]
      exact h.now a b hai ha hb hE2 hk2
  · rw [ui]; omega
theorem Rd.keep {n : Nat} {T : List (List S80)} {g : Nat → Bool} {k i p : Nat} {d : List Int} (h : Rd n T g k i p d) (hp : p < (T.getD i []).length) (hn : D d ((T.getD i [])[p]).f2.toNat = k → 0 ≤ D d i) : Rd n T g k i (p + 1) d := by
  refine ⟨h.len, h.lo, h.old, h.zero, h.step, h.edge, h.now, fun e he => ?_⟩
  rw [List.take_succ_eq_append_getElem hp] at he
  rcases List.mem_append.1 he with he | he
  · exact h.cur e he
  · obtain rfl := List.mem_singleton.1 he; exact hn
theorem Rd.next {n : Nat} {T : List (List S80)} {g : Nat → Bool} {k i p : Nat} {d : List Int} (h : Rd n T g k i p d) (hp : p = (T.getD i []).length) : Rd n T g k (i + 1) 0 d := by
  refine ⟨h.len, h.lo, fun a ha => h.old a (by omega), h.zero, h.step, h.edge, fun a b hai ha hb hE hk => ?_, by simp⟩
  by_cases e : a = i
  · subst e
    obtain ⟨e, he, ht⟩ := hE
    refine h.cur e (by rw [hp, List.take_length]; exact he) ?_
    rw [ht, Int.toNat_natCast]; exact hk
  · exact h.now a b (by omega) ha hb hE hk
theorem Rd.round {n : Nat} {T : List (List S80)} {g : Nat → Bool} {k p : Nat} {d : List Int} (h : Rd n T g k n p d) : Rd n T g (k + 1) 0 0 d := by
  refine ⟨h.len, fun a ha => ?_, fun a h1 ha => ?_, h.zero, h.step, fun a b ha hb hE h0 hk => ?_, fun a b h1 => by omega, by simp⟩
  · have := h.lo a ha; omega
  · have := h.lo a ha; omega
  · by_cases e : D d b = k
    · have := h.now a b ha ha hb hE e
      have := h.lo a ha; omega
    · exact h.edge a b ha hb hE h0 (by omega)
theorem Rd.chain {n : Nat} {T : List (List S80)} {g : Nat → Bool} {k i p : Nat} {d : List Int} (h : Rd n T g k i p d) : ∀ (m a : Nat), a < n → D d a = m → ∀ v : Nat, v ≤ m → (v : Int) ∈ d := by
  have mem : ∀ a, a < n → D d a ∈ d := fun a ha => by
    have := h.len
    simp only [D, List.getD_eq_getElem?_getD]
    rw [List.getElem?_eq_getElem (by omega)]
    exact List.getElem_mem _
  intro m
  induction m with
  | zero => intro a ha hd v hv; obtain rfl : v = 0 := by omega
            rw [← hd]; exact mem a ha
  | succ m ih =>
    intro a ha hd v hv
    by_cases e : v = m + 1
    · subst e; rw [← hd]; exact mem a ha
    · obtain ⟨b, hb, _, h2⟩ := h.step a ha (by omega)
      exact ih b hb (by omega) v (by omega)
theorem Rd.lab {n : Nat} {T : List (List S80)} {g : Nat → Bool} {k : Nat} {d : List Int} (h : Rd n T g n 0 0 d) : Lab n (E T) (fun i => g i = true) (D d) := by
  have top : ∀ a, a < n → D d a < n := by
    intro a ha
    have h1 := h.lo a ha
    rcases Int.lt_or_le (D d a) n with c | c
    · exact c
    · have h2 := h.chain (D d a).toNat a ha (by omega)
      have := pigeon (n + 1) d (fun v hv => h2 v (by omega))
      have := h.len
      omega
  exact ⟨fun a ha => (h.lo a ha).1, h.zero, h.step, fun a b ha hb hE h0 => h.edge a b ha hb hE h0 (top b hb)⟩
theorem rdL80 {T : List (List S80)} {s : Nat} : rd_L80 T (s : Int) = T.getD s [] := by simp [rd_L80]
theorem rdist_l3 {n : Nat} {T : List (List S80)} (hT : OkT n T) (g : Nat → Bool) (P : List Int → Prop) (k i : Nat) (hk : k < n) (hi : i < n)
    (next : ∀ d, Rd n T g k (i + 1) 0 d → ∃ r, P r ∧ Evn (fun f => r16_distances.l2 f T d (k : Int) ((i + 1 : Nat) : Int)) r) :
    ∀ (m p : Nat) (d : List Int), p + m = (T.getD i []).length → Rd n T g k i p d → ∃ r, P r ∧ Evn (fun f => r16_distances.l3 f T d (k : Int) (i : Int) (p : Int)) r := by
  have hsm := hT.small
  have hln := hT.len
  have hrow := hT.rows i hi
  intro m
  induction m with
  | zero =>
    intro p d hp h
    obtain ⟨r, hP, hr⟩ := next d (h.next (by omega))
    refine ⟨r, hP, Evn.succ ?_⟩
    simp only [r16_distances.l3, rdL80, hln, wrap_succ (show i < 9223372036854775807 by omega)]
    iterate 3 (first | refine Evn.pos (by first | assumption | omega | (simp; done) | (simp; omega)) ?_ | refine Evn.neg (by first | assumption | omega | (simp; done) | (simp; omega)) ?_)
    exact hr
  | succ m ih =>
    intro p d hp h
    have hpl : p < (T.getD i []).length := by omega
    have hd := h.len
    have he : rd_T80 (T.getD i []) (p : Int) ∈ T.getD i [] := by rw [rd80 hpl]; exact List.getElem_mem _
    have htg := hT.tgt i hi _ he
    obtain ⟨t, ht⟩ : ∃ t : Nat, (rd_T80 (T.getD i []) (p : Int)).f2 = (t : Int) := ⟨_, (Int.toNat_of_nonneg htg.1).symm⟩
    have htn : t < n := by omega
    have hft : ((T.getD i [])[p]).f2.toNat = t := by rw [← rd80 hpl, ht, Int.toNat_natCast]
    by_cases c : D d i < 0
    · by_cases c2 : D d t = k
      · obtain ⟨r, hP, hr⟩ := ih (p + 1) _ (by omega) (h.set hT hi c t htn ⟨_, he, ht⟩ c2)
        refine ⟨r, hP, Evn.succ ?_⟩
        simp only [r16_distances.l3, rdL80, hln, hd, rdD, ht, Int.toNat_natCast, wrap_succ (show p < 9223372036854775807 by omega), wrap_succ (show k < 9223372036854775807 by omega)]
        iterate 9 (first | refine Evn.pos (by first | assumption | omega | (simp; done) | (simp; omega)) ?_ | refine Evn.neg (by first | assumption | omega | (simp; done) | (simp; omega)) ?_)
        exact hr
      · obtain ⟨r, hP, hr⟩ := ih (p + 1) _ (by omega) (h.keep hpl (by rw [hft]; intro e; exact absurd e c2))
        refine ⟨r, hP, Evn.succ ?_⟩
        simp only [r16_distances.l3, rdL80, hln, hd, rdD, ht, Int.toNat_natCast, wrap_succ (show p < 9223372036854775807 by omega)]
        iterate 9 (first | refine Evn.pos (by first | assumption | omega | (simp; done) | (simp; omega)) ?_ | refine Evn.neg (by first | assumption | omega | (simp; done) | (simp; omega)) ?_)
        exact hr
    · obtain ⟨r, hP, hr⟩ := ih (p + 1) _ (by omega) (h.keep hpl (fun _ => by omega))
      refine ⟨r, hP, Evn.succ ?_⟩
      simp only [r16_distances.l3, rdL80, hln, hd, rdD, ht, Int.toNat_natCast, wrap_succ (show p < 9223372036854775807 by omega)]
      iterate 5 (first | refine Evn.pos (by first | assumption | omega | (simp; done) | (simp; omega)) ?_ | refine Evn.neg (by first | assumption | omega | (simp; done) | (simp; omega)) ?_)
      exact hr
theorem rdist_l2 {n : Nat} {T : List (List S80)} (hT : OkT n T) (g : Nat → Bool) (P : List Int → Prop) (k : Nat) (hk : k < n)
    (next : ∀ d, Rd n T g (k + 1) 0 0 d → ∃ r, P r ∧ Evn (fun f => r16_distances.l1 f T d ((k + 1 : Nat) : Int)) r) :
    ∀ (m i : Nat) (d : List Int), i + m = n → Rd n T g k i 0 d → ∃ r, P r ∧ Evn (fun f => r16_distances.l2 f T d (k : Int) (i : Int)) r := by
  have hsm := hT.small
  have hln := hT.len
  intro m
  induction m with
  | zero =>
    intro i d hi h
    obtain rfl : i = n := by omega
    obtain ⟨r, hP, hr⟩ := next d h.round
    refine ⟨r, hP, Evn.succ ?_⟩
    simp only [r16_distances.l2, hln, wrap_succ (show k < 9223372036854775807 by omega)]
    (first | refine Evn.pos (by first | assumption | omega | (simp; done) | (simp; omega)) ?_ | refine Evn.neg (by first | assumption | omega | (simp; done) | (simp; omega)) ?_)
    exact hr
  | succ m ih =>
    intro i d hi h
    obtain ⟨r, hP, hr⟩ := rdist_l3 hT g P k i hk (by omega) (fun d hd => ih (i + 1) d (by omega) hd) _ 0 d (by rw [Nat.zero_add]) h
    refine ⟨r, hP, Evn.succ ?_⟩
    simp only [r16_distances.l2, hln]
    (first | refine Evn.pos (by first | assumption | omega | (simp; done) | (simp; omega)) ?_ | refine Evn.neg (by first | assumption | omega | (simp; done) | (simp; omega)) ?_)
    exact hr
theorem rdist_l1 {n : Nat} {T : List (List S80)} (hT : OkT n T) (g : Nat → Bool) :
    ∀ (m k : Nat) (d : List Int), k + m = n → Rd n T g k 0 0 d → ∃ r, (r.length = n ∧ Lab n (E T) (fun i => g i = true) (D r)) ∧ Evn (fun f => r16_distances.l1 f T d (k : Int)) r := by
  have hsm := hT.small
  have hln := hT.len
  intro m
  induction m with
  | zero =>
    intro k d hk h
    obtain rfl : k = n := by omega
    refine ⟨d, ⟨h.len, h.lab (k := 0)⟩, Evn.succ ?_⟩
    simp only [r16_distances.l1, hln]
    (first | refine Evn.pos (by first | assumption | omega | (simp; done) | (simp; omega)) ?_ | refine Evn.neg (by first | assumption | omega | (simp; done) | (simp; omega)) ?_)
    exact Evn.const _
  | succ m ih =>
    intro k d hk h
    obtain ⟨r, hP, hr⟩ := rdist_l2 hT g _ k (by omega) (fun d hd => ih (k + 1) d (by omega) hd) n 0 d (by omega) h
    refine ⟨r, hP, Evn.succ ?_⟩
    simp only [r16_distances.l1, hln]
    (first | refine Evn.pos (by first | assumption | omega | (simp; done) | (simp; omega)) ?_ | refine Evn.neg (by first | assumption | omega | (simp; done) | (simp; omega)) ?_)
    exact hr
theorem rdistances_ev {n : Nat} {T : List (List S80)} (hT : OkT n T) (g : Nat → Bool) :
    ∃ r, (r.length = n ∧ Lab n (E T) (fun i => g i = true) (D r)) ∧ Evn (fun f => r16_distances.f f T ((List.range n).map g)) r := by
  have hsm := hT.small
  have hln := hT.len
  obtain ⟨r, hP, hr⟩ := rdist_l1 hT g n 0 ((List.range n).map (ini g)) (by omega) (by
    have hb0 : ∀ i, i < n → D ((List.range n).map (ini g)) i = ini g i := ini_range g n
    have hi : ∀ i, ini g i = if g i = true then 0 else -1 := fun i => rfl
    refine ⟨by simp, fun a ha => ?_, fun a h1 ha => ?_, fun a ha => ?_, fun a ha h => ?_, fun a b ha hb hE h0 hk => by omega, fun a b h1 => by omega, by simp⟩
    · rw [hb0 a ha, hi]; split <;> omega
    · rw [hb0 a ha, hi]; split <;> omega
    · rw [hb0 a ha, hi]; split <;> simp_all
    · rw [hb0 a ha, hi] at h; split at h <;> omega)
  refine ⟨r, hP, ?_⟩
  have key : ∀ (m i : Nat), i + m = n → Evn (fun f => r16_distances.l0 f T ((List.range n).map g) ((List.range i).map (ini g)) (i : Int)) r := by
    intro m
    induction m with
    | zero =>
      intro i hi
      obtain rfl : i = n := by omega
      refine Evn.succ ?_
      simp only [r16_distances.l0, hln]
      (first | refine Evn.pos (by first | assumption | omega | (simp; done) | (simp; omega)) ?_ | refine Evn.neg (by first | assumption | omega | (simp; done) | (simp; omega)) ?_)
      exact hr
    | succ m ih =>
      intro i hi
      have := ih (i + 1) (by omega)
      rw [List.range_succ, List.map_append, List.map_singleton] at this
      have hrd : rdOf false ((List.range n).map g) (i : Int) = g i := by simp [rdOf, show i < n by omega]
      refine Evn.succ ?_
      simp only [r16_distances.l0, hln, hrd, wrap_succ (show i < 9223372036854775807 by omega)]
      (first | refine Evn.pos (by first | assumption | omega | (simp; done) | (simp; omega)) ?_ | refine Evn.neg (by first | assumption | omega | (simp; done) | (simp; omega)) ?_); (first | refine Evn.pos (by first | assumption | omega | (simp; done) | (simp; omega)) ?_ | refine Evn.neg (by first | assumption | omega | (simp; done) | (simp; omega)) ?_)
      refine Evn.pos (by simp; omega) ?_
      by_cases c : g i = true
      · refine Evn.pos c ?_
        refine Evn.pos (by simp; omega) ?_
        simpa [ini, c] using this
      · refine Evn.neg c ?_
        refine Evn.pos (by simp; omega) ?_
        simpa [ini, c] using this
  exact key n 0 (by omega)
end Go.Proofs.Ytfnjbgggmddgpaa.Q
end
section
namespace Go.Proofs.Ytfnjbgggmddgpaa.Q
open Go.RowKit Go.Proofs.Fn Go.Proofs.YtfnjbgggmddgpaaW.PrintWords Go.Proofs.YtfnjbgggmddgpaaW.PrintLast Go.Proofs.YtfnjbgggmddgpaaW.PrintMore
attribute [local go_sem] max2_int min2_int max_two min_two max_three min_three max_four min_four
set_option linter.unusedVariables false
set_option linter.unusedSimpArgs false
mutual
def witness_follow.l0 : Nat → List (List (S66)) → List Int → Int → List Int → Option (List Int)
 | 0, _, _, _, _ => none
 | k + 1, x0, x1, x2, x7 => if 0 ≤ x2 then (if x2 < (x1.length : Int) then (if (rd x1 x2) > 0 then (if x2 < (x0.length : Int) then (witness_follow.l1 k x0 x1 x2 x7 (rd_L66 x0 x2) ((rd_L66 x0 x2).length : Int) 0) else (none)) else (some x7)) else (none)) else (none)
def witness_follow.l1 : Nat → List (List (S66)) → List Int → Int → List Int → List (S66) → Int → Int → Option (List Int)
 | 0, _, _, _, _, _, _, _ => none
 | k + 1, x0, x1, x2, x7, x18, x19, x20 => if x20 < x19 then (if 0 ≤ x20 then (if x20 < (x18.length : Int) then (if 0 ≤ ((rd_T66 x18 x20).f1) then (if ((rd_T66 x18 x20).f1) < (x1.length : Int) then (if 0 ≤ x2 then (if x2 < (x1.length : Int) then (if (rd x1 ((rd_T66 x18 x20).f1)) = (wrap64 ((rd x1 x2) - 1)) then (if x7.length < 17592186044416 then (witness_follow.l0 k x0 x1 ((rd_T66 x18 x20).f1) (x7 ++ [(rd_T66 x18 x20).f0])) else (none)) else (witness_follow.l1 k x0 x1 x2 x7 x18 x19 (wrap64 (x20 + 1)))) else (none)) else (none)) else (none)) else (none)) else (none)) else (none)) else (witness_follow.l0 k x0 x1 x2 x7)
end
def witness_follow.f (k : Nat) (l0 : List (List (S66))) (l1 : List Int) (a2 : Int) : Option (List Int) := witness_follow.l0 k l0 l1 a2 ([] : List Int)
set_option maxHeartbeats 8000000 in
set_option maxRecDepth 100000 in
theorem witness_follow.calls (k : Nat) (A0 : Option Addr) (c0 : Nat) (l0 : List (List (S66))) (A1 : Option Addr) (c1 : Nat) (l1 : List Int) (a2 : Int) (r : List Int) (w : World) (hr0 : Kd.C (Kd.slice 66 k66) w A0 l0.length l0) (hc0 : l0.length ≤ c0) (hr1 : Kd.C (Kd.int .i64) w A1 l1.length l1) (hc1 : l1.length ≤ c1) (h : witness_follow.f k l0 l1 a2 = some r) :
  Calls Try.prog 55 #[.slice A0 l0.length c0, .slice A1 l1.length c1, .int .i64 a2] w fun e w' => ∃ v0_ : Value, e = .returned (v0_) ∧ Kd.R (Kd.int .i64) 3 w' w.heap.size (fun _ => True) v0_ r ∧ Below w.heap.size w w' := by
 have hu66 := Try.underlying66
 have HR0 := Aside0.mk hr0
 have HC0 := Aside0.mk hc0
 clear hr0 hc0
 have HR1 := Aside0.mk hr1
 have HC1 := Aside0.mk hc1
 clear hr1 hc1
 have HB := Aside0.mk (Below.refl w.heap.size w)
 have H : (witness_follow.l0 k l0 l1 a2 ([] : List Int)) = some r := h
 clear h
 have H' := Aside0.mk H
 clear H
 go_enter Try.func55, Try.ntmps55
 go_wp2_with go_step3
 repeat (go_quiet (fail); try go_wp2_with go_step3)
 go_loopg [2, 7] k (fun kq v2 v7 w' => ∃ (x2_1 : Int) (x7_1 : List Int), v2 = .int .i64 x2_1 ∧ Aside0 (witness_follow.l0 kq l0 l1 x2_1 x7_1 = some r) ∧ Aside0 (kq ≤ k) ∧ Aside0 (Kd.R (Kd.int .i64) 3 w' w.heap.size (fun _ => True) v7 x7_1) ∧ Aside0 (Below w.heap.size w w'))
 case atStart => exact ⟨(a2), (([] : List Int)), tU, H', ⟨Nat.le_refl _⟩, ⟨tV⟩, ⟨tB⟩⟩
 case round =>
  clear H'
  (try clear c1); (try clear p2)
  obtain ⟨x2_1, x7_1, rfl, HA, HK1, HO_7, HB⟩ := hrel
  cases gk with
  | zero => exact absurd HA.out (by simp [witness_follow.l0])
  | succ k1 =>
   have H := HA.out
   clear HA
   simp only [witness_follow.l0] at H
   by_cases c4 : 0 ≤ x2_1
   ·rw [if_pos c4] at H
    have c4b0 := decide_eq_true c4
    clear c4
    replace H := tF H
    obtain ⟨c5, H⟩ := H
    have c5b0 := decide_eq_true c5
    clear c5
    by_cases c6 : (rd l1 x2_1) > 0
    ·rw [if_pos c6] at H
     have c6b0 := tdGi c6
     clear c6
     replace H := tF H
     obtain ⟨c7, H⟩ := H
     have c7b0 := decide_eq_true c7
     clear c7
     have H' := Aside0.mk H
     clear H
     have p101 : 0 ≤ (x2_1 : Int) := tD
     have q101 : x2_1 < (l1.length : Int) := tD
     obtain ⟨ad101, e101, hx101_0⟩ := Kd.at_int HR1.out x2_1 p101 q101
     cases e101
     replace hx101_0 := tH HB hx101_0
     replace p101 := eq_true p101
     replace q101 := eq_true q101
     have p102 : 0 ≤ (x2_1 : Int) := tD
     have q102 : x2_1 < (l0.length : Int) := tD
     obtain ⟨ad102, A102_0, c102_0, e102, hx102_0, hl102_0, hi102_0⟩ := at_L66 HR0.out x2_1 p102 q102
     cases e102
     replace hx102_0 := tH HB hx102_0
     have HR102_0 := Aside0.mk hi102_0
     have HC102_0 := Aside0.mk hl102_0
     clear hi102_0 hl102_0
     replace p102 := eq_true p102
     replace q102 := eq_true q102
     go_wp2_with go_step3
     repeat (go_quiet (fail); try go_wp2_with go_step3)
     go_loopg [2, 7, 20] k1 (fun kq v2 v7 v20 w' => ∃ (x2_2 : Int) (x7_2 : List Int) (x20_2 : Int), v2 = .int .i64 x2_2 ∧ v20 = .int .i64 x20_2 ∧ Aside0 (witness_follow.l1 kq l0 l1 x2_2 x7_2 (rd_L66 l0 x2_1) ((rd_L66 l0 x2_1).length : Int) x20_2 = some r) ∧ Aside0 (kq ≤ k1) ∧ Aside0 (Kd.R (Kd.int .i64) 3 w' w.heap.size (fun _ => True) v7 x7_2) ∧ Aside0 (Below w.heap.size w w'))
     case atStart => exact ⟨(x2_1), (x7_1), (0), tU, tU, H', ⟨Nat.le_refl _⟩, ⟨tR HO_7⟩, ⟨tB⟩⟩
     case round =>
      clear H'
      (try clear c1); (try clear p1); (try clear q1); (try clear hx1); (try clear p2); (try clear c4); (try clear c4b0); (try clear c5); (try clear c5b0); (try clear c6); (try clear c6b0); (try clear c7); (try clear c7b0); (try clear hx101_0); (try clear hx102_0); (try clear p101); (try clear p102); (try clear q101); (try clear q102)
      obtain ⟨x2_2, x7_2, x20_2, rfl, rfl, HA, HK2, HO_7, HB⟩ := hrel
      cases gk with
      | zero => exact absurd HA.out (by simp [witness_follow.l1])
      | succ k2 =>
       have H := HA.out
       clear HA
       simp only [witness_follow.l1] at H
       by_cases c8 : x20_2 < ((rd_L66 l0 x2_1).length : Int)
       ·rw [if_pos c8] at H
        have c8b0 := decide_eq_true c8
        clear c8
        replace H := tF H
        obtain ⟨c9, H⟩ := H
        have c9b0 := decide_eq_true c9
        clear c9
        replace H := tF H
        obtain ⟨c10, H⟩ := H
        have c10b0 := decide_eq_true c10
        clear c10
        replace H := tF H
        obtain ⟨c11, H⟩ := H
        have c11b0 := decide_eq_true c11
        clear c11
        replace H := tF H
        obtain ⟨c12, H⟩ := H
        have c12b0 := decide_eq_true c12
        clear c12
        replace H := tF H
        obtain ⟨c13, H⟩ := H
        have c13b0 := decide_eq_true c13
        clear c13
        replace H := tF H
        obtain ⟨c14, H⟩ := H
        have c14b0 := decide_eq_true c14
        clear c14
        by_cases c15 : (rd l1 ((rd_T66 (rd_L66 l0 x2_1) x20_2).f1)) = (wrap64 ((rd l1 x2_2) - 1))
        ·rw [if_pos c15] at H
         have c15b0 := beq_iff_eq.mpr c15
         have c15b1 := bne_eq_false_iff_eq.mpr c15
         clear c15
         replace H := tF H
         obtain ⟨c16, H⟩ := H
         have LMc16 := Aside0.mk c16
         clear c16
         obtain ⟨y107, hy107⟩ : ∃ y_ : List Int, y_ = (x7_2 ++ [(rd_T66 (rd_L66 l0 x2_1) x20_2).f0]) := ⟨_, rfl⟩
         replace H : (witness_follow.l0 k2 l0 l1 ((rd_T66 (rd_L66 l0 x2_1) x20_2).f1) y107) = some r := tQ hy107 H
         have Ny107 := Aside0.mk hy107
         clear hy107
         have H' := Aside0.mk H
         clear H
         have p103 : 0 ≤ (x20_2 : Int) := tD
         have q103 : x20_2 < ((rd_L66 l0 x2_1).length : Int) := tD
         obtain ⟨ad103, e103, hx103_0, hx103_1⟩ := at_T66 HR102_0.out x20_2 p103 q103
         cases e103
         replace hx103_0 := tH HB hx103_0
         replace hx103_1 := tH HB hx103_1
         replace p103 := eq_true p103
         replace q103 := eq_true q103
         go_wp2_with (first | go_step3 | ((with_reducible refine gate_dst (N := 9) rfl ?_); refine tBx 9 66 #[.int .i64 0, .int .i64 0] ?_; intro gb104 hg w17 hbox hb; replace HO_7 := Aside0.mk (Kd.R_below (tR HO_7) hb); have BK104 := Aside0.mk (hbox); have GW104 := tW HB hg; have GE104 := tW HB hg; replace HB := tA HB hb; clear hb hbox hg; obtain ⟨hcz18_0, hcz18_1, hfz18_0, hfz18_1⟩ := zc2 BK104; have p105 : 0 ≤ (((rd_T66 (rd_L66 l0 x2_1) x20_2).f1) : Int) := tD; have q105 : ((rd_T66 (rd_L66 l0 x2_1) x20_2).f1) < (l1.length : Int) := tD; obtain ⟨ad105, e105, hx105_0⟩ := Kd.at_int HR1.out ((rd_T66 (rd_L66 l0 x2_1) x20_2).f1) p105 q105; obtain rfl : ad101 = ad105 := (by injection e105); have hn105_0 : ad101.block ≠ gb104 := Nat.ne_of_lt (Nat.lt_of_lt_of_le (by have := World.block_lt_of_cell? _ _ hx105_0; first | rwa [add_block] at this | exact this) GW104.out); have hn105_1 : ad101.block ≠ gb104 := Nat.ne_of_lt (Nat.lt_of_lt_of_le (by have := World.block_lt_of_cell? _ _ hx105_0; first | rwa [add_block] at this | exact this) GW104.out); replace hx105_0 := tH HB hx105_0; replace hx105_0 := (cell_far (p := ⟨gb104, 0, none⟩) (by first | (rw [add_block]; exact hn105_0) | (show (Addr.add _ _).block ≠ _; rw [add_block]; exact hn105_0) | exact hn105_0) (.int .i64 ((rd_T66 (rd_L66 l0 x2_1) x20_2).f0))).trans hx105_0; replace hx105_0 := (cell_far (p := ⟨gb104, 1, none⟩) (by first | (rw [add_block]; exact hn105_1) | (show (Addr.add _ _).block ≠ _; rw [add_block]; exact hn105_1) | exact hn105_1) (.int .i64 ((rd_T66 (rd_L66 l0 x2_1) x20_2).f1))).trans hx105_0; (try have hy105_0 := fun (n_ : Nat) => (show ((((w17.drewN n_).setCell ⟨gb104, 0, none⟩ (.int .i64 ((rd_T66 (rd_L66 l0 x2_1) x20_2).f0))).setCell ⟨gb104, 1, none⟩ (.int .i64 ((rd_T66 (rd_L66 l0 x2_1) x20_2).f1)))).cell? _ = some _ from hx105_0)); clear hn105_0; clear hn105_1; replace p105 := eq_true p105; replace q105 := eq_true q105; have p106 : 0 ≤ (x2_2 : Int) := tD; have q106 : x2_2 < (l1.length : Int) := tD; obtain ⟨ad106, e106, hx106_0⟩ := Kd.at_int HR1.out x2_2 p106 q106; obtain rfl : ad101 = ad106 := (by injection e106); have hn106_0 : ad101.block ≠ gb104 := Nat.ne_of_lt (Nat.lt_of_lt_of_le (by have := World.block_lt_of_cell? _ _ hx106_0; first | rwa [add_block] at this | exact this) GW104.out); have hn106_1 : ad101.block ≠ gb104 := Nat.ne_of_lt (Nat.lt_of_lt_of_le (by have := World.block_lt_of_cell? _ _ hx106_0; first | rwa [add_block] at this | exact this) GW104.out); replace hx106_0 := tH HB hx106_0; replace hx106_0 := (cell_far (p := ⟨gb104, 0, none⟩) (by first | (rw [add_block]; exact hn106_0) | (show (Addr.add _ _).block ≠ _; rw [add_block]; exact hn106_0) | exact hn106_0) (.int .i64 ((rd_T66 (rd_L66 l0 x2_1) x20_2).f0))).trans hx106_0; replace hx106_0 := (cell_far (p := ⟨gb104, 1, none⟩) (by first | (rw [add_block]; exact hn106_1) | (show (Addr.add _ _).block ≠ _; rw [add_block]; exact hn106_1) | exact hn106_1) (.int .i64 ((rd_T66 (rd_L66 l0 x2_1) x20_2).f1))).trans hx106_0; (try have hy106_0 := fun (n_ : Nat) => (show ((((w17.drewN n_).setCell ⟨gb104, 0, none⟩ (.int .i64 ((rd_T66 (rd_L66 l0 x2_1) x20_2).f0))).setCell ⟨gb104, 1, none⟩ (.int .i64 ((rd_T66 (rd_L66 l0 x2_1) x20_2).f1)))).cell? _ = some _ from hx106_0)); clear hn106_0; clear hn106_1; replace p106 := eq_true p106; replace q106 := eq_true q106) | ((with_reducible refine gate_builtin (b := .append) (xs := #[.tmp 35, .tmp 38]) rfl ?_); at_builtin; refine Kd.R_append (Kd.int .i64) (w0 := w) w.heap.size rfl (.tmp 35) (.tmp 38) 28 3 (.int .i64 0) 8 rfl Try.underlying28 info3 rfl (by decide) (by omega) u7 x7_2 ((rd_T66 (rd_L66 l0 x2_1) x20_2).f0) [.int .i64 ((rd_T66 (rd_L66 l0 x2_1) x20_2).f0)] (fun _ => True) (fun _ => False) rfl (by first | (go_simp; done) | (go_simp; rfl)) ?aP (fun _ hk => hk.elim) ?aF ?aO ?aB ?aS ?aL ?_; (case aP => exact rfl); (case aB => exact (tB)); (case aF => exact (fun _ _ => trivial)); (case aO => exact (by (with_reducible repeat (first | apply Kd.R_alloc | apply Kd.R_drewN | apply Kd.R_drew)); exact Kd.R_mono (Kd.R_far (p := ⟨gb104, 1, none⟩) (Kd.R_far (p := ⟨gb104, 0, none⟩) (Kd.R_types HO_7.out BK104.out (by decide)) (fun _ hk => hk.2) (.int .i64 ((rd_T66 (rd_L66 l0 x2_1) x20_2).f0))) (fun _ hk => hk.2) (.int .i64 ((rd_T66 (rd_L66 l0 x2_1) x20_2).f1))) (fun _ hk => trivial))); (case aS => exact (below_size (tB))); (case aL => have := LMc16.out; omega); intro v108 w19 ho hb hg hat; rw [← Ny107.out] at ho; replace BK104 := Aside0.mk (blk_grown (g := gb104) (o := .cells #[.int .i64 ((rd_T66 (rd_L66 l0 x2_1) x20_2).f0), .int .i64 ((rd_T66 (rd_L66 l0 x2_1) x20_2).f1)] 66 (0, 0)) (by (with_reducible repeat (first | refine blk_drewN ?_ _ | refine blk_drew ?_ | refine blk_alloc ?_ _)); refine blk_put (cs := #[.int .i64 ((rd_T66 (rd_L66 l0 x2_1) x20_2).f0), .int .i64 0]) ?_ 1 _ rfl; (with_reducible repeat (first | refine blk_drewN ?_ _ | refine blk_drew ?_ | refine blk_alloc ?_ _)); refine blk_put (cs := #[.int .i64 0, .int .i64 0]) ?_ 0 _ rfl; (with_reducible repeat (first | refine blk_drewN ?_ _ | refine blk_drew ?_ | refine blk_alloc ?_ _)); exact BK104.out) hg (Kd.R_ne HO_7.out BK104.out (by decide))); replace HB := Aside0.mk (hb); have HO109 := Aside0.mk (ho); clear HO_7; clear ho hb hg hat; obtain ⟨hcz20_0, hcz20_1, hfz20_0, hfz20_1⟩ := zc2 BK104))
         repeat (go_quiet (first | ((with_reducible refine gate_dst (N := 9) rfl ?_); refine tBx 9 66 #[.int .i64 0, .int .i64 0] ?_; intro gb104 hg w17 hbox hb; replace HO_7 := Aside0.mk (Kd.R_below (tR HO_7) hb); have BK104 := Aside0.mk (hbox); have GW104 := tW HB hg; have GE104 := tW HB hg; replace HB := tA HB hb; clear hb hbox hg; obtain ⟨hcz18_0, hcz18_1, hfz18_0, hfz18_1⟩ := zc2 BK104; have p105 : 0 ≤ (((rd_T66 (rd_L66 l0 x2_1) x20_2).f1) : Int) := tD; have q105 : ((rd_T66 (rd_L66 l0 x2_1) x20_2).f1) < (l1.length : Int) := tD; obtain ⟨ad105, e105, hx105_0⟩ := Kd.at_int HR1.out ((rd_T66 (rd_L66 l0 x2_1) x20_2).f1) p105 q105; obtain rfl : ad101 = ad105 := (by injection e105); have hn105_0 : ad101.block ≠ gb104 := Nat.ne_of_lt (Nat.lt_of_lt_of_le (by have := World.block_lt_of_cell? _ _ hx105_0; first | rwa [add_block] at this | exact this) GW104.out); have hn105_1 : ad101.block ≠ gb104 := Nat.ne_of_lt (Nat.lt_of_lt_of_le (by have := World.block_lt_of_cell? _ _ hx105_0; first | rwa [add_block] at this | exact this) GW104.out); replace hx105_0 := tH HB hx105_0; replace hx105_0 := (cell_far (p := ⟨gb104, 0, none⟩) (by first | (rw [add_block]; exact hn105_0) | (show (Addr.add _ _).block ≠ _; rw [add_block]; exact hn105_0) | exact hn105_0) (.int .i64 ((rd_T66 (rd_L66 l0 x2_1) x20_2).f0))).trans hx105_0; replace hx105_0 := (cell_far (p := ⟨gb104, 1, none⟩) (by first | (rw [add_block]; exact hn105_1) | (show (Addr.add _ _).block ≠ _; rw [add_block]; exact hn105_1) | exact hn105_1) (.int .i64 ((rd_T66 (rd_L66 l0 x2_1) x20_2).f1))).trans hx105_0; (try have hy105_0 := fun (n_ : Nat) => (show ((((w17.drewN n_).setCell ⟨gb104, 0, none⟩ (.int .i64 ((rd_T66 (rd_L66 l0 x2_1) x20_2).f0))).setCell ⟨gb104, 1, none⟩ (.int .i64 ((rd_T66 (rd_L66 l0 x2_1) x20_2).f1)))).cell? _ = some _ from hx105_0)); clear hn105_0; clear hn105_1; replace p105 := eq_true p105; replace q105 := eq_true q105; have p106 : 0 ≤ (x2_2 : Int) := tD; have q106 : x2_2 < (l1.length : Int) := tD; obtain ⟨ad106, e106, hx106_0⟩ := Kd.at_int HR1.out x2_2 p106 q106; obtain rfl : ad101 = ad106 := (by injection e106); have hn106_0 : ad101.block ≠ gb104 := Nat.ne_of_lt (Nat.lt_of_lt_of_le (by have := World.block_lt_of_cell? _ _ hx106_0; first | rwa [add_block] at this | exact this) GW104.out); have hn106_1 : ad101.block ≠ gb104 := Nat.ne_of_lt (Nat.lt_of_lt_of_le (by have := World.block_lt_of_cell? _ _ hx106_0; first | rwa [add_block] at this | exact this) GW104.out); replace hx106_0 := tH HB hx106_0; replace hx106_0 := (cell_far (p := ⟨gb104, 0, none⟩) (by first | (rw [add_block]; exact hn106_0) | (show (Addr.add _ _).block ≠ _; rw [add_block]; exact hn106_0) | exact hn106_0) (.int .i64 ((rd_T66 (rd_L66 l0 x2_1) x20_2).f0))).trans hx106_0; replace hx106_0 := (cell_far (p := ⟨gb104, 1, none⟩) (by first | (rw [add_block]; exact hn106_1) | (show (Addr.add _ _).block ≠ _; rw [add_block]; exact hn106_1) | exact hn106_1) (.int .i64 ((rd_T66 (rd_L66 l0 x2_1) x20_2).f1))).trans hx106_0; (try have hy106_0 := fun (n_ : Nat) => (show ((((w17.drewN n_).setCell ⟨gb104, 0, none⟩ (.int .i64 ((rd_T66 (rd_L66 l0 x2_1) x20_2).f0))).setCell ⟨gb104, 1, none⟩ (.int .i64 ((rd_T66 (rd_L66 l0 x2_1) x20_2).f1)))).cell? _ = some _ from hx106_0)); clear hn106_0; clear hn106_1; replace p106 := eq_true p106; replace q106 := eq_true q106) | ((with_reducible refine gate_builtin (b := .append) (xs := #[.tmp 35, .tmp 38]) rfl ?_); at_builtin; refine Kd.R_append (Kd.int .i64) (w0 := w) w.heap.size rfl (.tmp 35) (.tmp 38) 28 3 (.int .i64 0) 8 rfl Try.underlying28 info3 rfl (by decide) (by omega) u7 x7_2 ((rd_T66 (rd_L66 l0 x2_1) x20_2).f0) [.int .i64 ((rd_T66 (rd_L66 l0 x2_1) x20_2).f0)] (fun _ => True) (fun _ => False) rfl (by first | (go_simp; done) | (go_simp; rfl)) ?aP (fun _ hk => hk.elim) ?aF ?aO ?aB ?aS ?aL ?_; (case aP => exact rfl); (case aB => exact (tB)); (case aF => exact (fun _ _ => trivial)); (case aO => exact (by (with_reducible repeat (first | apply Kd.R_alloc | apply Kd.R_drewN | apply Kd.R_drew)); exact Kd.R_mono (Kd.R_far (p := ⟨gb104, 1, none⟩) (Kd.R_far (p := ⟨gb104, 0, none⟩) (Kd.R_types HO_7.out BK104.out (by decide)) (fun _ hk => hk.2) (.int .i64 ((rd_T66 (rd_L66 l0 x2_1) x20_2).f0))) (fun _ hk => hk.2) (.int .i64 ((rd_T66 (rd_L66 l0 x2_1) x20_2).f1))) (fun _ hk => trivial))); (case aS => exact (below_size (tB))); (case aL => have := LMc16.out; omega); intro v108 w19 ho hb hg hat; rw [← Ny107.out] at ho; replace BK104 := Aside0.mk (blk_grown (g := gb104) (o := .cells #[.int .i64 ((rd_T66 (rd_L66 l0 x2_1) x20_2).f0), .int .i64 ((rd_T66 (rd_L66 l0 x2_1) x20_2).f1)] 66 (0, 0)) (by (with_reducible repeat (first | refine blk_drewN ?_ _ | refine blk_drew ?_ | refine blk_alloc ?_ _)); refine blk_put (cs := #[.int .i64 ((rd_T66 (rd_L66 l0 x2_1) x20_2).f0), .int .i64 0]) ?_ 1 _ rfl; (with_reducible repeat (first | refine blk_drewN ?_ _ | refine blk_drew ?_ | refine blk_alloc ?_ _)); refine blk_put (cs := #[.int .i64 0, .int .i64 0]) ?_ 0 _ rfl; (with_reducible repeat (first | refine blk_drewN ?_ _ | refine blk_drew ?_ | refine blk_alloc ?_ _)); exact BK104.out) hg (Kd.R_ne HO_7.out BK104.out (by decide))); replace HB := Aside0.mk (hb); have HO109 := Aside0.mk (ho); clear HO_7; clear ho hb hg hat; obtain ⟨hcz20_0, hcz20_1, hfz20_0, hfz20_1⟩ := zc2 BK104)); try go_wp2_with (first | go_step3 | ((with_reducible refine gate_dst (N := 9) rfl ?_); refine tBx 9 66 #[.int .i64 0, .int .i64 0] ?_; intro gb104 hg w17 hbox hb; replace HO_7 := Aside0.mk (Kd.R_below (tR HO_7) hb); have BK104 := Aside0.mk (hbox); have GW104 := tW HB hg; have GE104 := tW HB hg; replace HB := tA HB hb; clear hb hbox hg; obtain ⟨hcz18_0, hcz18_1, hfz18_0, hfz18_1⟩ := zc2 BK104; have p105 : 0 ≤ (((rd_T66 (rd_L66 l0 x2_1) x20_2).f1) : Int) := tD; have q105 : ((rd_T66 (rd_L66 l0 x2_1) x20_2).f1) < (l1.length : Int) := tD; obtain ⟨ad105, e105, hx105_0⟩ := Kd.at_int HR1.out ((rd_T66 (rd_L66 l0 x2_1) x20_2).f1) p105 q105; obtain rfl : ad101 = ad105 := (by injection e105); have hn105_0 : ad101.block ≠ gb104 := Nat.ne_of_lt (Nat.lt_of_lt_of_le (by have := World.block_lt_of_cell? _ _ hx105_0; first | rwa [add_block] at this | exact this) GW104.out); have hn105_1 : ad101.block ≠ gb104 := Nat.ne_of_lt (Nat.lt_of_lt_of_le (by have := World.block_lt_of_cell? _ _ hx105_0; first | rwa [add_block] at this | exact this) GW104.out); replace hx105_0 := tH HB hx105_0; replace hx105_0 := (cell_far (p := ⟨gb104, 0, none⟩) (by first | (rw [add_block]; exact hn105_0) | (show (Addr.add _ _).block ≠ _; rw [add_block]; exact hn105_0) | exact hn105_0) (.int .i64 ((rd_T66 (rd_L66 l0 x2_1) x20_2).f0))).trans hx105_0; replace hx105_0 := (cell_far (p := ⟨gb104, 1, none⟩) (by first | (rw [add_block]; exact hn105_1) | (show (Addr.add _ _).block ≠ _; rw [add_block]; exact hn105_1) | exact hn105_1) (.int .i64 ((rd_T66 (rd_L66 l0 x2_1) x20_2).f1))).trans hx105_0; (try have hy105_0 := fun (n_ : Nat) => (show ((((w17.drewN n_).setCell ⟨gb104, 0, none⟩ (.int .i64 ((rd_T66 (rd_L66 l0 x2_1) x20_2).f0))).setCell ⟨gb104, 1, none⟩ (.int .i64 ((rd_T66 (rd_L66 l0 x2_1) x20_2).f1)))).cell? _ = some _ from hx105_0)); clear hn105_0; clear hn105_1; replace p105 := eq_true p105; replace q105 := eq_true q105; have p106 : 0 ≤ (x2_2 : Int) := tD; have q106 : x2_2 < (l1.length : Int) := tD; obtain ⟨ad106, e106, hx106_0⟩ := Kd.at_int HR1.out x2_2 p106 q106; obtain rfl : ad101 = ad106 := (by injection e106); have hn106_0 : ad101.block ≠ gb104 := Nat.ne_of_lt (Nat.lt_of_lt_of_le (by have := World.block_lt_of_cell? _ _ hx106_0; first | rwa [add_block] at this | exact this) GW104.out); have hn106_1 : ad101.block ≠ gb104 := Nat.ne_of_lt (Nat.lt_of_lt_of_le (by have := World.block_lt_of_cell? _ _ hx106_0; first | rwa [add_block] at this | exact this) GW104.out); replace hx106_0 := tH HB hx106_0; replace hx106_0 := (cell_far (p := ⟨gb104, 0, none⟩) (by first | (rw [add_block]; exact hn106_0) | (show (Addr.add _ _).block ≠ _; rw [add_block]; exact hn106_0) | exact hn106_0) (.int .i64 ((rd_T66 (rd_L66 l0 x2_1) x20_2).f0))).trans hx106_0; replace hx106_0 := (cell_far (p := ⟨gb104, 1, none⟩) (by first | (rw [add_block]; exact hn106_1) | (show (Addr.add _ _).block ≠ _; rw [add_block]; exact hn106_1) | exact hn106_1) (.int .i64 ((rd_T66 (rd_L66 l0 x2_1) x20_2).f1))).trans hx106_0; (try have hy106_0 := fun (n_ : Nat) => (show ((((w17.drewN n_).setCell ⟨gb104, 0, none⟩ (.int .i64 ((rd_T66 (rd_L66 l0 x2_1) x20_2).f0))).setCell ⟨gb104, 1, none⟩ (.int .i64 ((rd_T66 (rd_L66 l0 x2_1) x20_2).f1)))).cell? _ = some _ from hx106_0)); clear hn106_0; clear hn106_1; replace p106 := eq_true p106; replace q106 := eq_true q106) | ((with_reducible refine gate_builtin (b := .append) (xs := #[.tmp 35, .tmp 38]) rfl ?_); at_builtin; refine Kd.R_append (Kd.int .i64) (w0 := w) w.heap.size rfl (.tmp 35) (.tmp 38) 28 3 (.int .i64 0) 8 rfl Try.underlying28 info3 rfl (by decide) (by omega) u7 x7_2 ((rd_T66 (rd_L66 l0 x2_1) x20_2).f0) [.int .i64 ((rd_T66 (rd_L66 l0 x2_1) x20_2).f0)] (fun _ => True) (fun _ => False) rfl (by first | (go_simp; done) | (go_simp; rfl)) ?aP (fun _ hk => hk.elim) ?aF ?aO ?aB ?aS ?aL ?_; (case aP => exact rfl); (case aB => exact (tB)); (case aF => exact (fun _ _ => trivial)); (case aO => exact (by (with_reducible repeat (first | apply Kd.R_alloc | apply Kd.R_drewN | apply Kd.R_drew)); exact Kd.R_mono (Kd.R_far (p := ⟨gb104, 1, none⟩) (Kd.R_far (p := ⟨gb104, 0, none⟩) (Kd.R_types HO_7.out BK104.out (by decide)) (fun _ hk => hk.2) (.int .i64 ((rd_T66 (rd_L66 l0 x2_1) x20_2).f0))) (fun _ hk => hk.2) (.int .i64 ((rd_T66 (rd_L66 l0 x2_1) x20_2).f1))) (fun _ hk => trivial))); (case aS => exact (below_size (tB))); (case aL => have := LMc16.out; omega); intro v108 w19 ho hb hg hat; rw [← Ny107.out] at ho; replace BK104 := Aside0.mk (blk_grown (g := gb104) (o := .cells #[.int .i64 ((rd_T66 (rd_L66 l0 x2_1) x20_2).f0), .int .i64 ((rd_T66 (rd_L66 l0 x2_1) x20_2).f1)] 66 (0, 0)) (by (with_reducible repeat (first | refine blk_drewN ?_ _ | refine blk_drew ?_ | refine blk_alloc ?_ _)); refine blk_put (cs := #[.int .i64 ((rd_T66 (rd_L66 l0 x2_1) x20_2).f0), .int .i64 0]) ?_ 1 _ rfl; (with_reducible repeat (first | refine blk_drewN ?_ _ | refine blk_drew ?_ | refine blk_alloc ?_ _)); refine blk_put (cs := #[.int .i64 0, .int .i64 0]) ?_ 0 _ rfl; (with_reducible repeat (first | refine blk_drewN ?_ _ | refine blk_drew ?_ | refine blk_alloc ?_ _)); exact BK104.out) hg (Kd.R_ne HO_7.out BK104.out (by decide))); replace HB := Aside0.mk (hb); have HO109 := Aside0.mk (ho); clear HO_7; clear ho hb hg hat; obtain ⟨hcz20_0, hcz20_1, hfz20_0, hfz20_1⟩ := zc2 BK104)))
         go_roundg k2
         case measure => have := HK1.out; have := HK2.out; omega
         case rel => exact ⟨((rd_T66 (rd_L66 l0 x2_1) x20_2).f1), (y107), tU, H', ⟨by have := HK1.out; have := HK2.out; omega⟩, ⟨tR HO109⟩, ⟨tB⟩⟩
        rw [if_neg c15] at H
        have c15b0 := beq_eq_false_iff_ne.mpr c15
        have c15b1 := bne_iff_ne.mpr c15
        have H' := Aside0.mk H
        clear H
        have p103 : 0 ≤ (x20_2 : Int) := tD
        have q103 : x20_2 < ((rd_L66 l0 x2_1).length : Int) := tD
        obtain ⟨ad103, e103, hx103_0, hx103_1⟩ := at_T66 HR102_0.out x20_2 p103 q103
        cases e103
        replace hx103_0 := tH HB hx103_0
        replace hx103_1 := tH HB hx103_1
        replace p103 := eq_true p103
        replace q103 := eq_true q103
        go_wp2_with (first | go_step3 | ((with_reducible refine gate_dst (N := 9) rfl ?_); refine tBx 9 66 #[.int .i64 0, .int .i64 0] ?_; intro gb104 hg w21 hbox hb; replace HO_7 := Aside0.mk (Kd.R_below (tR HO_7) hb); have BK104 := Aside0.mk (hbox); have GW104 := tW HB hg; have GE104 := tW HB hg; replace HB := tA HB hb; clear hb hbox hg; obtain ⟨hcz22_0, hcz22_1, hfz22_0, hfz22_1⟩ := zc2 BK104; have p105 : 0 ≤ (((rd_T66 (rd_L66 l0 x2_1) x20_2).f1) : Int) := tD; have q105 : ((rd_T66 (rd_L66 l0 x2_1) x20_2).f1) < (l1.length : Int) := tD; obtain ⟨ad105, e105, hx105_0⟩ := Kd.at_int HR1.out ((rd_T66 (rd_L66 l0 x2_1) x20_2).f1) p105 q105; obtain rfl : ad101 = ad105 := (by injection e105); have hn105_0 : ad101.block ≠ gb104 := Nat.ne_of_lt (Nat.lt_of_lt_of_le (by have := World.block_lt_of_cell? _ _ hx105_0; first | rwa [add_block] at this | exact this) GW104.out); have hn105_1 : ad101.block ≠ gb104 := Nat.ne_of_lt (Nat.lt_of_lt_of_le (by have := World.block_lt_of_cell? _ _ hx105_0; first | rwa [add_block] at this | exact this) GW104.out); replace hx105_0 := tH HB hx105_0; replace hx105_0 := (cell_far (p := ⟨gb104, 0, none⟩) (by first | (rw [add_block]; exact hn105_0) | (show (Addr.add _ _).block ≠ _; rw [add_block]; exact hn105_0) | exact hn105_0) (.int .i64 ((rd_T66 (rd_L66 l0 x2_1) x20_2).f0))).trans hx105_0; replace hx105_0 := (cell_far (p := ⟨gb104, 1, none⟩) (by first | (rw [add_block]; exact hn105_1) | (show (Addr.add _ _).block ≠ _; rw [add_block]; exact hn105_1) | exact hn105_1) (.int .i64 ((rd_T66 (rd_L66 l0 x2_1) x20_2).f1))).trans hx105_0; (try have hy105_0 := fun (n_ : Nat) => (show ((((w21.drewN n_).setCell ⟨gb104, 0, none⟩ (.int .i64 ((rd_T66 (rd_L66 l0 x2_1) x20_2).f0))).setCell ⟨gb104, 1, none⟩ (.int .i64 ((rd_T66 (rd_L66 l0 x2_1) x20_2).f1)))).cell? _ = some _ from hx105_0)); clear hn105_0; clear hn105_1; replace p105 := eq_true p105; replace q105 := eq_true q105; have p106 : 0 ≤ (x2_2 : Int) := tD; have q106 : x2_2 < (l1.length : Int) := tD; obtain ⟨ad106, e106, hx106_0⟩ := Kd.at_int HR1.out x2_2 p106 q106; obtain rfl : ad101 = ad106 := (by injection e106); have hn106_0 : ad101.block ≠ gb104 := Nat.ne_of_lt (Nat.lt_of_lt_of_le (by have := World.block_lt_of_cell? _ _ hx106_0; first | rwa [add_block] at this | exact this) GW104.out); have hn106_1 : ad101.block ≠ gb104 := Nat.ne_of_lt (Nat.lt_of_lt_of_le (by have := World.block_lt_of_cell? _ _ hx106_0; first | rwa [add_block] at this | exact this) GW104.out); replace hx106_0 := tH HB hx106_0; replace hx106_0 := (cell_far (p := ⟨gb104, 0, none⟩) (by first | (rw [add_block]; exact hn106_0) | (show (Addr.add _ _).block ≠ _; rw [add_block]; exact hn106_0) | exact hn106_0) (.int .i64 ((rd_T66 (rd_L66 l0 x2_1) x20_2).f0))).trans hx106_0; replace hx106_0 := (cell_far (p := ⟨gb104, 1, none⟩) (by first | (rw [add_block]; exact hn106_1) | (show (Addr.add _ _).block ≠ _; rw [add_block]; exact hn106_1) | exact hn106_1) (.int .i64 ((rd_T66 (rd_L66 l0 x2_1) x20_2).f1))).trans hx106_0; (try have hy106_0 := fun (n_ : Nat) => (show ((((w21.drewN n_).setCell ⟨gb104, 0, none⟩ (.int .i64 ((rd_T66 (rd_L66 l0 x2_1) x20_2).f0))).setCell ⟨gb104, 1, none⟩ (.int .i64 ((rd_T66 (rd_L66 l0 x2_1) x20_2).f1)))).cell? _ = some _ from hx106_0)); clear hn106_0; clear hn106_1; replace p106 := eq_true p106; replace q106 := eq_true q106))
        repeat (go_quiet (first | ((with_reducible refine gate_dst (N := 9) rfl ?_); refine tBx 9 66 #[.int .i64 0, .int .i64 0] ?_; intro gb104 hg w21 hbox hb; replace HO_7 := Aside0.mk (Kd.R_below (tR HO_7) hb); have BK104 := Aside0.mk (hbox); have GW104 := tW HB hg; have GE104 := tW HB hg; replace HB := tA HB hb; clear hb hbox hg; obtain ⟨hcz22_0, hcz22_1, hfz22_0, hfz22_1⟩ := zc2 BK104; have p105 : 0 ≤ (((rd_T66 (rd_L66 l0 x2_1) x20_2).f1) : Int) := tD; have q105 : ((rd_T66 (rd_L66 l0 x2_1) x20_2).f1) < (l1.length : Int) := tD; obtain ⟨ad105, e105, hx105_0⟩ := Kd.at_int HR1.out ((rd_T66 (rd_L66 l0 x2_1) x20_2).f1) p105 q105; obtain rfl : ad101 = ad105 := (by injection e105); have hn105_0 : ad101.block ≠ gb104 := Nat.ne_of_lt (Nat.lt_of_lt_of_le (by have := World.block_lt_of_cell? _ _ hx105_0; first | rwa [add_block] at this | exact this) GW104.out); have hn105_1 : ad101.block ≠ gb104 := Nat.ne_of_lt (Nat.lt_of_lt_of_le (by have := World.block_lt_of_cell? _ _ hx105_0; first | rwa [add_block] at this | exact this) GW104.out); replace hx105_0 := tH HB hx105_0; replace hx105_0 := (cell_far (p := ⟨gb104, 0, none⟩) (by first | (rw [add_block]; exact hn105_0) | (show (Addr.add _ _).block ≠ _; rw [add_block]; exact hn105_0) | exact hn105_0) (.int .i64 ((rd_T66 (rd_L66 l0 x2_1) x20_2).f0))).trans hx105_0; replace hx105_0 := (cell_far (p := ⟨gb104, 1, none⟩) (by first | (rw [add_block]; exact hn105_1) | (show (Addr.add _ _).block ≠ _; rw [add_block]; exact hn105_1) | exact hn105_1) (.int .i64 ((rd_T66 (rd_L66 l0 x2_1) x20_2).f1))).trans hx105_0; (try have hy105_0 := fun (n_ : Nat) => (show ((((w21.drewN n_).setCell ⟨gb104, 0, none⟩ (.int .i64 ((rd_T66 (rd_L66 l0 x2_1) x20_2).f0))).setCell ⟨gb104, 1, none⟩ (.int .i64 ((rd_T66 (rd_L66 l0 x2_1) x20_2).f1)))).cell? _ = some _ from hx105_0)); clear hn105_0; clear hn105_1; replace p105 := eq_true p105; replace q105 := eq_true q105; have p106 : 0 ≤ (x2_2 : Int) := tD; have q106 : x2_2 < (l1.length : Int) := tD; obtain ⟨ad106, e106, hx106_0⟩ := Kd.at_int HR1.out x2_2 p106 q106; obtain rfl : ad101 = ad106 := (by injection e106); have hn106_0 : ad101.block ≠ gb104 := Nat.ne_of_lt (Nat.lt_of_lt_of_le (by have := World.block_lt_of_cell? _ _ hx106_0; first | rwa [add_block] at this | exact this) GW104.out); have hn106_1 : ad101.block ≠ gb104 := Nat.ne_of_lt (Nat.lt_of_lt_of_le (by have := World.block_lt_of_cell? _ _ hx106_0; first | rwa [add_block] at this | exact this) GW104.out); replace hx106_0 := tH HB hx106_0; replace hx106_0 := (cell_far (p := ⟨gb104, 0, none⟩) (by first | (rw [add_block]; exact hn106_0) | (show (Addr.add _ _).block ≠ _; rw [add_block]; exact hn106_0) | exact hn106_0) (.int .i64 ((rd_T66 (rd_L66 l0 x2_1) x20_2).f0))).trans hx106_0; replace hx106_0 := (cell_far (p := ⟨gb104, 1, none⟩) (by first | (rw [add_block]; exact hn106_1) | (show (Addr.add _ _).block ≠ _; rw [add_block]; exact hn106_1) | exact hn106_1) (.int .i64 ((rd_T66 (rd_L66 l0 x2_1) x20_2).f1))).trans hx106_0; (try have hy106_0 := fun (n_ : Nat) => (show ((((w21.drewN n_).setCell ⟨gb104, 0, none⟩ (.int .i64 ((rd_T66 (rd_L66 l0 x2_1) x20_2).f0))).setCell ⟨gb104, 1, none⟩ (.int .i64 ((rd_T66 (rd_L66 l0 x2_1) x20_2).f1)))).cell? _ = some _ from hx106_0)); clear hn106_0; clear hn106_1; replace p106 := eq_true p106; replace q106 := eq_true q106)); try go_wp2_with (first | go_step3 | ((with_reducible refine gate_dst (N := 9) rfl ?_); refine tBx 9 66 #[.int .i64 0, .int .i64 0] ?_; intro gb104 hg w21 hbox hb; replace HO_7 := Aside0.mk (Kd.R_below (tR HO_7) hb); have BK104 := Aside0.mk (hbox); have GW104 := tW HB hg; have GE104 := tW HB hg; replace HB := tA HB hb; clear hb hbox hg; obtain ⟨hcz22_0, hcz22_1, hfz22_0, hfz22_1⟩ := zc2 BK104; have p105 : 0 ≤ (((rd_T66 (rd_L66 l0 x2_1) x20_2).f1) : Int) := tD; have q105 : ((rd_T66 (rd_L66 l0 x2_1) x20_2).f1) < (l1.length : Int) := tD; obtain ⟨ad105, e105, hx105_0⟩ := Kd.at_int HR1.out ((rd_T66 (rd_L66 l0 x2_1) x20_2).f1) p105 q105; obtain rfl : ad101 = ad105 := (by injection e105); have hn105_0 : ad101.block ≠ gb104 := Nat.ne_of_lt (Nat.lt_of_lt_of_le (by have := World.block_lt_of_cell? _ _ hx105_0; first | rwa [add_block] at this | exact this) GW104.out); have hn105_1 : ad101.block ≠ gb104 := Nat.ne_of_lt (Nat.lt_of_lt_of_le (by have := World.block_lt_of_cell? _ _ hx105_0; first | rwa [add_block] at this | exact this) GW104.out); replace hx105_0 := tH HB hx105_0; replace hx105_0 := (cell_far (p := ⟨gb104, 0, none⟩) (by first | (rw [add_block]; exact hn105_0) | (show (Addr.add _ _).block ≠ _; rw [add_block]; exact hn105_0) | exact hn105_0) (.int .i64 ((rd_T66 (rd_L66 l0 x2_1) x20_2).f0))).trans hx105_0; replace hx105_0 := (cell_far (p := ⟨gb104, 1, none⟩) (by first | (rw [add_block]; exact hn105_1) | (show (Addr.add _ _).block ≠ _; rw [add_block]; exact hn105_1) | exact hn105_1) (.int .i64 ((rd_T66 (rd_L66 l0 x2_1) x20_2).f1))).trans hx105_0; (try have hy105_0 := fun (n_ : Nat) => (show ((((w21.drewN n_).setCell ⟨gb104, 0, none⟩ (.int .i64 ((rd_T66 (rd_L66 l0 x2_1) x20_2).f0))).setCell ⟨gb104, 1, none⟩ (.int .i64 ((rd_T66 (rd_L66 l0 x2_1) x20_2).f1)))).cell? _ = some _ from hx105_0)); clear hn105_0; clear hn105_1; replace p105 := eq_true p105; replace q105 := eq_true q105; have p106 : 0 ≤ (x2_2 : Int) := tD; have q106 : x2_2 < (l1.length : Int) := tD; obtain ⟨ad106, e106, hx106_0⟩ := Kd.at_int HR1.out x2_2 p106 q106; obtain rfl : ad101 = ad106 := (by injection e106); have hn106_0 : ad101.block ≠ gb104 := Nat.ne_of_lt (Nat.lt_of_lt_of_le (by have := World.block_lt_of_cell? _ _ hx106_0; first | rwa [add_block] at this | exact this) GW104.out); have hn106_1 : ad101.block ≠ gb104 := Nat.ne_of_lt (Nat.lt_of_lt_of_le (by have := World.block_lt_of_cell? _ _ hx106_0; first | rwa [add_block] at this | exact this) GW104.out); replace hx106_0 := tH HB hx106_0; replace hx106_0 := (cell_far (p := ⟨gb104, 0, none⟩) (by first | (rw [add_block]; exact hn106_0) | (show (Addr.add _ _).block ≠ _; rw [add_block]; exact hn106_0) | exact hn106_0) (.int .i64 ((rd_T66 (rd_L66 l0 x2_1) x20_2).f0))).trans hx106_0; replace hx106_0 := (cell_far (p := ⟨gb104, 1, none⟩) (by first | (rw [add_block]; exact hn106_1) | (show (Addr.add _ _).block ≠ _; rw [add_block]; exact hn106_1) | exact hn106_1) (.int .i64 ((rd_T66 (rd_L66 l0 x2_1) x20_2).f1))).trans hx106_0; (try have hy106_0 := fun (n_ : Nat) => (show ((((w21.drewN n_).setCell ⟨gb104, 0, none⟩ (.int .i64 ((rd_T66 (rd_L66 l0 x2_1) x20_2).f0))).setCell ⟨gb104, 1, none⟩ (.int .i64 ((rd_T66 (rd_L66 l0 x2_1) x20_2).f1)))).cell? _ = some _ from hx106_0)); clear hn106_0; clear hn106_1; replace p106 := eq_true p106; replace q106 := eq_true q106)))
        go_roundg k2
        case measure => have := HK1.out; have := HK2.out; omega
        case rel => exact ⟨(x2_2), (x7_2), (wrap64 (x20_2 + 1)), tU, tU, H', ⟨by have := HK1.out; have := HK2.out; omega⟩, ⟨by (with_reducible repeat (first | apply Kd.R_alloc | apply Kd.R_drewN | apply Kd.R_drew)); exact Kd.R_mono (Kd.R_far (p := ⟨gb104, 1, none⟩) (Kd.R_far (p := ⟨gb104, 0, none⟩) (Kd.R_types HO_7.out BK104.out (by decide)) (fun _ hk => hk.2) (.int .i64 ((rd_T66 (rd_L66 l0 x2_1) x20_2).f0))) (fun _ hk => hk.2) (.int .i64 ((rd_T66 (rd_L66 l0 x2_1) x20_2).f1))) (fun _ hk => trivial)⟩, ⟨tB⟩⟩
       rw [if_neg c8] at H
       have c8b0 := decide_eq_false c8
       clear c8
       have H' := Aside0.mk H
       clear H
       go_wp2_with go_step3
       repeat (go_quiet (fail); try go_wp2_with go_step3)
       go_roundg k2
       case measure => have := HK1.out; have := HK2.out; omega
       case rel => exact ⟨(x2_2), (x7_2), tU, H', ⟨by have := HK1.out; have := HK2.out; omega⟩, ⟨tR HO_7⟩, ⟨tB⟩⟩
    rw [if_neg c6] at H
    have c6b0 := tdHi c6
    clear c6
    obtain rfl := Option.some.inj H
    have p101 : 0 ≤ (x2_1 : Int) := tD
    have q101 : x2_1 < (l1.length : Int) := tD
    obtain ⟨ad101, e101, hx101_0⟩ := Kd.at_int HR1.out x2_1 p101 q101
    cases e101
    replace hx101_0 := tH HB hx101_0
    replace p101 := eq_true p101
    replace q101 := eq_true q101
    go_wp2_with go_step3
    repeat (go_quiet (fail); try go_wp2_with go_step3)
    ((try rw [Exit.noGoto_ret]); go_ret)
    exact ⟨_, tE, by (with_reducible repeat (first | apply Kd.R_alloc | apply Kd.R_drewN | apply Kd.R_drew)); exact HO_7.out, tB⟩
   rw [if_neg c4] at H
   exact absurd H (by simp)
def witness_search.j0 : Nat → List (List (S66)) → Int → (Int → Option Bool) → Bool → Option (List Int × Bool)
 | 0, _, _, _, _ => none
 | k + 1, x0, x1, x2, x16 => if x16 = true then (some (([] : List Int), false)) else ((witness_distances.f k x0 x2).bind fun t101 => (if 0 ≤ x1 then (if x1 < (t101.length : Int) then (if (rd t101 x1) < 0 then (some (([] : List Int), false)) else ((witness_follow.f k x0 t101 x1).bind fun t105 => (some (t105, true)))) else (none)) else (none)))
def witness_search.f (k : Nat) (l0 : List (List (S66))) (a1 : Int) (a2 : (Int → Option Bool)) : Option (List Int × Bool) := if a1 < 0 then (witness_search.j0 k l0 a1 a2 true) else (witness_search.j0 k l0 a1 a2 (decide (a1 ≥ (l0.length : Int))))
set_option maxHeartbeats 8000000 in
set_option maxRecDepth 100000 in
theorem witness_search.calls (k : Nat) (A0 : Option Addr) (c0 : Nat) (l0 : List (List (S66))) (a1 : Int) (a2 : Int → Option Bool) (F2 : Nat) (C2 : Array Value) (r1 : List Int) (r2 : Bool) (w : World) (hr0 : Kd.C (Kd.slice 66 k66) w A0 l0.length l0) (hc0 : l0.length ≤ c0) (hF2 : FnB Try.prog F2 C2 w a2) (h : witness_search.f k l0 a1 a2 = some (r1, r2)) :
  Calls Try.prog 35 #[.slice A0 l0.length c0, .int .i64 a1, .func (.func F2) #[] C2] w fun e w' => ∃ v0_ : Value, e = .returned (.tuple #[v0_, .bool r2]) ∧ Kd.R (Kd.int .i64) 3 w' w.heap.size (fun _ => True) v0_ r1 ∧ Below w.heap.size w w' := by
 have HR0 := Aside0.mk hr0
 have HC0 := Aside0.mk hc0
 clear hr0 hc0
 have HF2 := Aside0.mk hF2
 clear hF2
 have HB := Aside0.mk (Below.refl w.heap.size w)
 have H : (if a1 < 0 then (witness_search.j0 k l0 a1 a2 true) else (witness_search.j0 k l0 a1 a2 (decide (a1 ≥ (l0.length : Int))))) = some (r1, r2) := h
 clear h
 have HC4 := Aside0.mk H
 clear H
 go_enter Try.func35, Try.ntmps35
 go_upto_region 1 with (fail)
 go_cut [16] (fun v16 wc => ∃ (kq : Nat) (x16_3 : Bool), v16 = .bool x16_3 ∧ Aside0 (witness_search.j0 kq l0 a1 a2 x16_3 = some (r1, r2)) ∧ Aside0 (kq ≤ k) ∧ Aside0 (Below w.heap.size w wc))
 case first =>
  have H := HC4.out
  clear HC4
  by_cases c5 : a1 < 0
  ·rw [if_pos c5] at H
   have c5b0 := decide_eq_true c5
   clear c5
   (first | rw [c5b0] | (simp only [i64_w, i32_w]; rw [c5b0]) | skip)
   have H' := Aside0.mk H
   clear H
   go_wp2
   go_meet
   case rel => exact ⟨_, (true), tU, H', ⟨by first | omega | exact Nat.le_refl _⟩, ⟨tB⟩⟩
  rw [if_neg c5] at H
  have c5b0 := decide_eq_false c5
  clear c5
  (first | rw [c5b0] | (simp only [i64_w, i32_w]; rw [c5b0]) | skip)
  have H' := Aside0.mk H
  clear H
  go_wp2
  go_meet
  case rel => exact ⟨_, (decide (a1 ≥ (l0.length : Int))), tU, H', ⟨by first | omega | exact Nat.le_refl _⟩, ⟨tB⟩⟩
 case rest =>
  clear HC4
  (try clear p2); (try clear c3); (try clear c5); (try clear c5b0)
  obtain ⟨kq, x16_3, rfl, HA, HJ3, HB⟩ := hcut
  cases kq with
  | zero => exact absurd HA.out (by simp [witness_search.j0])
  | succ kj3 =>
   have H := HA.out
   clear HA
   simp only [witness_search.j0] at H
   by_cases c6 : x16_3 = true
   ·subst c6
    rw [if_pos rfl] at H
    simp only [Option.some.injEq, Prod.mk.injEq] at H
    obtain ⟨rfl, rfl⟩ := H
    go_wp2
    go_ret2
    exact ⟨_, tE, by first | exact Kd.R_nil _ _ _ _ _ | exact Kd.N_nil _ _ _ _ _ | exact Kd.V_nil _ _ _ _ _ | exact Kd.Q_nil _ _ _ _ _ | exact Kd.S_nil _ _ _ _ _, tB⟩
   replace c6 := Bool.eq_false_iff.mpr c6
   subst c6
   rw [if_neg (show ¬ (false = true) by decide)] at H
   replace H := Option.bind_eq_some_iff.mp H
   obtain ⟨t101, A70, H⟩ := H
   (try dsimp only at H)
   have A7 := Aside0.mk A70
   clear A70
   by_cases c8 : 0 ≤ a1
   ·rw [if_pos c8] at H
    have c8b0 := decide_eq_true c8
    clear c8
    replace H := tF H
    obtain ⟨c9, H⟩ := H
    have c9b0 := decide_eq_true c9
    clear c9
    by_cases c10 : (rd t101 a1) < 0
    ·rw [if_pos c10] at H
     have c10b0 := decide_eq_true c10
     clear c10
     simp only [Option.some.injEq, Prod.mk.injEq] at H
     obtain ⟨rfl, rfl⟩ := H
     go_wp2_with (first | ((with_reducible refine gate_callee (f := 53) rfl ?_); refine goesL_ (some 19) rfl rfl Try.func53 (by kernel_rfl) rfl #[.slice A0 l0.length c0, .func (.func F2) #[] C2] rfl (by (try simp only [List.map_toArray, List.map_cons, List.map_nil]); first | done | rfl | (simp only [List.length_drop, List.length_take]; rfl)) ?_; (with_reducible refine (witness_distances.calls kj3 _ _ l0 a2 _ _ t101 _ (tG HR0 HB) HC0.out (FnB.below HF2.out (tB)) A7.out).mono ?_); rintro e w11 ⟨v102, rfl, ho0, hb⟩; refine ⟨_, rfl, ?_⟩; have HO103 := Aside0.mk (Kd.R_lower ho0 (below_size (tB))); replace HB := tA HB hb; (try clear hb); (try clear hb2); (try clear hk); (try clear hi); (try clear ho0); obtain ⟨Ao12, co12, eo12⟩ := Kd.R_slice HO103.out; subst eo12; have p104 : 0 ≤ (a1 : Int) := tD; have q104 : a1 < (t101.length : Int) := tD; obtain ⟨ad104, e104, hx104_0⟩ := Kd.at_int (Kd.R_reads' HO103.out).2.2 a1 p104 q104; cases e104; replace p104 := eq_true p104; replace q104 := eq_true q104))
     go_ret2
     exact ⟨_, tE, by first | exact Kd.R_nil _ _ _ _ _ | exact Kd.N_nil _ _ _ _ _ | exact Kd.V_nil _ _ _ _ _ | exact Kd.Q_nil _ _ _ _ _ | exact Kd.S_nil _ _ _ _ _, tB⟩
    rw [if_neg c10] at H
    have c10b0 := decide_eq_false c10
    clear c10
    replace H := Option.bind_eq_some_iff.mp H
    obtain ⟨t105, A130, H⟩ := H
    (try dsimp only at H)
    have A13 := Aside0.mk A130
    clear A130
    simp only [Option.some.injEq, Prod.mk.injEq] at H
    obtain ⟨rfl, rfl⟩ := H
    go_wp2_with (first | ((with_reducible refine gate_callee (f := 53) rfl ?_); refine goesL_ (some 19) rfl rfl Try.func53 (by kernel_rfl) rfl #[.slice A0 l0.length c0, .func (.func F2) #[] C2] rfl (by (try simp only [List.map_toArray, List.map_cons, List.map_nil]); first | done | rfl | (simp only [List.length_drop, List.length_take]; rfl)) ?_; (with_reducible refine (witness_distances.calls kj3 _ _ l0 a2 _ _ t101 _ (tG HR0 HB) HC0.out (FnB.below HF2.out (tB)) A7.out).mono ?_); rintro e w14 ⟨v102, rfl, ho0, hb⟩; refine ⟨_, rfl, ?_⟩; have HO103 := Aside0.mk (Kd.R_lower ho0 (below_size (tB))); replace HB := tA HB hb; (try clear hb); (try clear hb2); (try clear hk); (try clear hi); (try clear ho0); obtain ⟨Ao15, co15, eo15⟩ := Kd.R_slice HO103.out; subst eo15; have p104 : 0 ≤ (a1 : Int) := tD; have q104 : a1 < (t101.length : Int) := tD; obtain ⟨ad104, e104, hx104_0⟩ := Kd.at_int (Kd.R_reads' HO103.out).2.2 a1 p104 q104; cases e104; replace p104 := eq_true p104; replace q104 := eq_true q104) | ((with_reducible refine gate_callee (f := 55) rfl ?_); refine goesL_ (some 28) rfl rfl Try.func55 (by kernel_rfl) rfl #[.slice A0 l0.length c0, .slice (some ad104) t101.length co15, .int .i64 a1] rfl (by (try simp only [List.map_toArray, List.map_cons, List.map_nil]); first | done | rfl | (simp only [List.length_drop, List.length_take]; rfl)) ?_; (with_reducible refine (witness_follow.calls kj3 _ _ l0 _ _ t101 a1 t105 _ (tG HR0 HB) HC0.out (tC (Kd.R_reads' HO103.out).2.2) ((Kd.R_reads' HO103.out).2.1) A13.out).mono ?_); rintro e w16 ⟨v106, rfl, ho0, hb⟩; refine ⟨_, rfl, ?_⟩; have HO107 := Aside0.mk (Kd.R_lower (Kd.R_new' ho0 (Kd.R_lt (tR HO103))) (below_size (tB))); replace HO103 := Aside0.mk (Kd.R_elder' (tR HO103) (Kd.R_base ho0) hb); replace HB := tA HB hb; (try clear hb); (try clear hb2); (try clear hk); (try clear hi); (try clear ho0)))
    go_ret2
    exact ⟨_, tE, by (with_reducible repeat (first | apply Kd.R_alloc | apply Kd.R_drewN | apply Kd.R_drew)); exact Kd.R_mono HO107.out (fun _ hk => trivial), tB⟩
   rw [if_neg c8] at H
   exact absurd H (by simp)
def witness_has.l0 : Nat → Int → List (S66) → Int → Int → Option (Bool)
 | 0, _, _, _, _ => none
 | k + 1, x1, x7, x8, x9 => if x9 < x8 then (if 0 ≤ x9 then (if x9 < (x7.length : Int) then (if ((rd_T66 x7 x9).f0) = x1 then (some true) else (witness_has.l0 k x1 x7 x8 (wrap64 (x9 + 1)))) else (none)) else (none)) else (some false)
def witness_has.f (k : Nat) (l0 : List (S66)) (a1 : Int) : Option (Bool) := witness_has.l0 k a1 l0 (l0.length : Int) 0
set_option maxHeartbeats 8000000 in
set_option maxRecDepth 100000 in
theorem witness_has.calls (k : Nat) (A0 : Option Addr) (c0 : Nat) (l0 : List (S66)) (a1 : Int) (r : Bool) (w : World) (hr0 : Kd.C k66 w A0 l0.length l0) (hc0 : l0.length ≤ c0) (h : witness_has.f k l0 a1 = some r) :
  Calls Try.prog 51 #[.slice A0 l0.length c0, .int .i64 a1] w fun e w' => e = .returned (.bool r) ∧ Below w.heap.size w w' := by
 have hu66 := Try.underlying66
 have HR0 := Aside0.mk hr0
 have HC0 := Aside0.mk hc0
 clear hr0 hc0
 have HB := Aside0.mk (Below.refl w.heap.size w)
 have H : (witness_has.l0 k a1 l0 (l0.length : Int) 0) = some r := h
 clear h
 have H' := Aside0.mk H
 clear H
 go_enter Try.func51, Try.ntmps51
 go_wp2
 go_loopg [9] k (fun kq v9 w' => ∃ (x9_1 : Int), v9 = .int .i64 x9_1 ∧ Aside0 (witness_has.l0 kq a1 l0 (l0.length : Int) x9_1 = some r) ∧ Aside0 (kq ≤ k) ∧ Aside0 (Below w.heap.size w w'))
 case atStart => exact ⟨(0), tU, H', ⟨Nat.le_refl _⟩, ⟨tB⟩⟩
 case round =>
  clear H'
  try clear p2
  obtain ⟨x9_1, rfl, HA, HK1, HB⟩ := hrel
  cases gk with
  | zero => exact absurd HA.out (by simp [witness_has.l0])
  | succ k1 =>
   have H := HA.out
   clear HA
   simp only [witness_has.l0] at H
   by_cases c3 : x9_1 < (l0.length : Int)
   ·rw [if_pos c3] at H
    have c3b0 := decide_eq_true c3
    clear c3
    replace H := tF H
    obtain ⟨c4, H⟩ := H
    have c4b0 := decide_eq_true c4
    clear c4
    replace H := tF H
    obtain ⟨c5, H⟩ := H
    have c5b0 := decide_eq_true c5
    clear c5
    by_cases c6 : ((rd_T66 l0 x9_1).f0) = a1
    ·rw [if_pos c6] at H
     have c6b0 := beq_iff_eq.mpr c6
     have c6b1 := bne_eq_false_iff_eq.mpr c6
     clear c6
     obtain rfl := Option.some.inj H
     have p101 : 0 ≤ (x9_1 : Int) := tD
     have q101 : x9_1 < (l0.length : Int) := tD
     obtain ⟨ad101, e101, hx101_0, hx101_1⟩ := at_T66 HR0.out x9_1 p101 q101
     cases e101
     replace hx101_0 := tH HB hx101_0
     replace hx101_1 := tH HB hx101_1
     replace p101 := eq_true p101
     replace q101 := eq_true q101
     go_wp2_with (first | ((with_reducible refine gate_dst (N := 6) rfl ?_); refine tBx 6 66 #[.int .i64 0, .int .i64 0] ?_; intro gb102 hg w7 hbox hb; have BK102 := Aside0.mk (hbox); have GW102 := tW HB hg; have GE102 := tW HB hg; replace HB := tA HB hb; clear hb hbox hg; obtain ⟨hcz8_0, hcz8_1, hfz8_0, hfz8_1⟩ := zc2 BK102))
     go_ret
     exact ⟨tE, tB⟩
    rw [if_neg c6] at H
    have c6b0 := beq_eq_false_iff_ne.mpr c6
    have c6b1 := bne_iff_ne.mpr c6
    have H' := Aside0.mk H
    clear H
    have p101 : 0 ≤ (x9_1 : Int) := tD
    have q101 : x9_1 < (l0.length : Int) := tD
    obtain ⟨ad101, e101, hx101_0, hx101_1⟩ := at_T66 HR0.out x9_1 p101 q101
    cases e101
    replace hx101_0 := tH HB hx101_0
    replace hx101_1 := tH HB hx101_1
    replace p101 := eq_true p101
    replace q101 := eq_true q101
    go_wp2_with (first | ((with_reducible refine gate_dst (N := 6) rfl ?_); refine tBx 6 66 #[.int .i64 0, .int .i64 0] ?_; intro gb102 hg w9 hbox hb; have BK102 := Aside0.mk (hbox); have GW102 := tW HB hg; have GE102 := tW HB hg; replace HB := tA HB hb; clear hb hbox hg; obtain ⟨hcz10_0, hcz10_1, hfz10_0, hfz10_1⟩ := zc2 BK102))
    go_roundg k1
    case measure => have := HK1.out; omega
    case rel => exact ⟨(wrap64 (x9_1 + 1)), tU, H', ⟨by have := HK1.out; omega⟩, ⟨tB⟩⟩
   rw [if_neg c3] at H
   have c3b0 := decide_eq_false c3
   clear c3
   obtain rfl := Option.some.inj H
   go_wp2
   go_ret
   exact ⟨tE, tB⟩
end Go.Proofs.Ytfnjbgggmddgpaa.Q
end
