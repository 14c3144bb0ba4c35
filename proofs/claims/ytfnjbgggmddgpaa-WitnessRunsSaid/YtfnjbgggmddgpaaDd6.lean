/- Part 6 of a proof: Dd. Words and walks that a program printed for this claim stand here without what the claim does not use. -/
import Derived.Test.YtfnjbgggmddgpaaDd2
import Derived.Test.YtfnjbgggmddgpaaDd5
section
namespace Go.Proofs.Ytfnjbgggmddgpaa.Q
open Go.RowKit Go.Proofs.Fn Go.Proofs.YtfnjbgggmddgpaaW.PrintWords Go.Proofs.YtfnjbgggmddgpaaW.PrintLast Go.Proofs.YtfnjbgggmddgpaaW.PrintMore
attribute [local go_sem] max2_int min2_int max_two min_two max_three min_three max_four min_four
set_option linter.unusedVariables false
set_option linter.unusedSimpArgs false
def r09_light.l0 : Nat → List (S93) → Int → Option (Bool)
 | 0, _, _ => none
 | k + 1, x0, x3 => if x3 < (x0.length : Int) then (if 0 ≤ x3 then (if ((rd_T93 x0 x3).f1) > 3 then (some false) else (r09_light.l0 k x0 (wrap64 (x3 + 1)))) else (none)) else (some true)
def r09_light.f (k : Nat) (l0 : List (S93)) : Option (Bool) := if (l0.length : Int) > 6 then (some false) else (r09_light.l0 k l0 0)
set_option maxHeartbeats 8000000 in
set_option maxRecDepth 100000 in
theorem r09_light.calls (k : Nat) (A0 : Option Addr) (c0 : Nat) (l0 : List (S93)) (r : Bool) (w : World) (hr0 : Kd.C k93 w A0 l0.length l0) (hc0 : l0.length ≤ c0) (h : r09_light.f k l0 = some r) :
  Calls Try.prog 42 #[.slice A0 l0.length c0] w fun e w' => e = .returned (.bool r) ∧ Drawn0 w w' := by
 have HR0 := Aside0.mk hr0
 have HC0 := Aside0.mk hc0
 clear hr0 hc0
 have H : (if (l0.length : Int) > 6 then (some false) else (r09_light.l0 k l0 0)) = some r := h
 clear h
 by_cases c2 : (l0.length : Int) > 6
 ·rw [if_pos c2] at H
  have c2b0 := tdGi c2
  have c2b1 : decide (6 < l0.length) = true := decide_eq_true (by omega)
  clear c2
  obtain rfl := Option.some.inj H
  go_enter Try.func42, Try.ntmps42
  go_wp2
  go_ret
  exact ⟨by first | rfl | (simp; done) | (simp [*]; done), by repeat (first | exact Drawn0.refl _ | apply Drawn0.step)⟩
 rw [if_neg c2] at H
 have c2b0 := tdHi c2
 have c2b1 : decide (6 < l0.length) = false := decide_eq_false (by omega)
 clear c2
 have H' := Aside0.mk H
 clear H
 go_enter Try.func42, Try.ntmps42
 go_wp2
 go_loopg [3] k (fun kq v3 w' => ∃ (x3_1 : Int), v3 = .int .i64 x3_1 ∧ Aside0 (r09_light.l0 kq l0 x3_1 = some r) ∧ Aside0 (kq ≤ k) ∧ Drawn0 w w')
 case atStart => exact ⟨(0), tU, H', ⟨Nat.le_refl _⟩, by repeat (first | exact Drawn0.refl _ | apply Drawn0.step)⟩
 case round =>
  clear H'
  (try clear c2); (try clear c2b0); (try clear c2b1); (try clear p2)
  obtain ⟨x3_1, rfl, HA, HK1, ⟨m1, rfl⟩⟩ := hrel
  cases gk with
  | zero => exact absurd HA.out (by simp [r09_light.l0])
  | succ k1 =>
   have H := HA.out
   clear HA
   simp only [r09_light.l0] at H
   by_cases c3 : x3_1 < (l0.length : Int)
   ·rw [if_pos c3] at H
    have c3b0 := decide_eq_true c3
    clear c3
    replace H := tF H
    obtain ⟨c4, H⟩ := H
    have c4b0 := decide_eq_true c4
    clear c4
    by_cases c5 : ((rd_T93 l0 x3_1).f1) > 3
    ·rw [if_pos c5] at H
     have c5b0 := tdGi c5
     clear c5
     obtain rfl := Option.some.inj H
     have p101 : 0 ≤ (x3_1 : Int) := tD
     have q101 : x3_1 < (l0.length : Int) := tD
     obtain ⟨ad101, e101, hx101_0, hx101_1⟩ := at_T93 HR0.out x3_1 p101 q101
     cases e101
     replace p101 := eq_true p101
     replace q101 := eq_true q101
     go_wp2
     go_ret
     exact ⟨by first | rfl | (simp; done) | (simp [*]; done), by repeat (first | exact Drawn0.refl _ | apply Drawn0.step)⟩
    rw [if_neg c5] at H
    have c5b0 := tdHi c5
    clear c5
    have H' := Aside0.mk H
    clear H
    have p101 : 0 ≤ (x3_1 : Int) := tD
    have q101 : x3_1 < (l0.length : Int) := tD
    obtain ⟨ad101, e101, hx101_0, hx101_1⟩ := at_T93 HR0.out x3_1 p101 q101
    cases e101
    replace p101 := eq_true p101
    replace q101 := eq_true q101
    go_wp2
    go_roundg k1
    case measure => have := HK1.out; omega
    case rel => exact ⟨(wrap64 (x3_1 + 1)), tU, H', ⟨by have := HK1.out; omega⟩, by repeat (first | exact Drawn0.refl _ | apply Drawn0.step)⟩
   rw [if_neg c3] at H
   have c3b0 := decide_eq_false c3
   clear c3
   obtain rfl := Option.some.inj H
   go_wp2
   go_ret
   exact ⟨by first | rfl | (simp; done) | (simp [*]; done), by repeat (first | exact Drawn0.refl _ | apply Drawn0.step)⟩
mutual
def r09_Light.j0 : Nat → Bool → ByteArray → List (S71) → List (S74) → Option (Bool)
 | 0, _, _, _, _ => none
 | k + 1, x26, x102000, x102001, x102002 => if x26 = true then (some false) else (r09_Light.l0 k 0 x102000 x102001 x102002)
def r09_Light.l0 : Nat → Int → ByteArray → List (S71) → List (S74) → Option (Bool)
 | 0, _, _, _, _ => none
 | k + 1, x5, x102000, x102001, x102002 => if x5 < (x102001.length : Int) then (if 0 ≤ x5 then (if ((rd_T71 x102001 x5).f1) > 3 then (some false) else (r09_Light.l0 k (wrap64 (x5 + 1)) x102000 x102001 x102002)) else (none)) else (r09_Light.l1 k 0 x102000 x102001 x102002)
def r09_Light.l1 : Nat → Int → ByteArray → List (S71) → List (S74) → Option (Bool)
 | 0, _, _, _, _ => none
 | k + 1, x6, x102000, x102001, x102002 => if x6 < (x102002.length : Int) then (if 0 ≤ x6 then ((r09_light.f k ((rd_T74 x102002 x6).f1)).bind fun t114 => (if t114 = true then ((r09_light.f k ((rd_T74 x102002 x6).f2)).bind fun t115 => (if t115 = true then ((r09_light.f k ((rd_T74 x102002 x6).f3)).bind fun t116 => (if t116 = true then (r09_Light.l1 k (wrap64 (x6 + 1)) x102000 x102001 x102002) else (some false))) else (some false))) else (some false))) else (none)) else (some true)
end
def r09_Light.f (k : Nat) (a0_0 : ByteArray) (l0_1 : List (S71)) (l0_2 : List (S74)) : Option (Bool) := (r09_Small.f k a0_0 l0_1 l0_2).bind fun bt102 => (if bt102.2.2.2 = true then (if (l0_1.length : Int) > 6 then (r09_Light.j0 k true a0_0 l0_1 l0_2) else (r09_Light.j0 k (decide ((l0_2.length : Int) > 6)) a0_0 l0_1 l0_2)) else (r09_Light.j0 k true a0_0 l0_1 l0_2))
set_option maxHeartbeats 8000000 in
set_option maxRecDepth 100000 in
theorem r09_Light.calls (k : Nat) (a0_0 : ByteArray) (A0_1 : Option Addr) (c0_1 : Nat) (l0_1 : List (S71)) (A0_2 : Option Addr) (c0_2 : Nat) (l0_2 : List (S74)) (r : Bool) (w : World) (hr0_1 : Kd.C k71 w A0_1 l0_1.length l0_1) (hc0_1 : l0_1.length ≤ c0_1) (hr0_2 : Kd.C k74 w A0_2 l0_2.length l0_2) (hc0_2 : l0_2.length ≤ c0_2) (h : r09_Light.f k a0_0 l0_1 l0_2 = some r) :
  Calls Try.prog 19 #[.agg #[.string a0_0, .slice A0_1 l0_1.length c0_1, .slice A0_2 l0_2.length c0_2]] w fun e w' => e = .returned (.bool r) ∧ Below w.heap.size w w' := by
 have hu39 := Try.underlying39
 have hu74 := Try.underlying74
 have HR0_1 := Aside0.mk hr0_1
 have HC0_1 := Aside0.mk hc0_1
 clear hr0_1 hc0_1
 have HR0_2 := Aside0.mk hr0_2
 have HC0_2 := Aside0.mk hc0_2
 clear hr0_2 hc0_2
 have HB := Aside0.mk (Below.refl w.heap.size w)
 have H : ((r09_Small.f k a0_0 l0_1 l0_2).bind fun bt102 => (if bt102.2.2.2 = true then (if (l0_1.length : Int) > 6 then (r09_Light.j0 k true a0_0 l0_1 l0_2) else (r09_Light.j0 k (decide ((l0_2.length : Int) > 6)) a0_0 l0_1 l0_2)) else (r09_Light.j0 k true a0_0 l0_1 l0_2))) = some r := h
 clear h
 replace H := Option.bind_eq_some_iff.mp H
 obtain ⟨⟨t102, t103, t106, t109⟩, A20, H⟩ := H
 (try dsimp only at H)
 have A2 := Aside0.mk A20
 clear A20
 have HC3 := Aside0.mk H
 clear H
 go_enter Try.func19, Try.ntmps19
 go_upto_region 2 with (first | ((with_reducible refine gate_dst (N := 1) rfl ?_); (try (refine gate_guard (by rfl) ?_; dsimp only)); refine tBx 1 39 #[.string a0_0, .slice A0_1 l0_1.length c0_1, .slice A0_2 l0_2.length c0_2] ?_; intro gb101 hg w4 hbox hb; have BK101 := Aside0.mk (hbox); have GW101 := tW HB hg; have GE101 := tW HB hg; replace HB := tA HB hb; clear hb hbox hg; obtain ⟨hcz5_0, hcz5_1, hcz5_2, hfz5_0, hfz5_1, hfz5_2⟩ := zc3 BK101) | ((with_reducible refine gate_callee (f := 41) rfl ?_); refine goesL_ (some 10) rfl rfl Try.func41 (by kernel_rfl) rfl #[.agg #[.string a0_0, .slice A0_1 l0_1.length c0_1, .slice A0_2 l0_2.length c0_2]] rfl (by (try simp only [List.map_toArray, List.map_cons, List.map_nil]); first | done | rfl | (simp only [List.length_drop, List.length_take]; rfl)) ?_; (with_reducible refine (r09_Small.calls k a0_0 _ _ l0_1 _ _ l0_2 t102 t103 t106 t109 _ (tG HR0_1 HB) HC0_1.out (tG HR0_2 HB) HC0_2.out A2.out).mono ?_); rintro e w6 ⟨v104, v107, rfl, ⟨Al0, nl0, cl0, rfl⟩, ⟨Al1, nl1, cl1, rfl⟩, hb⟩; refine ⟨_, rfl, ?_⟩; replace BK101 := tL BK101 hb; replace HB := tA HB hb; (try clear hb); (try clear hb2); (try clear hk); (try clear hi); (try clear ho0); (try clear ho1)) | ((with_reducible refine gate_dst (N := 3) rfl ?_); (try (refine gate_guard (by rfl) ?_; dsimp only)); refine tBx 3 39 #[.string (⟨#[]⟩ : ByteArray), .slice none 0 0, .slice none 0 0] ?_; intro gb110 hg w7 hbox hb; have BK110 := Aside0.mk (hbox); have GW110 := tW HB hg; have GE110 := tW HB hg; replace HB := tA HB hb; have NB101_110 := tNl BK101 hg; have NB110_101 := tNg BK101 hg; replace BK101 := tL BK101 hb; clear hb hbox hg; have hnb8 := NB110_101.out; have hnc8 := NB101_110.out; obtain ⟨hcz9_0, hcz9_1, hcz9_2, hfz9_0, hfz9_1, hfz9_2⟩ := zc3 BK110))
 (try simp only [Act.put, List.setIfInBounds_toArray, List.set_cons_zero, List.set_cons_succ])
 go_cut [26] (fun v26 wc => ∃ (kq : Nat) (x26_2 : Bool), v26 = .bool x26_2 ∧ Aside0 (r09_Light.j0 kq x26_2 a0_0 l0_1 l0_2 = some r) ∧ Aside0 (kq ≤ k) ∧ Aside0 (wc.heap[gb101]? = some (.cells #[.string a0_0, (.slice A0_1 l0_1.length c0_1), (.slice A0_2 l0_2.length c0_2)] 39 (0, 0))) ∧ Aside0 (Below w.heap.size w wc))
 case first =>
  have H := HC3.out
  clear HC3
  by_cases c10 : t109 = true
  ·subst c10
   rw [if_pos rfl] at H
   by_cases c11 : (l0_1.length : Int) > 6
   ·rw [if_pos c11] at H
    have c11b0 := tdGi c11
    have c11b1 : decide (6 < l0_1.length) = true := decide_eq_true (by omega)
    clear c11
    (first | rw [c11b0] | (simp only [i64_w, i32_w]; rw [c11b0]) | skip)
    have H' := Aside0.mk H
    clear H
    have hnb12 := NB101_110.out
    have hnc12 := NB110_101.out
    obtain ⟨hcz13_0, hcz13_1, hcz13_2, hfz13_0, hfz13_1, hfz13_2⟩ := zc3 BK101
    go_wp2
    go_meet
    case rel => exact ⟨_, (true), tU, H', ⟨by first | omega | exact Nat.le_refl _⟩, ⟨by (with_reducible repeat (first | refine blk_drewN ?_ _ | refine blk_drew ?_ | refine blk_alloc ?_ _)); refine blk_far ?_ NB101_110.out _; (with_reducible repeat (first | refine blk_drewN ?_ _ | refine blk_drew ?_ | refine blk_alloc ?_ _)); refine blk_far ?_ NB101_110.out _; (with_reducible repeat (first | refine blk_drewN ?_ _ | refine blk_drew ?_ | refine blk_alloc ?_ _)); refine blk_far ?_ NB101_110.out _; (with_reducible repeat (first | refine blk_drewN ?_ _ | refine blk_drew ?_ | refine blk_alloc ?_ _)); exact BK101.out⟩, ⟨tB⟩⟩
   rw [if_neg c11] at H
   have c11b0 := tdHi c11
   have c11b1 : decide (6 < l0_1.length) = false := decide_eq_false (by omega)
   clear c11
   (first | rw [c11b0] | (simp only [i64_w, i32_w]; rw [c11b0]) | skip)
   have H' := Aside0.mk H
   clear H
   have hnb14 := NB101_110.out
   have hnc14 := NB110_101.out
   obtain ⟨hcz15_0, hcz15_1, hcz15_2, hfz15_0, hfz15_1, hfz15_2⟩ := zc3 BK101
   go_wp2
   go_meet
   case rel => exact ⟨_, (decide ((l0_2.length : Int) > 6)), tU, H', ⟨by first | omega | exact Nat.le_refl _⟩, ⟨by (with_reducible repeat (first | refine blk_drewN ?_ _ | refine blk_drew ?_ | refine blk_alloc ?_ _)); refine blk_far ?_ NB101_110.out _; (with_reducible repeat (first | refine blk_drewN ?_ _ | refine blk_drew ?_ | refine blk_alloc ?_ _)); refine blk_far ?_ NB101_110.out _; (with_reducible repeat (first | refine blk_drewN ?_ _ | refine blk_drew ?_ | refine blk_alloc ?_ _)); refine blk_far ?_ NB101_110.out _; (with_reducible repeat (first | refine blk_drewN ?_ _ | refine blk_drew ?_ | refine blk_alloc ?_ _)); exact BK101.out⟩, ⟨tB⟩⟩
  replace c10 := Bool.eq_false_iff.mpr c10
  subst c10
  rw [if_neg (show ¬ (false = true) by decide)] at H
  have H' := Aside0.mk H
  clear H
  go_wp2
  go_meet
  case rel => exact ⟨_, (true), tU, H', ⟨by first | omega | exact Nat.le_refl _⟩, ⟨by (with_reducible repeat (first | refine blk_drewN ?_ _ | refine blk_drew ?_ | refine blk_alloc ?_ _)); refine blk_far ?_ NB101_110.out _; (with_reducible repeat (first | refine blk_drewN ?_ _ | refine blk_drew ?_ | refine blk_alloc ?_ _)); refine blk_far ?_ NB101_110.out _; (with_reducible repeat (first | refine blk_drewN ?_ _ | refine blk_drew ?_ | refine blk_alloc ?_ _)); refine blk_far ?_ NB101_110.out _; (with_reducible repeat (first | refine blk_drewN ?_ _ | refine blk_drew ?_ | refine blk_alloc ?_ _)); exact BK101.out⟩, ⟨tB⟩⟩
 case rest =>
  clear HC3
  (try clear c1); (try clear p2); (try clear c4); (try clear c8); (try clear c10); (try clear c11); (try clear c11b0); (try clear c11b1); (try clear c12); (try clear c14); (try clear hcz13_0 hcz13_1 hcz13_2 hfz13_0 hfz13_1 hfz13_2); (try clear hcz15_0 hcz15_1 hcz15_2 hfz15_0 hfz15_1 hfz15_2); (try clear hcz5_0 hcz5_1 hcz5_2 hfz5_0 hfz5_1 hfz5_2); (try clear hcz9_0 hcz9_1 hcz9_2 hfz9_0 hfz9_1 hfz9_2)
  obtain ⟨kq, x26_2, rfl, HA, HJ2, BK101, HB⟩ := hcut
  cases kq with
  | zero => exact absurd HA.out (by simp [r09_Light.j0])
  | succ kj2 =>
   have H := HA.out
   clear HA
   simp only [r09_Light.j0] at H
   by_cases c16 : x26_2 = true
   ·subst c16
    rw [if_pos rfl] at H
    obtain rfl := Option.some.inj H
    go_wp2
    go_ret
    exact ⟨tE, tB⟩
   replace c16 := Bool.eq_false_iff.mpr c16
   subst c16
   rw [if_neg (show ¬ (false = true) by decide)] at H
   have H' := Aside0.mk H
   clear H
   go_wp2
   go_loopg [5] kj2 (fun kq v5 w' => ∃ (x5_2 : Int), v5 = .int .i64 x5_2 ∧ Aside0 (r09_Light.l0 kq x5_2 a0_0 l0_1 l0_2 = some r) ∧ Aside0 (kq ≤ kj2) ∧ Aside0 (w'.heap[gb101]? = some (.cells #[.string a0_0, (.slice A0_1 l0_1.length c0_1), (.slice A0_2 l0_2.length c0_2)] 39 (0, 0))) ∧ Aside0 (Below w.heap.size w w'))
   case atStart => exact ⟨(0), tU, H', ⟨Nat.le_refl _⟩, ⟨tK BK101⟩, ⟨tB⟩⟩
   case round =>
    clear H'
    (try clear c1); (try clear p2); (try clear c4); (try clear c8); (try clear c10); (try clear c11); (try clear c11b0); (try clear c11b1); (try clear c12); (try clear c14); (try clear c16); (try clear hcz13_0 hcz13_1 hcz13_2 hfz13_0 hfz13_1 hfz13_2); (try clear hcz15_0 hcz15_1 hcz15_2 hfz15_0 hfz15_1 hfz15_2); (try clear hcz5_0 hcz5_1 hcz5_2 hfz5_0 hfz5_1 hfz5_2); (try clear hcz9_0 hcz9_1 hcz9_2 hfz9_0 hfz9_1 hfz9_2)
    obtain ⟨x5_2, rfl, HA, HK2, BK101, HB⟩ := hrel
    cases gk with
    | zero => exact absurd HA.out (by simp [r09_Light.l0])
    | succ k2 =>
     have H := HA.out
     clear HA
     simp only [r09_Light.l0] at H
     by_cases c17 : x5_2 < (l0_1.length : Int)
     ·rw [if_pos c17] at H
      have c17b0 := decide_eq_true c17
      clear c17
      replace H := tF H
      obtain ⟨c18, H⟩ := H
      have c18b0 := decide_eq_true c18
      clear c18
      by_cases c19 : ((rd_T71 l0_1 x5_2).f1) > 3
      ·rw [if_pos c19] at H
       have c19b0 := tdGi c19
       clear c19
       obtain rfl := Option.some.inj H
       obtain ⟨hcz20_0, hcz20_1, hcz20_2, hfz20_0, hfz20_1, hfz20_2⟩ := zc3 BK101
       have p111 : 0 ≤ (x5_2 : Int) := tD
       have q111 : x5_2 < (l0_1.length : Int) := tD
       obtain ⟨ad111, e111, hx111_0, hx111_1, hx111_2⟩ := at_T71 HR0_1.out x5_2 p111 q111
       cases e111
       replace hx111_0 := tH HB hx111_0
       replace hx111_1 := tH HB hx111_1
       replace hx111_2 := tH HB hx111_2
       replace p111 := eq_true p111
       replace q111 := eq_true q111
       go_wp2
       go_ret
       exact ⟨tE, tB⟩
      rw [if_neg c19] at H
      have c19b0 := tdHi c19
      clear c19
      have H' := Aside0.mk H
      clear H
      obtain ⟨hcz21_0, hcz21_1, hcz21_2, hfz21_0, hfz21_1, hfz21_2⟩ := zc3 BK101
      have p111 : 0 ≤ (x5_2 : Int) := tD
      have q111 : x5_2 < (l0_1.length : Int) := tD
      obtain ⟨ad111, e111, hx111_0, hx111_1, hx111_2⟩ := at_T71 HR0_1.out x5_2 p111 q111
      cases e111
      replace hx111_0 := tH HB hx111_0
      replace hx111_1 := tH HB hx111_1
      replace hx111_2 := tH HB hx111_2
      replace p111 := eq_true p111
      replace q111 := eq_true q111
      go_wp2
      go_roundg k2
      case measure => have := HJ2.out; have := HK2.out; omega
      case rel => exact ⟨(wrap64 (x5_2 + 1)), tU, H', ⟨by have := HJ2.out; have := HK2.out; omega⟩, ⟨tK BK101⟩, ⟨tB⟩⟩
     rw [if_neg c17] at H
     have c17b0 := decide_eq_false c17
     clear c17
     have H' := Aside0.mk H
     clear H
     obtain ⟨hcz22_0, hcz22_1, hcz22_2, hfz22_0, hfz22_1, hfz22_2⟩ := zc3 BK101
     go_wp2
     go_loopg [6] k2 (fun kq v6 w' => ∃ (x6_3 : Int), v6 = .int .i64 x6_3 ∧ Aside0 (r09_Light.l1 kq x6_3 a0_0 l0_1 l0_2 = some r) ∧ Aside0 (kq ≤ k2) ∧ Aside0 (w'.heap[gb101]? = some (.cells #[.string a0_0, (.slice A0_1 l0_1.length c0_1), (.slice A0_2 l0_2.length c0_2)] 39 (0, 0))) ∧ Aside0 (Below w.heap.size w w'))
     case atStart => exact ⟨(0), tU, H', ⟨Nat.le_refl _⟩, ⟨tK BK101⟩, ⟨tB⟩⟩
     case round =>
      clear H'
      (try clear c1); (try clear p1); (try clear q1); (try clear hx1); (try clear p2); (try clear c4); (try clear p6); (try clear c8); (try clear c10); (try clear c11); (try clear c11b0); (try clear c11b1); (try clear p11); (try clear q11); (try clear hx11); (try clear c12); (try clear c14); (try clear c16); (try clear c17); (try clear c17b0); (try clear c18); (try clear c18b0); (try clear c19); (try clear c19b0); (try clear hcz13_0 hcz13_1 hcz13_2 hfz13_0 hfz13_1 hfz13_2); (try clear hcz15_0 hcz15_1 hcz15_2 hfz15_0 hfz15_1 hfz15_2); (try clear hcz20_0 hcz20_1 hcz20_2 hfz20_0 hfz20_1 hfz20_2); (try clear hcz21_0 hcz21_1 hcz21_2 hfz21_0 hfz21_1 hfz21_2); (try clear hcz22_0 hcz22_1 hcz22_2 hfz22_0 hfz22_1 hfz22_2); (try clear hcz5_0 hcz5_1 hcz5_2 hfz5_0 hfz5_1 hfz5_2); (try clear hcz9_0 hcz9_1 hcz9_2 hfz9_0 hfz9_1 hfz9_2); (try clear hx111_0); (try clear hx111_1); (try clear hx111_2); (try clear p111); (try clear q111)
      obtain ⟨x6_3, rfl, HA, HK3, BK101, HB⟩ := hrel
      cases gk with
      | zero => exact absurd HA.out (by simp [r09_Light.l1])
      | succ k3 =>
       have H := HA.out
       clear HA
       simp only [r09_Light.l1] at H
       by_cases c23 : x6_3 < (l0_2.length : Int)
       ·rw [if_pos c23] at H
        have c23b0 := decide_eq_true c23
        clear c23
        replace H := tF H
        obtain ⟨c24, H⟩ := H
        have c24b0 := decide_eq_true c24
        clear c24
        replace H := Option.bind_eq_some_iff.mp H
        obtain ⟨t114, A250, H⟩ := H
        (try dsimp only at H)
        have A25 := Aside0.mk A250
        clear A250
        by_cases c26 : t114 = true
        ·subst c26
         rw [if_pos rfl] at H
         replace H := Option.bind_eq_some_iff.mp H
         obtain ⟨t115, A270, H⟩ := H
         (try dsimp only at H)
         have A27 := Aside0.mk A270
         clear A270
         by_cases c28 : t115 = true
         ·subst c28
          rw [if_pos rfl] at H
          replace H := Option.bind_eq_some_iff.mp H
          obtain ⟨t116, A290, H⟩ := H
          (try dsimp only at H)
          have A29 := Aside0.mk A290
          clear A290
          by_cases c30 : t116 = true
          ·subst c30
           rw [if_pos rfl] at H
           have H' := Aside0.mk H
           clear H
           obtain ⟨hcz31_0, hcz31_1, hcz31_2, hfz31_0, hfz31_1, hfz31_2⟩ := zc3 BK101
           have p112 : 0 ≤ (x6_3 : Int) := tD
           have q112 : x6_3 < (l0_2.length : Int) := tD
           obtain ⟨ad112, A112_1, c112_1, A112_2, c112_2, A112_3, c112_3, e112, hx112_0, hx112_1, hx112_2, hx112_3, hx112_4, hl112_1, hi112_1, hl112_2, hi112_2, hl112_3, hi112_3⟩ := at_T74 HR0_2.out x6_3 p112 q112
           cases e112
           replace hx112_0 := tH HB hx112_0
           replace hx112_1 := tH HB hx112_1
           replace hx112_2 := tH HB hx112_2
           replace hx112_3 := tH HB hx112_3
           replace hx112_4 := tH HB hx112_4
           have HR112_1 := Aside0.mk hi112_1
           have HC112_1 := Aside0.mk hl112_1
           clear hi112_1 hl112_1
           have HR112_2 := Aside0.mk hi112_2
           have HC112_2 := Aside0.mk hl112_2
           clear hi112_2 hl112_2
           have HR112_3 := Aside0.mk hi112_3
           have HC112_3 := Aside0.mk hl112_3
           clear hi112_3 hl112_3
           replace p112 := eq_true p112
           replace q112 := eq_true q112
           go_wp2_with (first | ((with_reducible refine gate_dst (N := 7) rfl ?_); (try (refine gate_guard (by rfl) ?_; dsimp only)); refine tBx 7 74 #[.string (⟨#[]⟩ : ByteArray), .slice none 0 0, .slice none 0 0, .slice none 0 0, .int .i64 0] ?_; intro gb113 hg w32 hbox hb; have BK113 := Aside0.mk (hbox); have GW113 := tW HB hg; have GE113 := tW HB hg; replace HB := tA HB hb; have NB101_113 := tNl BK101 hg; have NB113_101 := tNg BK101 hg; replace BK101 := tL BK101 hb; clear hb hbox hg; have hnb33 := NB113_101.out; have hnc33 := NB101_113.out; obtain ⟨hcz34_0, hcz34_1, hcz34_2, hcz34_3, hcz34_4, hfz34_0, hfz34_1, hfz34_2, hfz34_3, hfz34_4⟩ := zc5 BK113) | ((with_reducible refine gate_callee (f := 42) rfl ?_); refine goesL_ (some 55) rfl rfl Try.func42 (by kernel_rfl) rfl #[.slice A112_1 ((rd_T74 l0_2 x6_3).f1).length c112_1] rfl (by (try simp only [List.map_toArray, List.map_cons, List.map_nil]); first | done | rfl | (simp only [List.length_drop, List.length_take]; rfl)) ?_; (with_reducible refine (r09_light.calls k3 _ _ ((rd_T74 l0_2 x6_3).f1) true _ (Kd.C_below HR112_1.out (tB)) HC112_1.out A25.out).mono ?_); rintro e w' ⟨rfl, ⟨nd, rfl⟩⟩; refine ⟨_, rfl, ?_⟩) | (go_at_call 42; (with_reducible refine (r09_light.calls k3 _ _ ((rd_T74 l0_2 x6_3).f2) true _ (Kd.C_below HR112_2.out (tB)) HC112_2.out A27.out).mono ?_); rintro e w' ⟨rfl, ⟨nd, rfl⟩⟩) | (go_at_call 42; (with_reducible refine (r09_light.calls k3 _ _ ((rd_T74 l0_2 x6_3).f3) true _ (Kd.C_below HR112_3.out (tB)) HC112_3.out A29.out).mono ?_); rintro e w' ⟨rfl, ⟨nd, rfl⟩⟩))
           go_roundg k3
           case measure => have := HJ2.out; have := HK2.out; have := HK3.out; omega
           case rel => exact ⟨(wrap64 (x6_3 + 1)), tU, H', ⟨by have := HJ2.out; have := HK2.out; have := HK3.out; omega⟩, ⟨by (with_reducible repeat (first | refine blk_drewN ?_ _ | refine blk_drew ?_ | refine blk_alloc ?_ _)); refine blk_far ?_ NB101_113.out _; (with_reducible repeat (first | refine blk_drewN ?_ _ | refine blk_drew ?_ | refine blk_alloc ?_ _)); refine blk_far ?_ NB101_113.out _; (with_reducible repeat (first | refine blk_drewN ?_ _ | refine blk_drew ?_ | refine blk_alloc ?_ _)); refine blk_far ?_ NB101_113.out _; (with_reducible repeat (first | refine blk_drewN ?_ _ | refine blk_drew ?_ | refine blk_alloc ?_ _)); refine blk_far ?_ NB101_113.out _; (with_reducible repeat (first | refine blk_drewN ?_ _ | refine blk_drew ?_ | refine blk_alloc ?_ _)); refine blk_far ?_ NB101_113.out _; (with_reducible repeat (first | refine blk_drewN ?_ _ | refine blk_drew ?_ | refine blk_alloc ?_ _)); exact BK101.out⟩, ⟨tB⟩⟩
          replace c30 := Bool.eq_false_iff.mpr c30
          subst c30
          rw [if_neg (show ¬ (false = true) by decide)] at H
          obtain rfl := Option.some.inj H
          obtain ⟨hcz35_0, hcz35_1, hcz35_2, hfz35_0, hfz35_1, hfz35_2⟩ := zc3 BK101
          have p112 : 0 ≤ (x6_3 : Int) := tD
          have q112 : x6_3 < (l0_2.length : Int) := tD
          obtain ⟨ad112, A112_1, c112_1, A112_2, c112_2, A112_3, c112_3, e112, hx112_0, hx112_1, hx112_2, hx112_3, hx112_4, hl112_1, hi112_1, hl112_2, hi112_2, hl112_3, hi112_3⟩ := at_T74 HR0_2.out x6_3 p112 q112
          cases e112
          replace hx112_0 := tH HB hx112_0
          replace hx112_1 := tH HB hx112_1
          replace hx112_2 := tH HB hx112_2
          replace hx112_3 := tH HB hx112_3
          replace hx112_4 := tH HB hx112_4
          have HR112_1 := Aside0.mk hi112_1
          have HC112_1 := Aside0.mk hl112_1
          clear hi112_1 hl112_1
          have HR112_2 := Aside0.mk hi112_2
          have HC112_2 := Aside0.mk hl112_2
          clear hi112_2 hl112_2
          have HR112_3 := Aside0.mk hi112_3
          have HC112_3 := Aside0.mk hl112_3
          clear hi112_3 hl112_3
          replace p112 := eq_true p112
          replace q112 := eq_true q112
          go_wp2_with (first | ((with_reducible refine gate_dst (N := 7) rfl ?_); (try (refine gate_guard (by rfl) ?_; dsimp only)); refine tBx 7 74 #[.string (⟨#[]⟩ : ByteArray), .slice none 0 0, .slice none 0 0, .slice none 0 0, .int .i64 0] ?_; intro gb113 hg w36 hbox hb; have BK113 := Aside0.mk (hbox); have GW113 := tW HB hg; have GE113 := tW HB hg; replace HB := tA HB hb; have NB101_113 := tNl BK101 hg; have NB113_101 := tNg BK101 hg; replace BK101 := tL BK101 hb; clear hb hbox hg; have hnb37 := NB113_101.out; have hnc37 := NB101_113.out; obtain ⟨hcz38_0, hcz38_1, hcz38_2, hcz38_3, hcz38_4, hfz38_0, hfz38_1, hfz38_2, hfz38_3, hfz38_4⟩ := zc5 BK113) | ((with_reducible refine gate_callee (f := 42) rfl ?_); refine goesL_ (some 55) rfl rfl Try.func42 (by kernel_rfl) rfl #[.slice A112_1 ((rd_T74 l0_2 x6_3).f1).length c112_1] rfl (by (try simp only [List.map_toArray, List.map_cons, List.map_nil]); first | done | rfl | (simp only [List.length_drop, List.length_take]; rfl)) ?_; (with_reducible refine (r09_light.calls k3 _ _ ((rd_T74 l0_2 x6_3).f1) true _ (Kd.C_below HR112_1.out (tB)) HC112_1.out A25.out).mono ?_); rintro e w' ⟨rfl, ⟨nd, rfl⟩⟩; refine ⟨_, rfl, ?_⟩) | (go_at_call 42; (with_reducible refine (r09_light.calls k3 _ _ ((rd_T74 l0_2 x6_3).f2) true _ (Kd.C_below HR112_2.out (tB)) HC112_2.out A27.out).mono ?_); rintro e w' ⟨rfl, ⟨nd, rfl⟩⟩) | (go_at_call 42; (with_reducible refine (r09_light.calls k3 _ _ ((rd_T74 l0_2 x6_3).f3) false _ (Kd.C_below HR112_3.out (tB)) HC112_3.out A29.out).mono ?_); rintro e w' ⟨rfl, ⟨nd, rfl⟩⟩))
          go_ret
          exact ⟨tE, tB⟩
         replace c28 := Bool.eq_false_iff.mpr c28
         subst c28
         rw [if_neg (show ¬ (false = true) by decide)] at H
         obtain rfl := Option.some.inj H
         obtain ⟨hcz39_0, hcz39_1, hcz39_2, hfz39_0, hfz39_1, hfz39_2⟩ := zc3 BK101
         have p112 : 0 ≤ (x6_3 : Int) := tD
         have q112 : x6_3 < (l0_2.length : Int) := tD
         obtain ⟨ad112, A112_1, c112_1, A112_2, c112_2, A112_3, c112_3, e112, hx112_0, hx112_1, hx112_2, hx112_3, hx112_4, hl112_1, hi112_1, hl112_2, hi112_2, hl112_3, hi112_3⟩ := at_T74 HR0_2.out x6_3 p112 q112
         cases e112
         replace hx112_0 := tH HB hx112_0
         replace hx112_1 := tH HB hx112_1
         replace hx112_2 := tH HB hx112_2
         replace hx112_3 := tH HB hx112_3
         replace hx112_4 := tH HB hx112_4
         have HR112_1 := Aside0.mk hi112_1
         have HC112_1 := Aside0.mk hl112_1
         clear hi112_1 hl112_1
         have HR112_2 := Aside0.mk hi112_2
         have HC112_2 := Aside0.mk hl112_2
         clear hi112_2 hl112_2
         have HR112_3 := Aside0.mk hi112_3
         have HC112_3 := Aside0.mk hl112_3
         clear hi112_3 hl112_3
         replace p112 := eq_true p112
         replace q112 := eq_true q112
         go_wp2_with (first | ((with_reducible refine gate_dst (N := 7) rfl ?_); (try (refine gate_guard (by rfl) ?_; dsimp only)); refine tBx 7 74 #[.string (⟨#[]⟩ : ByteArray), .slice none 0 0, .slice none 0 0, .slice none 0 0, .int .i64 0] ?_; intro gb113 hg w40 hbox hb; have BK113 := Aside0.mk (hbox); have GW113 := tW HB hg; have GE113 := tW HB hg; replace HB := tA HB hb; have NB101_113 := tNl BK101 hg; have NB113_101 := tNg BK101 hg; replace BK101 := tL BK101 hb; clear hb hbox hg; have hnb41 := NB113_101.out; have hnc41 := NB101_113.out; obtain ⟨hcz42_0, hcz42_1, hcz42_2, hcz42_3, hcz42_4, hfz42_0, hfz42_1, hfz42_2, hfz42_3, hfz42_4⟩ := zc5 BK113) | ((with_reducible refine gate_callee (f := 42) rfl ?_); refine goesL_ (some 55) rfl rfl Try.func42 (by kernel_rfl) rfl #[.slice A112_1 ((rd_T74 l0_2 x6_3).f1).length c112_1] rfl (by (try simp only [List.map_toArray, List.map_cons, List.map_nil]); first | done | rfl | (simp only [List.length_drop, List.length_take]; rfl)) ?_; (with_reducible refine (r09_light.calls k3 _ _ ((rd_T74 l0_2 x6_3).f1) true _ (Kd.C_below HR112_1.out (tB)) HC112_1.out A25.out).mono ?_); rintro e w' ⟨rfl, ⟨nd, rfl⟩⟩; refine ⟨_, rfl, ?_⟩) | (go_at_call 42; (with_reducible refine (r09_light.calls k3 _ _ ((rd_T74 l0_2 x6_3).f2) false _ (Kd.C_below HR112_2.out (tB)) HC112_2.out A27.out).mono ?_); rintro e w' ⟨rfl, ⟨nd, rfl⟩⟩))
         go_ret
         exact ⟨tE, tB⟩
        replace c26 := Bool.eq_false_iff.mpr c26
        subst c26
        rw [if_neg (show ¬ (false = true) by decide)] at H
        obtain rfl := Option.some.inj H
        obtain ⟨hcz43_0, hcz43_1, hcz43_2, hfz43_0, hfz43_1, hfz43_2⟩ := zc3 BK101
        have p112 : 0 ≤ (x6_3 : Int) := tD
        have q112 : x6_3 < (l0_2.length : Int) := tD
        obtain ⟨ad112, A112_1, c112_1, A112_2, c112_2, A112_3, c112_3, e112, hx112_0, hx112_1, hx112_2, hx112_3, hx112_4, hl112_1, hi112_1, hl112_2, hi112_2, hl112_3, hi112_3⟩ := at_T74 HR0_2.out x6_3 p112 q112
        cases e112
        replace hx112_0 := tH HB hx112_0
        replace hx112_1 := tH HB hx112_1
        replace hx112_2 := tH HB hx112_2
        replace hx112_3 := tH HB hx112_3
        replace hx112_4 := tH HB hx112_4
        have HR112_1 := Aside0.mk hi112_1
        have HC112_1 := Aside0.mk hl112_1
        clear hi112_1 hl112_1
        have HR112_2 := Aside0.mk hi112_2
        have HC112_2 := Aside0.mk hl112_2
        clear hi112_2 hl112_2
        have HR112_3 := Aside0.mk hi112_3
        have HC112_3 := Aside0.mk hl112_3
        clear hi112_3 hl112_3
        replace p112 := eq_true p112
        replace q112 := eq_true q112
        go_wp2_with (first | ((with_reducible refine gate_dst (N := 7) rfl ?_); (try (refine gate_guard (by rfl) ?_; dsimp only)); refine tBx 7 74 #[.string (⟨#[]⟩ : ByteArray), .slice none 0 0, .slice none 0 0, .slice none 0 0, .int .i64 0] ?_; intro gb113 hg w44 hbox hb; have BK113 := Aside0.mk (hbox); have GW113 := tW HB hg; have GE113 := tW HB hg; replace HB := tA HB hb; have NB101_113 := tNl BK101 hg; have NB113_101 := tNg BK101 hg; replace BK101 := tL BK101 hb; clear hb hbox hg; have hnb45 := NB113_101.out; have hnc45 := NB101_113.out; obtain ⟨hcz46_0, hcz46_1, hcz46_2, hcz46_3, hcz46_4, hfz46_0, hfz46_1, hfz46_2, hfz46_3, hfz46_4⟩ := zc5 BK113) | ((with_reducible refine gate_callee (f := 42) rfl ?_); refine goesL_ (some 55) rfl rfl Try.func42 (by kernel_rfl) rfl #[.slice A112_1 ((rd_T74 l0_2 x6_3).f1).length c112_1] rfl (by (try simp only [List.map_toArray, List.map_cons, List.map_nil]); first | done | rfl | (simp only [List.length_drop, List.length_take]; rfl)) ?_; (with_reducible refine (r09_light.calls k3 _ _ ((rd_T74 l0_2 x6_3).f1) false _ (Kd.C_below HR112_1.out (tB)) HC112_1.out A25.out).mono ?_); rintro e w' ⟨rfl, ⟨nd, rfl⟩⟩; refine ⟨_, rfl, ?_⟩))
        go_ret
        exact ⟨tE, tB⟩
       rw [if_neg c23] at H
       have c23b0 := decide_eq_false c23
       clear c23
       obtain rfl := Option.some.inj H
       obtain ⟨hcz47_0, hcz47_1, hcz47_2, hfz47_0, hfz47_1, hfz47_2⟩ := zc3 BK101
       go_wp2
       go_ret
       exact ⟨tE, tB⟩
mutual
def r09_Name.j0 : Nat → ByteArray → Bool → Option (Bool)
 | 0, _, _ => none
 | k + 1, x0, x14 => if x14 = true then (some false) else (r09_Name.l0 k x0 0)
def r09_Name.l0 : Nat → ByteArray → Int → Option (Bool)
 | 0, _, _ => none
 | k + 1, x0, x3 => if x3 < (x0.size : Int) then (if 0 ≤ x3 then (if (bt x0 x3) ≥ 97 then (if (bt x0 x3) ≤ 122 then (if (bt x0 x3) ≥ 48 then (if (bt x0 x3) ≤ 57 then (r09_Name.l0 k x0 (wrap64 (x3 + 1))) else (r09_Name.l0 k x0 (wrap64 (x3 + 1)))) else (r09_Name.l0 k x0 (wrap64 (x3 + 1)))) else (if (bt x0 x3) ≥ 48 then (if (bt x0 x3) ≤ 57 then (if ((bt x0 x3) = 95) then (r09_Name.l0 k x0 (wrap64 (x3 + 1))) else (if x3 = 0 then (some false) else (r09_Name.l0 k x0 (wrap64 (x3 + 1))))) else (if ((bt x0 x3) = 95) then (r09_Name.l0 k x0 (wrap64 (x3 + 1))) else (if ((bt x0 x3) = 46) then (if x3 = 0 then (some false) else (r09_Name.l0 k x0 (wrap64 (x3 + 1)))) else (some false)))) else (if ((bt x0 x3) = 95) then (r09_Name.l0 k x0 (wrap64 (x3 + 1))) else (if ((bt x0 x3) = 46) then (if x3 = 0 then (some false) else (r09_Name.l0 k x0 (wrap64 (x3 + 1)))) else (some false))))) else (if (bt x0 x3) ≥ 48 then (if (bt x0 x3) ≤ 57 then (if ((bt x0 x3) = 95) then (r09_Name.l0 k x0 (wrap64 (x3 + 1))) else (if x3 = 0 then (some false) else (r09_Name.l0 k x0 (wrap64 (x3 + 1))))) else (if ((bt x0 x3) = 95) then (r09_Name.l0 k x0 (wrap64 (x3 + 1))) else (if ((bt x0 x3) = 46) then (if x3 = 0 then (some false) else (r09_Name.l0 k x0 (wrap64 (x3 + 1)))) else (some false)))) else (if ((bt x0 x3) = 95) then (r09_Name.l0 k x0 (wrap64 (x3 + 1))) else (if ((bt x0 x3) = 46) then (if x3 = 0 then (some false) else (r09_Name.l0 k x0 (wrap64 (x3 + 1)))) else (some false))))) else (none)) else (some true)
end
def r09_Name.f (k : Nat) (a0 : ByteArray) : Option (Bool) := if (a0.size : Int) < 1 then (r09_Name.j0 k a0 true) else (r09_Name.j0 k a0 (decide ((a0.size : Int) > 16)))
set_option maxHeartbeats 8000000 in
set_option maxRecDepth 100000 in
theorem r09_Name.calls (k : Nat) (a0 : ByteArray) (r : Bool) (w : World) (h : r09_Name.f k a0 = some r) :
  Calls Try.prog 59 #[.string a0] w fun e w' => e = .returned (.bool r) ∧ Drawn0 w w' := by
 have H : (if (a0.size : Int) < 1 then (r09_Name.j0 k a0 true) else (r09_Name.j0 k a0 (decide ((a0.size : Int) > 16)))) = some r := h
 clear h
 have HC2 := Aside0.mk H
 clear H
 go_enter Try.func59, Try.ntmps59
 go_upto_region 1 with (fail)
 go_cut [14] (fun v14 wc => ∃ (kq : Nat) (x14_1 : Bool), v14 = .bool x14_1 ∧ Aside0 (r09_Name.j0 kq a0 x14_1 = some r) ∧ Aside0 (kq ≤ k) ∧ Drawn0 w wc)
 case first =>
  have H := HC2.out
  clear HC2
  by_cases c3 : (a0.size : Int) < 1
  ·rw [if_pos c3] at H
   have c3b0 := decide_eq_true c3
   have c3b1 : decide (a0.size < 1) = true := decide_eq_true (by omega)
   clear c3
   (first | rw [c3b0] | (simp only [i64_w, i32_w]; rw [c3b0]) | skip)
   have H' := Aside0.mk H
   clear H
   go_wp2
   go_meet
   case rel => exact ⟨_, (true), tU, H', ⟨by first | omega | exact Nat.le_refl _⟩, by repeat (first | exact Drawn0.refl _ | apply Drawn0.step)⟩
  rw [if_neg c3] at H
  have c3b0 := decide_eq_false c3
  have c3b1 : decide (a0.size < 1) = false := decide_eq_false (by omega)
  clear c3
  (first | rw [c3b0] | (simp only [i64_w, i32_w]; rw [c3b0]) | skip)
  have H' := Aside0.mk H
  clear H
  go_wp2
  go_meet
  case rel => exact ⟨_, (decide ((a0.size : Int) > 16)), tU, H', ⟨by first | omega | exact Nat.le_refl _⟩, by repeat (first | exact Drawn0.refl _ | apply Drawn0.step)⟩
 case rest =>
  clear HC2
  (try clear p2); (try clear c3); (try clear c3b0); (try clear c3b1)
  obtain ⟨kq, x14_1, rfl, HA, HJ1, ⟨mc1, rfl⟩⟩ := hcut
  cases kq with
  | zero => exact absurd HA.out (by simp [r09_Name.j0])
  | succ kj1 =>
   have H := HA.out
   clear HA
   simp only [r09_Name.j0] at H
   by_cases c4 : x14_1 = true
   ·subst c4
    rw [if_pos rfl] at H
    obtain rfl := Option.some.inj H
    go_wp2
    go_ret
    exact ⟨by first | rfl | (simp; done) | (simp [*]; done), by repeat (first | exact Drawn0.refl _ | apply Drawn0.step)⟩
   replace c4 := Bool.eq_false_iff.mpr c4
   subst c4
   rw [if_neg (show ¬ (false = true) by decide)] at H
   have H' := Aside0.mk H
   clear H
   go_wp2
   go_loopg [3] kj1 (fun kq v3 w' => ∃ (x3_2 : Int), v3 = .int .i64 x3_2 ∧ Aside0 (r09_Name.l0 kq a0 x3_2 = some r) ∧ Aside0 (kq ≤ kj1) ∧ Drawn0 w w')
   case atStart => exact ⟨(0), tU, H', ⟨Nat.le_refl _⟩, by repeat (first | exact Drawn0.refl _ | apply Drawn0.step)⟩
   case round =>
    clear H'
    (try clear c1); (try clear p2); (try clear c3); (try clear c3b0); (try clear c3b1); (try clear c4)
    obtain ⟨x3_2, rfl, HA, HK2, ⟨m2, rfl⟩⟩ := hrel
    cases gk with
    | zero => exact absurd HA.out (by simp [r09_Name.l0])
    | succ k2 =>
     have H := HA.out
     clear HA
     simp only [r09_Name.l0] at H
     by_cases c5 : x3_2 < (a0.size : Int)
     ·rw [if_pos c5] at H
      have c5b0 := decide_eq_true c5
      clear c5
      replace H := tF H
      obtain ⟨c6, H⟩ := H
      have c6b0 := decide_eq_true c6
      clear c6
      by_cases c8 : (bt a0 x3_2) ≥ 97
      ·rw [if_pos c8] at H
       have c8b0 := tdGe c8
       clear c8
       by_cases c9 : (bt a0 x3_2) ≤ 122
       ·rw [if_pos c9] at H
        have c9b0 := decide_eq_true c9
        clear c9
        by_cases c10 : (bt a0 x3_2) ≥ 48
        ·rw [if_pos c10] at H
         have c10b0 := tdGe c10
         clear c10
         by_cases c11 : (bt a0 x3_2) ≤ 57
         ·rw [if_pos c11] at H
          have c11b0 := decide_eq_true c11
          clear c11
          have H' := Aside0.mk H
          clear H
          have p7 : 0 ≤ (x3_2 : Int) := tD
          have q7 : x3_2 < (a0.size : Int) := tD
          have hx7 := bt_at a0 x3_2
          replace p7 := eq_true p7
          replace q7 := eq_true q7
          go_wp2
          go_roundg k2
          case measure => have := HJ1.out; have := HK2.out; omega
          case rel => exact ⟨(wrap64 (x3_2 + 1)), tU, H', ⟨by have := HJ1.out; have := HK2.out; omega⟩, by repeat (first | exact Drawn0.refl _ | apply Drawn0.step)⟩
         rw [if_neg c11] at H
         have c11b0 := decide_eq_false c11
         clear c11
         have H' := Aside0.mk H
         clear H
         have p7 : 0 ≤ (x3_2 : Int) := tD
         have q7 : x3_2 < (a0.size : Int) := tD
         have hx7 := bt_at a0 x3_2
         replace p7 := eq_true p7
         replace q7 := eq_true q7
         go_wp2
         go_roundg k2
         case measure => have := HJ1.out; have := HK2.out; omega
         case rel => exact ⟨(wrap64 (x3_2 + 1)), tU, H', ⟨by have := HJ1.out; have := HK2.out; omega⟩, by repeat (first | exact Drawn0.refl _ | apply Drawn0.step)⟩
        rw [if_neg c10] at H
        have c10b0 := tdHe c10
        clear c10
        have H' := Aside0.mk H
        clear H
        have p7 : 0 ≤ (x3_2 : Int) := tD
        have q7 : x3_2 < (a0.size : Int) := tD
        have hx7 := bt_at a0 x3_2
        replace p7 := eq_true p7
        replace q7 := eq_true q7
        go_wp2
        go_roundg k2
        case measure => have := HJ1.out; have := HK2.out; omega
        case rel => exact ⟨(wrap64 (x3_2 + 1)), tU, H', ⟨by have := HJ1.out; have := HK2.out; omega⟩, by repeat (first | exact Drawn0.refl _ | apply Drawn0.step)⟩
       rw [if_neg c9] at H
       have c9b0 := decide_eq_false c9
       clear c9
       by_cases c12 : (bt a0 x3_2) ≥ 48
       ·rw [if_pos c12] at H
        have c12b0 := tdGe c12
        clear c12
        by_cases c13 : (bt a0 x3_2) ≤ 57
        ·rw [if_pos c13] at H
         have c13b0 := decide_eq_true c13
         clear c13
         by_cases c14 : ((bt a0 x3_2) = 95)
         ·rw [if_pos c14] at H
          have c14b0 := beq_iff_eq.mpr c14
          have c14b1 := bne_eq_false_iff_eq.mpr c14
          clear c14
          have H' := Aside0.mk H
          clear H
          have p7 : 0 ≤ (x3_2 : Int) := tD
          have q7 : x3_2 < (a0.size : Int) := tD
          have hx7 := bt_at a0 x3_2
          replace p7 := eq_true p7
          replace q7 := eq_true q7
          go_wp2
          go_roundg k2
          case measure => have := HJ1.out; have := HK2.out; omega
          case rel => exact ⟨(wrap64 (x3_2 + 1)), tU, H', ⟨by have := HJ1.out; have := HK2.out; omega⟩, by repeat (first | exact Drawn0.refl _ | apply Drawn0.step)⟩
         rw [if_neg c14] at H
         have c14b0 := beq_eq_false_iff_ne.mpr c14
         have c14b1 := bne_iff_ne.mpr c14
         by_cases c15 : x3_2 = 0
         ·rw [if_pos c15] at H
          have c15b0 := beq_iff_eq.mpr c15
          have c15b1 := bne_eq_false_iff_eq.mpr c15
          clear c15
          obtain rfl := Option.some.inj H
          have p7 : 0 ≤ (x3_2 : Int) := tD
          have q7 : x3_2 < (a0.size : Int) := tD
          have hx7 := bt_at a0 x3_2
          replace p7 := eq_true p7
          replace q7 := eq_true q7
          go_wp2
          go_ret
          exact ⟨by first | rfl | (simp; done) | (simp [*]; done), by repeat (first | exact Drawn0.refl _ | apply Drawn0.step)⟩
         rw [if_neg c15] at H
         have c15b0 := beq_eq_false_iff_ne.mpr c15
         have c15b1 := bne_iff_ne.mpr c15
         have H' := Aside0.mk H
         clear H
         have p7 : 0 ≤ (x3_2 : Int) := tD
         have q7 : x3_2 < (a0.size : Int) := tD
         have hx7 := bt_at a0 x3_2
         replace p7 := eq_true p7
         replace q7 := eq_true q7
         go_wp2
         go_roundg k2
         case measure => have := HJ1.out; have := HK2.out; omega
         case rel => exact ⟨(wrap64 (x3_2 + 1)), tU, H', ⟨by have := HJ1.out; have := HK2.out; omega⟩, by repeat (first | exact Drawn0.refl _ | apply Drawn0.step)⟩
        rw [if_neg c13] at H
        have c13b0 := decide_eq_false c13
        clear c13
        by_cases c16 : ((bt a0 x3_2) = 95)
        ·rw [if_pos c16] at H
         have c16b0 := beq_iff_eq.mpr c16
         have c16b1 := bne_eq_false_iff_eq.mpr c16
         clear c16
         have H' := Aside0.mk H
         clear H
         have p7 : 0 ≤ (x3_2 : Int) := tD
         have q7 : x3_2 < (a0.size : Int) := tD
         have hx7 := bt_at a0 x3_2
         replace p7 := eq_true p7
         replace q7 := eq_true q7
         go_wp2
         go_roundg k2
         case measure => have := HJ1.out; have := HK2.out; omega
         case rel => exact ⟨(wrap64 (x3_2 + 1)), tU, H', ⟨by have := HJ1.out; have := HK2.out; omega⟩, by repeat (first | exact Drawn0.refl _ | apply Drawn0.step)⟩
        rw [if_neg c16] at H
        have c16b0 := beq_eq_false_iff_ne.mpr c16
        have c16b1 := bne_iff_ne.mpr c16
        by_cases c17 : ((bt a0 x3_2) = 46)
        ·rw [if_pos c17] at H
         have c17b0 := beq_iff_eq.mpr c17
         have c17b1 := bne_eq_false_iff_eq.mpr c17
         clear c17
         by_cases c18 : x3_2 = 0
         ·rw [if_pos c18] at H
          have c18b0 := beq_iff_eq.mpr c18
          have c18b1 := bne_eq_false_iff_eq.mpr c18
          clear c18
          obtain rfl := Option.some.inj H
          have p7 : 0 ≤ (x3_2 : Int) := tD
          have q7 : x3_2 < (a0.size : Int) := tD
          have hx7 := bt_at a0 x3_2
          replace p7 := eq_true p7
          replace q7 := eq_true q7
          go_wp2
          go_ret
          exact ⟨by first | rfl | (simp; done) | (simp [*]; done), by repeat (first | exact Drawn0.refl _ | apply Drawn0.step)⟩
         rw [if_neg c18] at H
         have c18b0 := beq_eq_false_iff_ne.mpr c18
         have c18b1 := bne_iff_ne.mpr c18
         have H' := Aside0.mk H
         clear H
         have p7 : 0 ≤ (x3_2 : Int) := tD
         have q7 : x3_2 < (a0.size : Int) := tD
         have hx7 := bt_at a0 x3_2
         replace p7 := eq_true p7
         replace q7 := eq_true q7
         go_wp2
         go_roundg k2
         case measure => have := HJ1.out; have := HK2.out; omega
         case rel => exact ⟨(wrap64 (x3_2 + 1)), tU, H', ⟨by have := HJ1.out; have := HK2.out; omega⟩, by repeat (first | exact Drawn0.refl _ | apply Drawn0.step)⟩
        rw [if_neg c17] at H
        have c17b0 := beq_eq_false_iff_ne.mpr c17
        have c17b1 := bne_iff_ne.mpr c17
        obtain rfl := Option.some.inj H
        have p7 : 0 ≤ (x3_2 : Int) := tD
        have q7 : x3_2 < (a0.size : Int) := tD
        have hx7 := bt_at a0 x3_2
        replace p7 := eq_true p7
        replace q7 := eq_true q7
        go_wp2
        go_ret
        exact ⟨by first | rfl | (simp; done) | (simp [*]; done), by repeat (first | exact Drawn0.refl _ | apply Drawn0.step)⟩
       rw [if_neg c12] at H
       have c12b0 := tdHe c12
       clear c12
       by_cases c19 : ((bt a0 x3_2) = 95)
       ·rw [if_pos c19] at H
        have c19b0 := beq_iff_eq.mpr c19
        have c19b1 := bne_eq_false_iff_eq.mpr c19
        clear c19
        have H' := Aside0.mk H
        clear H
        have p7 : 0 ≤ (x3_2 : Int) := tD
        have q7 : x3_2 < (a0.size : Int) := tD
        have hx7 := bt_at a0 x3_2
        replace p7 := eq_true p7
        replace q7 := eq_true q7
        go_wp2
        go_roundg k2
        case measure => have := HJ1.out; have := HK2.out; omega
        case rel => exact ⟨(wrap64 (x3_2 + 1)), tU, H', ⟨by have := HJ1.out; have := HK2.out; omega⟩, by repeat (first | exact Drawn0.refl _ | apply Drawn0.step)⟩
       rw [if_neg c19] at H
       have c19b0 := beq_eq_false_iff_ne.mpr c19
       have c19b1 := bne_iff_ne.mpr c19
       by_cases c20 : ((bt a0 x3_2) = 46)
       ·rw [if_pos c20] at H
        have c20b0 := beq_iff_eq.mpr c20
        have c20b1 := bne_eq_false_iff_eq.mpr c20
        clear c20
        by_cases c21 : x3_2 = 0
        ·rw [if_pos c21] at H
         have c21b0 := beq_iff_eq.mpr c21
         have c21b1 := bne_eq_false_iff_eq.mpr c21
         clear c21
         obtain rfl := Option.some.inj H
         have p7 : 0 ≤ (x3_2 : Int) := tD
         have q7 : x3_2 < (a0.size : Int) := tD
         have hx7 := bt_at a0 x3_2
         replace p7 := eq_true p7
         replace q7 := eq_true q7
         go_wp2
         go_ret
         exact ⟨by first | rfl | (simp; done) | (simp [*]; done), by repeat (first | exact Drawn0.refl _ | apply Drawn0.step)⟩
        rw [if_neg c21] at H
        have c21b0 := beq_eq_false_iff_ne.mpr c21
        have c21b1 := bne_iff_ne.mpr c21
        have H' := Aside0.mk H
        clear H
        have p7 : 0 ≤ (x3_2 : Int) := tD
        have q7 : x3_2 < (a0.size : Int) := tD
        have hx7 := bt_at a0 x3_2
        replace p7 := eq_true p7
        replace q7 := eq_true q7
        go_wp2
        go_roundg k2
        case measure => have := HJ1.out; have := HK2.out; omega
        case rel => exact ⟨(wrap64 (x3_2 + 1)), tU, H', ⟨by have := HJ1.out; have := HK2.out; omega⟩, by repeat (first | exact Drawn0.refl _ | apply Drawn0.step)⟩
       rw [if_neg c20] at H
       have c20b0 := beq_eq_false_iff_ne.mpr c20
       have c20b1 := bne_iff_ne.mpr c20
       obtain rfl := Option.some.inj H
       have p7 : 0 ≤ (x3_2 : Int) := tD
       have q7 : x3_2 < (a0.size : Int) := tD
       have hx7 := bt_at a0 x3_2
       replace p7 := eq_true p7
       replace q7 := eq_true q7
       go_wp2
       go_ret
       exact ⟨by first | rfl | (simp; done) | (simp [*]; done), by repeat (first | exact Drawn0.refl _ | apply Drawn0.step)⟩
      rw [if_neg c8] at H
      have c8b0 := tdHe c8
      clear c8
      by_cases c22 : (bt a0 x3_2) ≥ 48
      ·rw [if_pos c22] at H
       have c22b0 := tdGe c22
       clear c22
       by_cases c23 : (bt a0 x3_2) ≤ 57
       ·rw [if_pos c23] at H
        have c23b0 := decide_eq_true c23
        clear c23
        by_cases c24 : ((bt a0 x3_2) = 95)
        ·rw [if_pos c24] at H
         have c24b0 := beq_iff_eq.mpr c24
         have c24b1 := bne_eq_false_iff_eq.mpr c24
         clear c24
         have H' := Aside0.mk H
         clear H
         have p7 : 0 ≤ (x3_2 : Int) := tD
         have q7 : x3_2 < (a0.size : Int) := tD
         have hx7 := bt_at a0 x3_2
         replace p7 := eq_true p7
         replace q7 := eq_true q7
         go_wp2
         go_roundg k2
         case measure => have := HJ1.out; have := HK2.out; omega
         case rel => exact ⟨(wrap64 (x3_2 + 1)), tU, H', ⟨by have := HJ1.out; have := HK2.out; omega⟩, by repeat (first | exact Drawn0.refl _ | apply Drawn0.step)⟩
        rw [if_neg c24] at H
        have c24b0 := beq_eq_false_iff_ne.mpr c24
        have c24b1 := bne_iff_ne.mpr c24
        by_cases c25 : x3_2 = 0
        ·rw [if_pos c25] at H
         have c25b0 := beq_iff_eq.mpr c25
         have c25b1 := bne_eq_false_iff_eq.mpr c25
         clear c25
         obtain rfl := Option.some.inj H
         have p7 : 0 ≤ (x3_2 : Int) := tD
         have q7 : x3_2 < (a0.size : Int) := tD
         have hx7 := bt_at a0 x3_2
         replace p7 := eq_true p7
         replace q7 := eq_true q7
         go_wp2
         go_ret
         exact ⟨by first | rfl | (simp; done) | (simp [*]; done), by repeat (first | exact Drawn0.refl _ | apply Drawn0.step)⟩
        rw [if_neg c25] at H
        have c25b0 := beq_eq_false_iff_ne.mpr c25
        have c25b1 := bne_iff_ne.mpr c25
        have H' := Aside0.mk H
        clear H
        have p7 : 0 ≤ (x3_2 : Int) := tD
        have q7 : x3_2 < (a0.size : Int) := tD
        have hx7 := bt_at a0 x3_2
        replace p7 := eq_true p7
        replace q7 := eq_true q7
        go_wp2
        go_roundg k2
        case measure => have := HJ1.out; have := HK2.out; omega
        case rel => exact ⟨(wrap64 (x3_2 + 1)), tU, H', ⟨by have := HJ1.out; have := HK2.out; omega⟩, by repeat (first | exact Drawn0.refl _ | apply Drawn0.step)⟩
       rw [if_neg c23] at H
       have c23b0 := decide_eq_false c23
       clear c23
       by_cases c26 : ((bt a0 x3_2) = 95)
       ·rw [if_pos c26] at H
        have c26b0 := beq_iff_eq.mpr c26
        have c26b1 := bne_eq_false_iff_eq.mpr c26
        clear c26
        have H' := Aside0.mk H
        clear H
        have p7 : 0 ≤ (x3_2 : Int) := tD
        have q7 : x3_2 < (a0.size : Int) := tD
        have hx7 := bt_at a0 x3_2
        replace p7 := eq_true p7
        replace q7 := eq_true q7
        go_wp2
        go_roundg k2
        case measure => have := HJ1.out; have := HK2.out; omega
        case rel => exact ⟨(wrap64 (x3_2 + 1)), tU, H', ⟨by have := HJ1.out; have := HK2.out; omega⟩, by repeat (first | exact Drawn0.refl _ | apply Drawn0.step)⟩
       rw [if_neg c26] at H
       have c26b0 := beq_eq_false_iff_ne.mpr c26
       have c26b1 := bne_iff_ne.mpr c26
       by_cases c27 : ((bt a0 x3_2) = 46)
       ·rw [if_pos c27] at H
        have c27b0 := beq_iff_eq.mpr c27
        have c27b1 := bne_eq_false_iff_eq.mpr c27
        clear c27
        by_cases c28 : x3_2 = 0
        ·rw [if_pos c28] at H
         have c28b0 := beq_iff_eq.mpr c28
         have c28b1 := bne_eq_false_iff_eq.mpr c28
         clear c28
         obtain rfl := Option.some.inj H
         have p7 : 0 ≤ (x3_2 : Int) := tD
         have q7 : x3_2 < (a0.size : Int) := tD
         have hx7 := bt_at a0 x3_2
         replace p7 := eq_true p7
         replace q7 := eq_true q7
         go_wp2
         go_ret
         exact ⟨by first | rfl | (simp; done) | (simp [*]; done), by repeat (first | exact Drawn0.refl _ | apply Drawn0.step)⟩
        rw [if_neg c28] at H
        have c28b0 := beq_eq_false_iff_ne.mpr c28
        have c28b1 := bne_iff_ne.mpr c28
        have H' := Aside0.mk H
        clear H
        have p7 : 0 ≤ (x3_2 : Int) := tD
        have q7 : x3_2 < (a0.size : Int) := tD
        have hx7 := bt_at a0 x3_2
        replace p7 := eq_true p7
        replace q7 := eq_true q7
        go_wp2
        go_roundg k2
        case measure => have := HJ1.out; have := HK2.out; omega
        case rel => exact ⟨(wrap64 (x3_2 + 1)), tU, H', ⟨by have := HJ1.out; have := HK2.out; omega⟩, by repeat (first | exact Drawn0.refl _ | apply Drawn0.step)⟩
       rw [if_neg c27] at H
       have c27b0 := beq_eq_false_iff_ne.mpr c27
       have c27b1 := bne_iff_ne.mpr c27
       obtain rfl := Option.some.inj H
       have p7 : 0 ≤ (x3_2 : Int) := tD
       have q7 : x3_2 < (a0.size : Int) := tD
       have hx7 := bt_at a0 x3_2
       replace p7 := eq_true p7
       replace q7 := eq_true q7
       go_wp2
       go_ret
       exact ⟨by first | rfl | (simp; done) | (simp [*]; done), by repeat (first | exact Drawn0.refl _ | apply Drawn0.step)⟩
      rw [if_neg c22] at H
      have c22b0 := tdHe c22
      clear c22
      by_cases c29 : ((bt a0 x3_2) = 95)
      ·rw [if_pos c29] at H
       have c29b0 := beq_iff_eq.mpr c29
       have c29b1 := bne_eq_false_iff_eq.mpr c29
       clear c29
       have H' := Aside0.mk H
       clear H
       have p7 : 0 ≤ (x3_2 : Int) := tD
       have q7 : x3_2 < (a0.size : Int) := tD
       have hx7 := bt_at a0 x3_2
       replace p7 := eq_true p7
       replace q7 := eq_true q7
       go_wp2
       go_roundg k2
       case measure => have := HJ1.out; have := HK2.out; omega
       case rel => exact ⟨(wrap64 (x3_2 + 1)), tU, H', ⟨by have := HJ1.out; have := HK2.out; omega⟩, by repeat (first | exact Drawn0.refl _ | apply Drawn0.step)⟩
      rw [if_neg c29] at H
      have c29b0 := beq_eq_false_iff_ne.mpr c29
      have c29b1 := bne_iff_ne.mpr c29
      by_cases c30 : ((bt a0 x3_2) = 46)
      ·rw [if_pos c30] at H
       have c30b0 := beq_iff_eq.mpr c30
       have c30b1 := bne_eq_false_iff_eq.mpr c30
       clear c30
       by_cases c31 : x3_2 = 0
       ·rw [if_pos c31] at H
        have c31b0 := beq_iff_eq.mpr c31
        have c31b1 := bne_eq_false_iff_eq.mpr c31
        clear c31
        obtain rfl := Option.some.inj H
        have p7 : 0 ≤ (x3_2 : Int) := tD
        have q7 : x3_2 < (a0.size : Int) := tD
        have hx7 := bt_at a0 x3_2
        replace p7 := eq_true p7
        replace q7 := eq_true q7
        go_wp2
        go_ret
        exact ⟨by first | rfl | (simp; done) | (simp [*]; done), by repeat (first | exact Drawn0.refl _ | apply Drawn0.step)⟩
       rw [if_neg c31] at H
       have c31b0 := beq_eq_false_iff_ne.mpr c31
       have c31b1 := bne_iff_ne.mpr c31
       have H' := Aside0.mk H
       clear H
       have p7 : 0 ≤ (x3_2 : Int) := tD
       have q7 : x3_2 < (a0.size : Int) := tD
       have hx7 := bt_at a0 x3_2
       replace p7 := eq_true p7
       replace q7 := eq_true q7
       go_wp2
       go_roundg k2
       case measure => have := HJ1.out; have := HK2.out; omega
       case rel => exact ⟨(wrap64 (x3_2 + 1)), tU, H', ⟨by have := HJ1.out; have := HK2.out; omega⟩, by repeat (first | exact Drawn0.refl _ | apply Drawn0.step)⟩
      rw [if_neg c30] at H
      have c30b0 := beq_eq_false_iff_ne.mpr c30
      have c30b1 := bne_iff_ne.mpr c30
      obtain rfl := Option.some.inj H
      have p7 : 0 ≤ (x3_2 : Int) := tD
      have q7 : x3_2 < (a0.size : Int) := tD
      have hx7 := bt_at a0 x3_2
      replace p7 := eq_true p7
      replace q7 := eq_true q7
      go_wp2
      go_ret
      exact ⟨by first | rfl | (simp; done) | (simp [*]; done), by repeat (first | exact Drawn0.refl _ | apply Drawn0.step)⟩
     rw [if_neg c5] at H
     have c5b0 := decide_eq_false c5
     clear c5
     obtain rfl := Option.some.inj H
     go_wp2
     go_ret
     exact ⟨by first | rfl | (simp; done) | (simp [*]; done), by repeat (first | exact Drawn0.refl _ | apply Drawn0.step)⟩
mutual
def r09_place.l0 : Nat → Int → Int → ByteArray → List (S71) → List (S74) → ByteArray → Int → Int → Option (Int)
 | 0, _, _, _, _, _, _, _, _ => none
 | k + 1, x1, x6, x102000, x102001, x102002, x104000, x104001, x104002 => if x6 < x1 then (if 0 ≤ x6 then (if x6 < (x102001.length : Int) then (if ((rd_T71 x102001 x6).f0).toList = x104000.toList then (some 6) else (r09_place.l0 k x1 (wrap64 (x6 + 1)) x102000 x102001 x102002 x104000 x104001 x104002)) else (none)) else (none)) else (if x104002 < 0 then (r09_place.j1 k true x104000 x104001 x104002) else (r09_place.j1 k (decide (x104002 > 1048576)) x104000 x104001 x104002))
def r09_place.j1 : Nat → Bool → ByteArray → Int → Int → Option (Int)
 | 0, _, _, _, _ => none
 | k + 1, x37, x104000, x104001, x104002 => if x37 = true then (some 1) else (if x104001 < 0 then (some 10) else (if x104001 > 1048576 then (some 10) else (if x104002 = 0 then (some 0) else (if x104001 > x104002 then (some 10) else (some 0)))))
end
def r09_place.f (k : Nat) (a0_0 : ByteArray) (l0_1 : List (S71)) (l0_2 : List (S74)) (a1 : Int) : Option (Int) := if 0 ≤ a1 then (if a1 < (l0_1.length : Int) then ((r09_Name.f k ((rd_T71 l0_1 a1).f0)).bind fun t104 => (if t104 = true then (r09_place.l0 k a1 0 a0_0 l0_1 l0_2 ((rd_T71 l0_1 a1).f0) ((rd_T71 l0_1 a1).f1) ((rd_T71 l0_1 a1).f2)) else (some 5))) else (none)) else (none)
set_option maxHeartbeats 8000000 in
set_option maxRecDepth 100000 in
theorem r09_place.calls (k : Nat) (a0_0 : ByteArray) (A0_1 : Option Addr) (c0_1 : Nat) (l0_1 : List (S71)) (A0_2 : Option Addr) (c0_2 : Nat) (l0_2 : List (S74)) (a1 : Int) (r : Int) (w : World) (hr0_1 : Kd.C k71 w A0_1 l0_1.length l0_1) (hc0_1 : l0_1.length ≤ c0_1) (hr0_2 : Kd.C k74 w A0_2 l0_2.length l0_2) (hc0_2 : l0_2.length ≤ c0_2) (h : r09_place.f k a0_0 l0_1 l0_2 a1 = some r) :
  Calls Try.prog 60 #[.agg #[.string a0_0, .slice A0_1 l0_1.length c0_1, .slice A0_2 l0_2.length c0_2], .int .i64 a1] w fun e w' => e = .returned (.int .i64 r) ∧ Below w.heap.size w w' := by
 have hu39 := Try.underlying39
 have hu71 := Try.underlying71
 have HR0_1 := Aside0.mk hr0_1
 have HC0_1 := Aside0.mk hc0_1
 clear hr0_1 hc0_1
 have HR0_2 := Aside0.mk hr0_2
 have HC0_2 := Aside0.mk hc0_2
 clear hr0_2 hc0_2
 have HB := Aside0.mk (Below.refl w.heap.size w)
 have H : (if 0 ≤ a1 then (if a1 < (l0_1.length : Int) then ((r09_Name.f k ((rd_T71 l0_1 a1).f0)).bind fun t104 => (if t104 = true then (r09_place.l0 k a1 0 a0_0 l0_1 l0_2 ((rd_T71 l0_1 a1).f0) ((rd_T71 l0_1 a1).f1) ((rd_T71 l0_1 a1).f2)) else (some 5))) else (none)) else (none)) = some r := h
 clear h
 by_cases c3 : 0 ≤ a1
 ·rw [if_pos c3] at H
  have c3b0 := decide_eq_true c3
  clear c3
  replace H := tF H
  obtain ⟨c4, H⟩ := H
  have c4b0 := decide_eq_true c4
  clear c4
  replace H := Option.bind_eq_some_iff.mp H
  obtain ⟨t104, A50, H⟩ := H
  (try dsimp only at H)
  have A5 := Aside0.mk A50
  clear A50
  by_cases c6 : t104 = true
  ·subst c6
   rw [if_pos rfl] at H
   have H' := Aside0.mk H
   clear H
   go_enter Try.func60, Try.ntmps60
   go_wp2_with (first | ((with_reducible refine gate_dst (N := 2) rfl ?_); refine tBx 2 39 #[.string a0_0, .slice A0_1 l0_1.length c0_1, .slice A0_2 l0_2.length c0_2] ?_; intro gb101 hg w7 hbox hb; have BK101 := Aside0.mk (hbox); have GW101 := tW HB hg; have GE101 := tW HB hg; replace HB := tA HB hb; clear hb hbox hg; obtain ⟨hcz8_0, hcz8_1, hcz8_2, hfz8_0, hfz8_1, hfz8_2⟩ := zc3 BK101; have p102 : 0 ≤ (a1 : Int) := tD; have q102 : a1 < (l0_1.length : Int) := tD; obtain ⟨ad102, e102, hx102_0, hx102_1, hx102_2⟩ := at_T71 HR0_1.out a1 p102 q102; cases e102; replace hx102_0 := tH HB hx102_0; replace hx102_1 := tH HB hx102_1; replace hx102_2 := tH HB hx102_2; replace p102 := eq_true p102; replace q102 := eq_true q102) | ((with_reducible refine gate_dst (N := 5) rfl ?_); refine tBx 5 71 #[.string (⟨#[]⟩ : ByteArray), .int .i64 0, .int .i64 0] ?_; intro gb103 hg w9 hbox hb; have BK103 := Aside0.mk (hbox); have GW103 := tW HB hg; have GE103 := tW HB hg; replace HB := tA HB hb; have NB101_103 := tNl BK101 hg; have NB103_101 := tNg BK101 hg; replace BK101 := tL BK101 hb; clear hb hbox hg; have hnb10 := NB103_101.out; have hnc10 := NB101_103.out; obtain ⟨hcz11_0, hcz11_1, hcz11_2, hfz11_0, hfz11_1, hfz11_2⟩ := zc3 BK103) | (go_at_call 59; (with_reducible refine (r09_Name.calls k ((rd_T71 l0_1 a1).f0) true _ A5.out).mono ?_); rintro e w' ⟨rfl, ⟨nd, rfl⟩⟩; (try first | exact ⟨rfl, _, World.drewN_drewN _ _ _⟩ | exact ⟨rfl, _, Eq.trans (World.drewN_drewN _ _ _) (congrArg (World.drewN _) (Nat.add_assoc _ _ _))⟩)) | go_quiet ((go_at_call 59; (with_reducible refine (r09_Name.calls k ((rd_T71 l0_1 a1).f0) true _ A5.out).mono ?_); rintro e w' ⟨rfl, ⟨nd, rfl⟩⟩; (try first | exact ⟨rfl, _, World.drewN_drewN _ _ _⟩ | exact ⟨rfl, _, Eq.trans (World.drewN_drewN _ _ _) (congrArg (World.drewN _) (Nat.add_assoc _ _ _))⟩))))
   go_loopg [6] k (fun kq v6 w' => ∃ (x6_1 : Int), v6 = .int .i64 x6_1 ∧ Aside0 (r09_place.l0 kq a1 x6_1 a0_0 l0_1 l0_2 ((rd_T71 l0_1 a1).f0) ((rd_T71 l0_1 a1).f1) ((rd_T71 l0_1 a1).f2) = some r) ∧ Aside0 (kq ≤ k) ∧ Aside0 (w'.heap[gb101]? = some (.cells #[.string a0_0, (.slice (some ad102) l0_1.length c0_1), (.slice A0_2 l0_2.length c0_2)] 39 (0, 0))) ∧ Aside0 (w'.heap[gb103]? = some (.cells #[.string ((rd_T71 l0_1 a1).f0), .int .i64 ((rd_T71 l0_1 a1).f1), .int .i64 ((rd_T71 l0_1 a1).f2)] 71 (0, 0))) ∧ Aside0 (Below w.heap.size w w'))
   case atStart => exact ⟨(0), tU, H', ⟨Nat.le_refl _⟩, ⟨by (with_reducible repeat (first | refine blk_drewN ?_ _ | refine blk_drew ?_ | refine blk_alloc ?_ _)); refine blk_far ?_ NB101_103.out _; (with_reducible repeat (first | refine blk_drewN ?_ _ | refine blk_drew ?_ | refine blk_alloc ?_ _)); refine blk_far ?_ NB101_103.out _; (with_reducible repeat (first | refine blk_drewN ?_ _ | refine blk_drew ?_ | refine blk_alloc ?_ _)); refine blk_far ?_ NB101_103.out _; (with_reducible repeat (first | refine blk_drewN ?_ _ | refine blk_drew ?_ | refine blk_alloc ?_ _)); exact BK101.out⟩, ⟨by (with_reducible repeat (first | refine blk_drewN ?_ _ | refine blk_drew ?_ | refine blk_alloc ?_ _)); refine blk_put (cs := #[.string ((rd_T71 l0_1 a1).f0), .int .i64 ((rd_T71 l0_1 a1).f1), .int .i64 0]) ?_ 2 _ rfl; (with_reducible repeat (first | refine blk_drewN ?_ _ | refine blk_drew ?_ | refine blk_alloc ?_ _)); refine blk_put (cs := #[.string ((rd_T71 l0_1 a1).f0), .int .i64 0, .int .i64 0]) ?_ 1 _ rfl; (with_reducible repeat (first | refine blk_drewN ?_ _ | refine blk_drew ?_ | refine blk_alloc ?_ _)); refine blk_put (cs := #[.string (⟨#[]⟩ : ByteArray), .int .i64 0, .int .i64 0]) ?_ 0 _ rfl; (with_reducible repeat (first | refine blk_drewN ?_ _ | refine blk_drew ?_ | refine blk_alloc ?_ _)); exact BK103.out⟩, ⟨tB⟩⟩
   case round =>
    clear H'
    (try clear c1); (try clear p1); (try clear q1); (try clear hx1); (try clear p2); (try clear c3); (try clear c3b0); (try clear c4); (try clear c4b0); (try clear c6); (try clear c10); (try clear p10); (try clear q10); (try clear hx10); (try clear hcz11_0 hcz11_1 hcz11_2 hfz11_0 hfz11_1 hfz11_2); (try clear hcz8_0 hcz8_1 hcz8_2 hfz8_0 hfz8_1 hfz8_2); (try clear hx102_0); (try clear hx102_1); (try clear hx102_2); (try clear p102); (try clear q102)
    obtain ⟨x6_1, rfl, HA, HK1, BK101, BK103, HB⟩ := hrel
    cases gk with
    | zero => exact absurd HA.out (by simp [r09_place.l0])
    | succ k1 =>
     have H := HA.out
     clear HA
     simp only [r09_place.l0] at H
     by_cases c12 : x6_1 < a1
     ·rw [if_pos c12] at H
      have c12b0 := decide_eq_true c12
      clear c12
      replace H := tF H
      obtain ⟨c13, H⟩ := H
      have c13b0 := decide_eq_true c13
      clear c13
      replace H := tF H
      obtain ⟨c14, H⟩ := H
      have c14b0 := decide_eq_true c14
      clear c14
      by_cases c15 : ((rd_T71 l0_1 x6_1).f0).toList = ((rd_T71 l0_1 a1).f0).toList
      ·rw [if_pos c15] at H
       have c15b0 := beq_iff_eq.mpr c15
       have c15b1 := bne_eq_false_iff_eq.mpr c15
       clear c15
       obtain rfl := Option.some.inj H
       have hnb16 := NB101_103.out
       have hnc16 := NB103_101.out
       obtain ⟨hcz17_0, hcz17_1, hcz17_2, hfz17_0, hfz17_1, hfz17_2⟩ := zc3 BK101
       have p105 : 0 ≤ (x6_1 : Int) := tD
       have q105 : x6_1 < (l0_1.length : Int) := tD
       obtain ⟨ad105, e105, hx105_0, hx105_1, hx105_2⟩ := at_T71 HR0_1.out x6_1 p105 q105
       obtain rfl : ad102 = ad105 := (by injection e105)
       replace hx105_0 := tH HB hx105_0
       replace hx105_1 := tH HB hx105_1
       replace hx105_2 := tH HB hx105_2
       replace p105 := eq_true p105
       replace q105 := eq_true q105
       obtain ⟨hcz18_0, hcz18_1, hcz18_2, hfz18_0, hfz18_1, hfz18_2⟩ := zc3 BK103
       go_wp2
       repeat (go_quiet (fail); try go_wp2)
       go_ret
       exact ⟨tE, tB⟩
      rw [if_neg c15] at H
      have c15b0 := beq_eq_false_iff_ne.mpr c15
      have c15b1 := bne_iff_ne.mpr c15
      have H' := Aside0.mk H
      clear H
      have hnb19 := NB101_103.out
      have hnc19 := NB103_101.out
      obtain ⟨hcz20_0, hcz20_1, hcz20_2, hfz20_0, hfz20_1, hfz20_2⟩ := zc3 BK101
      have p105 : 0 ≤ (x6_1 : Int) := tD
      have q105 : x6_1 < (l0_1.length : Int) := tD
      obtain ⟨ad105, e105, hx105_0, hx105_1, hx105_2⟩ := at_T71 HR0_1.out x6_1 p105 q105
      obtain rfl : ad102 = ad105 := (by injection e105)
      replace hx105_0 := tH HB hx105_0
      replace hx105_1 := tH HB hx105_1
      replace hx105_2 := tH HB hx105_2
      replace p105 := eq_true p105
      replace q105 := eq_true q105
      obtain ⟨hcz21_0, hcz21_1, hcz21_2, hfz21_0, hfz21_1, hfz21_2⟩ := zc3 BK103
      go_wp2
      repeat (go_quiet (fail); try go_wp2)
      go_roundg k1
      case measure => have := HK1.out; omega
      case rel => exact ⟨(wrap64 (x6_1 + 1)), tU, H', ⟨by have := HK1.out; omega⟩, ⟨tK BK101⟩, ⟨tK BK103⟩, ⟨tB⟩⟩
     rw [if_neg c12] at H
     have c12b0 := decide_eq_false c12
     clear c12
     have HC22 := Aside0.mk H
     clear H
     go_upto_region 9 with (fail)
     repeat (go_quiet (fail); go_upto_region 9 with (fail))
     go_cut [37] (fun v37 wc => ∃ (kq : Nat) (x37_21 : Bool), v37 = .bool x37_21 ∧ Aside0 (r09_place.j1 kq x37_21 ((rd_T71 l0_1 a1).f0) ((rd_T71 l0_1 a1).f1) ((rd_T71 l0_1 a1).f2) = some r) ∧ Aside0 (kq ≤ k1) ∧ Aside0 (wc.heap[gb101]? = some (.cells #[.string a0_0, (.slice (some ad102) l0_1.length c0_1), (.slice A0_2 l0_2.length c0_2)] 39 (0, 0))) ∧ Aside0 (wc.heap[gb103]? = some (.cells #[.string ((rd_T71 l0_1 a1).f0), .int .i64 ((rd_T71 l0_1 a1).f1), .int .i64 ((rd_T71 l0_1 a1).f2)] 71 (0, 0))) ∧ Aside0 (Below w.heap.size w wc))
     case first =>
      have H := HC22.out
      clear HC22
      by_cases c23 : ((rd_T71 l0_1 a1).f2) < 0
      ·rw [if_pos c23] at H
       have c23b0 := decide_eq_true c23
       clear c23
       (first | rw [c23b0] | (simp only [i64_w, i32_w]; rw [c23b0]) | skip)
       have H' := Aside0.mk H
       clear H
       have hnb24 := NB103_101.out
       have hnc24 := NB101_103.out
       obtain ⟨hcz25_0, hcz25_1, hcz25_2, hfz25_0, hfz25_1, hfz25_2⟩ := zc3 BK103
       go_wp2
       repeat (go_quiet (fail); try go_wp2)
       go_meet
       case rel => exact ⟨_, (true), tU, H', ⟨by have := HK1.out; first | omega | exact Nat.le_refl _⟩, ⟨tK BK101⟩, ⟨tK BK103⟩, ⟨tB⟩⟩
      rw [if_neg c23] at H
      have c23b0 := decide_eq_false c23
      clear c23
      (first | rw [c23b0] | (simp only [i64_w, i32_w]; rw [c23b0]) | skip)
      have H' := Aside0.mk H
      clear H
      have hnb26 := NB103_101.out
      have hnc26 := NB101_103.out
      obtain ⟨hcz27_0, hcz27_1, hcz27_2, hfz27_0, hfz27_1, hfz27_2⟩ := zc3 BK103
      go_wp2
      repeat (go_quiet (fail); try go_wp2)
      go_meet
      case rel => exact ⟨_, (decide (((rd_T71 l0_1 a1).f2) > 1048576)), tU, H', ⟨by have := HK1.out; first | omega | exact Nat.le_refl _⟩, ⟨tK BK101⟩, ⟨tK BK103⟩, ⟨tB⟩⟩
     case rest =>
      clear HC22
      (try clear c1); (try clear p1); (try clear q1); (try clear hx1); (try clear c2); (try clear p2); (try clear c3); (try clear c3b0); (try clear c4); (try clear c4b0); (try clear c6); (try clear p6); (try clear c10); (try clear p10); (try clear q10); (try clear hx10); (try clear c12); (try clear c12b0); (try clear c13); (try clear c13b0); (try clear c14); (try clear c14b0); (try clear c15); (try clear c15b0); (try clear c15b1); (try clear c16); (try clear c19); (try clear c23); (try clear c23b0); (try clear c24); (try clear c26); (try clear hcz11_0 hcz11_1 hcz11_2 hfz11_0 hfz11_1 hfz11_2); (try clear hcz17_0 hcz17_1 hcz17_2 hfz17_0 hfz17_1 hfz17_2); (try clear hcz18_0 hcz18_1 hcz18_2 hfz18_0 hfz18_1 hfz18_2); (try clear hcz20_0 hcz20_1 hcz20_2 hfz20_0 hfz20_1 hfz20_2); (try clear hcz21_0 hcz21_1 hcz21_2 hfz21_0 hfz21_1 hfz21_2); (try clear hcz25_0 hcz25_1 hcz25_2 hfz25_0 hfz25_1 hfz25_2); (try clear hcz27_0 hcz27_1 hcz27_2 hfz27_0 hfz27_1 hfz27_2); (try clear hcz8_0 hcz8_1 hcz8_2 hfz8_0 hfz8_1 hfz8_2); (try clear hx102_0); (try clear hx102_1); (try clear hx102_2); (try clear hx105_0); (try clear hx105_1); (try clear hx105_2); (try clear p102); (try clear p105); (try clear q102); (try clear q105)
      obtain ⟨kq, x37_21, rfl, HA, HJ21, BK101, BK103, HB⟩ := hcut
      cases kq with
      | zero => exact absurd HA.out (by simp [r09_place.j1])
      | succ kj21 =>
       have H := HA.out
       clear HA
       simp only [r09_place.j1] at H
       by_cases c28 : x37_21 = true
       ·subst c28
        rw [if_pos rfl] at H
        obtain rfl := Option.some.inj H
        go_wp2
        repeat (go_quiet (fail); try go_wp2)
        go_ret
        exact ⟨tE, tB⟩
       replace c28 := Bool.eq_false_iff.mpr c28
       subst c28
       rw [if_neg (show ¬ (false = true) by decide)] at H
       by_cases c29 : ((rd_T71 l0_1 a1).f1) < 0
       ·rw [if_pos c29] at H
        have c29b0 := decide_eq_true c29
        clear c29
        obtain rfl := Option.some.inj H
        have hnb30 := NB103_101.out
        have hnc30 := NB101_103.out
        obtain ⟨hcz31_0, hcz31_1, hcz31_2, hfz31_0, hfz31_1, hfz31_2⟩ := zc3 BK103
        go_wp2
        repeat (go_quiet (fail); try go_wp2)
        go_ret
        exact ⟨tE, tB⟩
       rw [if_neg c29] at H
       have c29b0 := decide_eq_false c29
       clear c29
       by_cases c32 : ((rd_T71 l0_1 a1).f1) > 1048576
       ·rw [if_pos c32] at H
        have c32b0 := tdGi c32
        clear c32
        obtain rfl := Option.some.inj H
        have hnb33 := NB103_101.out
        have hnc33 := NB101_103.out
        obtain ⟨hcz34_0, hcz34_1, hcz34_2, hfz34_0, hfz34_1, hfz34_2⟩ := zc3 BK103
        go_wp2
        repeat (go_quiet (fail); try go_wp2)
        go_ret
        exact ⟨tE, tB⟩
       rw [if_neg c32] at H
       have c32b0 := tdHi c32
       clear c32
       by_cases c35 : ((rd_T71 l0_1 a1).f2) = 0
       ·rw [if_pos c35] at H
        have c35b0 := beq_iff_eq.mpr c35
        have c35b1 := bne_eq_false_iff_eq.mpr c35
        clear c35
        obtain rfl := Option.some.inj H
        have hnb36 := NB103_101.out
        have hnc36 := NB101_103.out
        obtain ⟨hcz37_0, hcz37_1, hcz37_2, hfz37_0, hfz37_1, hfz37_2⟩ := zc3 BK103
        go_wp2
        repeat (go_quiet (fail); try go_wp2)
        go_ret
        exact ⟨tE, tB⟩
       rw [if_neg c35] at H
       have c35b0 := beq_eq_false_iff_ne.mpr c35
       have c35b1 := bne_iff_ne.mpr c35
       by_cases c38 : ((rd_T71 l0_1 a1).f1) > ((rd_T71 l0_1 a1).f2)
       ·rw [if_pos c38] at H
        have c38b0 := tdGi c38
        clear c38
        obtain rfl := Option.some.inj H
        have hnb39 := NB103_101.out
        have hnc39 := NB101_103.out
        obtain ⟨hcz40_0, hcz40_1, hcz40_2, hfz40_0, hfz40_1, hfz40_2⟩ := zc3 BK103
        go_wp2
        repeat (go_quiet (fail); try go_wp2)
        go_ret
        exact ⟨tE, tB⟩
       rw [if_neg c38] at H
       have c38b0 := tdHi c38
       clear c38
       obtain rfl := Option.some.inj H
       have hnb41 := NB103_101.out
       have hnc41 := NB101_103.out
       obtain ⟨hcz42_0, hcz42_1, hcz42_2, hfz42_0, hfz42_1, hfz42_2⟩ := zc3 BK103
       go_wp2
       repeat (go_quiet (fail); try go_wp2)
       go_ret
       exact ⟨tE, tB⟩
  replace c6 := Bool.eq_false_iff.mpr c6
  subst c6
  rw [if_neg (show ¬ (false = true) by decide)] at H
  obtain rfl := Option.some.inj H
  go_enter Try.func60, Try.ntmps60
  go_wp2_with (first | ((with_reducible refine gate_dst (N := 2) rfl ?_); refine tBx 2 39 #[.string a0_0, .slice A0_1 l0_1.length c0_1, .slice A0_2 l0_2.length c0_2] ?_; intro gb101 hg w43 hbox hb; have BK101 := Aside0.mk (hbox); have GW101 := tW HB hg; have GE101 := tW HB hg; replace HB := tA HB hb; clear hb hbox hg; obtain ⟨hcz44_0, hcz44_1, hcz44_2, hfz44_0, hfz44_1, hfz44_2⟩ := zc3 BK101; have p102 : 0 ≤ (a1 : Int) := tD; have q102 : a1 < (l0_1.length : Int) := tD; obtain ⟨ad102, e102, hx102_0, hx102_1, hx102_2⟩ := at_T71 HR0_1.out a1 p102 q102; cases e102; replace hx102_0 := tH HB hx102_0; replace hx102_1 := tH HB hx102_1; replace hx102_2 := tH HB hx102_2; replace p102 := eq_true p102; replace q102 := eq_true q102) | ((with_reducible refine gate_dst (N := 5) rfl ?_); refine tBx 5 71 #[.string (⟨#[]⟩ : ByteArray), .int .i64 0, .int .i64 0] ?_; intro gb103 hg w45 hbox hb; have BK103 := Aside0.mk (hbox); have GW103 := tW HB hg; have GE103 := tW HB hg; replace HB := tA HB hb; have NB101_103 := tNl BK101 hg; have NB103_101 := tNg BK101 hg; replace BK101 := tL BK101 hb; clear hb hbox hg; have hnb46 := NB103_101.out; have hnc46 := NB101_103.out; obtain ⟨hcz47_0, hcz47_1, hcz47_2, hfz47_0, hfz47_1, hfz47_2⟩ := zc3 BK103) | (go_at_call 59; (with_reducible refine (r09_Name.calls k ((rd_T71 l0_1 a1).f0) false _ A5.out).mono ?_); rintro e w' ⟨rfl, ⟨nd, rfl⟩⟩; (try first | exact ⟨rfl, _, World.drewN_drewN _ _ _⟩ | exact ⟨rfl, _, Eq.trans (World.drewN_drewN _ _ _) (congrArg (World.drewN _) (Nat.add_assoc _ _ _))⟩)) | go_quiet ((go_at_call 59; (with_reducible refine (r09_Name.calls k ((rd_T71 l0_1 a1).f0) false _ A5.out).mono ?_); rintro e w' ⟨rfl, ⟨nd, rfl⟩⟩; (try first | exact ⟨rfl, _, World.drewN_drewN _ _ _⟩ | exact ⟨rfl, _, Eq.trans (World.drewN_drewN _ _ _) (congrArg (World.drewN _) (Nat.add_assoc _ _ _))⟩))))
  go_ret
  exact ⟨tE, tB⟩
 rw [if_neg c3] at H
 exact absurd H (by simp)
mutual
def r09_arcs.l0 : Nat → List (S93) → Int → ByteArray → List (S71) → List (S74) → Option (Int)
 | 0, _, _, _, _, _ => none
 | k + 1, x1, x5, x102000, x102001, x102002 => if x5 < (x1.length : Int) then (if 0 ≤ x5 then (if ((rd_T93 x1 x5).f0) < 0 then (r09_arcs.j1 k x1 x5 true x102000 x102001 x102002) else (r09_arcs.j1 k x1 x5 (decide (((rd_T93 x1 x5).f0) ≥ (x102001.length : Int))) x102000 x102001 x102002)) else (none)) else (some 0)
def r09_arcs.j1 : Nat → List (S93) → Int → Bool → ByteArray → List (S71) → List (S74) → Option (Int)
 | 0, _, _, _, _, _, _ => none
 | k + 1, x1, x5, x28, x102000, x102001, x102002 => if x28 = true then (some 7) else (if x5 > 0 then (if 0 ≤ x5 then (if x5 < (x1.length : Int) then (if 0 ≤ (wrap64 (x5 - 1)) then (if (wrap64 (x5 - 1)) < (x1.length : Int) then (r09_arcs.j2 k x1 x5 (decide (((rd_T93 x1 x5).f0) ≤ ((rd_T93 x1 (wrap64 (x5 - 1))).f0))) x102000 x102001 x102002) else (none)) else (none)) else (none)) else (none)) else (r09_arcs.j2 k x1 x5 false x102000 x102001 x102002))
def r09_arcs.j2 : Nat → List (S93) → Int → Bool → ByteArray → List (S71) → List (S74) → Option (Int)
 | 0, _, _, _, _, _, _ => none
 | k + 1, x1, x5, x44, x102000, x102001, x102002 => if x44 = true then (some 8) else (if 0 ≤ x5 then (if x5 < (x1.length : Int) then (if ((rd_T93 x1 x5).f1) < 1 then (some 9) else (if ((rd_T93 x1 x5).f1) > 99 then (some 9) else (r09_arcs.l0 k x1 (wrap64 (x5 + 1)) x102000 x102001 x102002))) else (none)) else (none))
end
def r09_arcs.f (k : Nat) (a0_0 : ByteArray) (l0_1 : List (S71)) (l0_2 : List (S74)) (l1 : List (S93)) : Option (Int) := r09_arcs.l0 k l1 0 a0_0 l0_1 l0_2
set_option maxHeartbeats 8000000 in
set_option maxRecDepth 100000 in
theorem r09_arcs.calls (k : Nat) (a0_0 : ByteArray) (A0_1 : Option Addr) (c0_1 : Nat) (l0_1 : List (S71)) (A0_2 : Option Addr) (c0_2 : Nat) (l0_2 : List (S74)) (A1 : Option Addr) (c1 : Nat) (l1 : List (S93)) (r : Int) (w : World) (hr0_1 : Kd.C k71 w A0_1 l0_1.length l0_1) (hc0_1 : l0_1.length ≤ c0_1) (hr0_2 : Kd.C k74 w A0_2 l0_2.length l0_2) (hc0_2 : l0_2.length ≤ c0_2) (hr1 : Kd.C k93 w A1 l1.length l1) (hc1 : l1.length ≤ c1) (h : r09_arcs.f k a0_0 l0_1 l0_2 l1 = some r) :
  Calls Try.prog 68 #[.agg #[.string a0_0, .slice A0_1 l0_1.length c0_1, .slice A0_2 l0_2.length c0_2], .slice A1 l1.length c1] w fun e w' => e = .returned (.int .i64 r) ∧ Below w.heap.size w w' := by
 have hu39 := Try.underlying39
 have HR0_1 := Aside0.mk hr0_1
 have HC0_1 := Aside0.mk hc0_1
 clear hr0_1 hc0_1
 have HR0_2 := Aside0.mk hr0_2
 have HC0_2 := Aside0.mk hc0_2
 clear hr0_2 hc0_2
 have HR1 := Aside0.mk hr1
 have HC1 := Aside0.mk hc1
 clear hr1 hc1
 have HB := Aside0.mk (Below.refl w.heap.size w)
 have H : (r09_arcs.l0 k l1 0 a0_0 l0_1 l0_2) = some r := h
 clear h
 have H' := Aside0.mk H
 clear H
 go_enter Try.func68, Try.ntmps68
 go_wp2_with (first | ((with_reducible refine gate_dst (N := 2) rfl ?_); (try (refine gate_guard (by rfl) ?_; dsimp only)); refine tBx 2 39 #[.string a0_0, .slice A0_1 l0_1.length c0_1, .slice A0_2 l0_2.length c0_2] ?_; intro gb101 hg w3 hbox hb; have BK101 := Aside0.mk (hbox); have GW101 := tW HB hg; have GE101 := tW HB hg; replace HB := tA HB hb; clear hb hbox hg) | go_quiet (fail))
 go_loopg [5] k (fun kq v5 w' => ∃ (x5_1 : Int), v5 = .int .i64 x5_1 ∧ Aside0 (r09_arcs.l0 kq l1 x5_1 a0_0 l0_1 l0_2 = some r) ∧ Aside0 (kq ≤ k) ∧ Aside0 (w'.heap[gb101]? = some (.cells #[.string a0_0, (.slice A0_1 l0_1.length c0_1), (.slice A0_2 l0_2.length c0_2)] 39 (0, 0))) ∧ Aside0 (Below w.heap.size w w'))
 case atStart => exact ⟨(0), tU, H', ⟨Nat.le_refl _⟩, ⟨tK BK101⟩, ⟨tB⟩⟩
 case round =>
  clear H'
  (try clear c1); (try clear p2)
  obtain ⟨x5_1, rfl, HA, HK1, BK101, HB⟩ := hrel
  cases gk with
  | zero => exact absurd HA.out (by simp [r09_arcs.l0])
  | succ k1 =>
   have H := HA.out
   clear HA
   simp only [r09_arcs.l0] at H
   by_cases c4 : x5_1 < (l1.length : Int)
   ·rw [if_pos c4] at H
    have c4b0 := decide_eq_true c4
    clear c4
    have HC5 := Aside0.mk H
    clear H
    go_upto_region 4 with (fail)
    repeat (go_quiet (fail); go_upto_region 4 with (fail))
    go_cut [28] (fun v28 wc => ∃ (kq : Nat) (x28_4 : Bool), v28 = .bool x28_4 ∧ Aside0 (r09_arcs.j1 kq l1 x5_1 x28_4 a0_0 l0_1 l0_2 = some r) ∧ Aside0 (kq ≤ k1) ∧ Aside0 (wc.heap[gb101]? = some (.cells #[.string a0_0, (.slice A0_1 l0_1.length c0_1), (.slice A0_2 l0_2.length c0_2)] 39 (0, 0))) ∧ Aside0 (Below w.heap.size w wc))
    case first =>
     have H := HC5.out
     clear HC5
     replace H := tF H
     obtain ⟨c6, H⟩ := H
     have c6b0 := decide_eq_true c6
     clear c6
     (first | rw [c6b0] | (simp only [i64_w, i32_w]; rw [c6b0]) | skip)
     by_cases c7 : ((rd_T93 l1 x5_1).f0) < 0
     ·rw [if_pos c7] at H
      have c7b0 := decide_eq_true c7
      clear c7
      have H' := Aside0.mk H
      clear H
      have p102 : 0 ≤ (x5_1 : Int) := tD
      have q102 : x5_1 < (l1.length : Int) := tD
      obtain ⟨ad102, e102, hx102_0, hx102_1⟩ := at_T93 HR1.out x5_1 p102 q102
      cases e102
      replace hx102_0 := tH HB hx102_0
      replace hx102_1 := tH HB hx102_1
      replace p102 := eq_true p102
      replace q102 := eq_true q102
      go_wp2
      repeat (go_quiet (fail); try go_wp2)
      go_meet
      case rel => exact ⟨_, (true), tU, H', ⟨by have := HK1.out; first | omega | exact Nat.le_refl _⟩, ⟨tK BK101⟩, ⟨tB⟩⟩
     rw [if_neg c7] at H
     have c7b0 := decide_eq_false c7
     clear c7
     have H' := Aside0.mk H
     clear H
     have p102 : 0 ≤ (x5_1 : Int) := tD
     have q102 : x5_1 < (l1.length : Int) := tD
     obtain ⟨ad102, e102, hx102_0, hx102_1⟩ := at_T93 HR1.out x5_1 p102 q102
     cases e102
     replace hx102_0 := tH HB hx102_0
     replace hx102_1 := tH HB hx102_1
     replace p102 := eq_true p102
     replace q102 := eq_true q102
     have p103 : 0 ≤ (x5_1 : Int) := tD
     have q103 : x5_1 < (l1.length : Int) := tD
     obtain ⟨ad103, e103, hx103_0, hx103_1⟩ := at_T93 HR1.out x5_1 p103 q103
     obtain rfl : ad102 = ad103 := (by injection e103)
     replace hx103_0 := tH HB hx103_0
     replace hx103_1 := tH HB hx103_1
     replace p103 := eq_true p103
     replace q103 := eq_true q103
     obtain ⟨hcz8_0, hcz8_1, hcz8_2, hfz8_0, hfz8_1, hfz8_2⟩ := zc3 BK101
     go_wp2
     repeat (go_quiet (fail); try go_wp2)
     go_meet
     case rel => exact ⟨_, (decide (((rd_T93 l1 x5_1).f0) ≥ (l0_1.length : Int))), tU, H', ⟨by have := HK1.out; first | omega | exact Nat.le_refl _⟩, ⟨tK BK101⟩, ⟨tB⟩⟩
    case rest =>
     clear HC5
     (try clear c1); (try clear p1); (try clear q1); (try clear hx1); (try clear p2); (try clear c4); (try clear c4b0); (try clear c6); (try clear c6b0); (try clear c7); (try clear c7b0); (try clear hcz8_0 hcz8_1 hcz8_2 hfz8_0 hfz8_1 hfz8_2); (try clear hx102_0); (try clear hx102_1); (try clear hx103_0); (try clear hx103_1); (try clear p102); (try clear p103); (try clear q102); (try clear q103)
     obtain ⟨kq, x28_4, rfl, HA, HJ4, BK101, HB⟩ := hcut
     cases kq with
     | zero => exact absurd HA.out (by simp [r09_arcs.j1])
     | succ kj4 =>
      have H := HA.out
      clear HA
      simp only [r09_arcs.j1] at H
      by_cases c9 : x28_4 = true
      ·subst c9
       rw [if_pos rfl] at H
       obtain rfl := Option.some.inj H
       go_wp2
       repeat (go_quiet (fail); try go_wp2)
       go_ret
       exact ⟨tE, tB⟩
      replace c9 := Bool.eq_false_iff.mpr c9
      subst c9
      rw [if_neg (show ¬ (false = true) by decide)] at H
      have HC10 := Aside0.mk H
      clear H
      go_upto_region 6 with (fail)
      repeat (go_quiet (fail); go_upto_region 6 with (fail))
      go_cut [44] (fun v44 wc => ∃ (kq : Nat) (x44_9 : Bool), v44 = .bool x44_9 ∧ Aside0 (r09_arcs.j2 kq l1 x5_1 x44_9 a0_0 l0_1 l0_2 = some r) ∧ Aside0 (kq ≤ kj4) ∧ Aside0 (wc.heap[gb101]? = some (.cells #[.string a0_0, (.slice A0_1 l0_1.length c0_1), (.slice A0_2 l0_2.length c0_2)] 39 (0, 0))) ∧ Aside0 (Below w.heap.size w wc))
      case first =>
       have H := HC10.out
       clear HC10
       by_cases c11 : x5_1 > 0
       ·rw [if_pos c11] at H
        have c11b0 := tdGi c11
        clear c11
        (first | rw [c11b0] | (simp only [i64_w, i32_w]; rw [c11b0]) | skip)
        replace H := tF H
        obtain ⟨c12, H⟩ := H
        have c12b0 := decide_eq_true c12
        clear c12
        replace H := tF H
        obtain ⟨c13, H⟩ := H
        have c13b0 := decide_eq_true c13
        clear c13
        obtain ⟨ji14, hji14⟩ : ∃ j_ : Int, (wrap64 (x5_1 - 1)) = j_ := ⟨_, rfl⟩
        replace H : (if 0 ≤ (ji14) then (if (ji14) < (l1.length : Int) then (r09_arcs.j2 kj4 l1 x5_1 (decide (((rd_T93 l1 x5_1).f0) ≤ ((rd_T93 l1 (ji14)).f0))) a0_0 l0_1 l0_2) else (none)) else (none)) = some r := by first | (rw [hji14] at H; exact H) | (simp only [hji14] at H ⊢; exact H)
        have hji14w : (IntKind.i64.wrap (x5_1 - 1)) = ji14 := (i64_w _).trans hji14
        replace H := tF H
        obtain ⟨c15, H⟩ := H
        have c15b0 := decide_eq_true c15
        clear c15
        replace H := tF H
        obtain ⟨c16, H⟩ := H
        have c16b0 := decide_eq_true c16
        clear c16
        have H' := Aside0.mk H
        clear H
        have p104 : 0 ≤ (x5_1 : Int) := tD
        have q104 : x5_1 < (l1.length : Int) := tD
        obtain ⟨ad104, e104, hx104_0, hx104_1⟩ := at_T93 HR1.out x5_1 p104 q104
        cases e104
        replace hx104_0 := tH HB hx104_0
        replace hx104_1 := tH HB hx104_1
        replace p104 := eq_true p104
        replace q104 := eq_true q104
        have p105 : 0 ≤ ((ji14) : Int) := tD
        have q105 : (ji14) < (l1.length : Int) := tD
        obtain ⟨ad105, e105, hx105_0, hx105_1⟩ := at_T93 HR1.out (ji14) p105 q105
        obtain rfl : ad104 = ad105 := (by injection e105)
        replace hx105_0 := tH HB hx105_0
        replace hx105_1 := tH HB hx105_1
        replace p105 := eq_true p105
        replace q105 := eq_true q105
        go_wp2
        repeat (go_quiet (fail); try go_wp2)
        go_meet
        case rel => exact ⟨_, (decide (((rd_T93 l1 x5_1).f0) ≤ ((rd_T93 l1 (ji14)).f0))), (by first | rfl | (simp; done) | (simp only [← hji14] <;> (first | rfl | simp)) | (simp [*]; done)), H', ⟨by have := HK1.out; have := HJ4.out; first | omega | exact Nat.le_refl _⟩, ⟨tK BK101⟩, ⟨tB⟩⟩
       rw [if_neg c11] at H
       have c11b0 := tdHi c11
       clear c11
       (first | rw [c11b0] | (simp only [i64_w, i32_w]; rw [c11b0]) | skip)
       have H' := Aside0.mk H
       clear H
       go_wp2
       repeat (go_quiet (fail); try go_wp2)
       go_meet
       case rel => exact ⟨_, (false), tU, H', ⟨by have := HK1.out; have := HJ4.out; first | omega | exact Nat.le_refl _⟩, ⟨tK BK101⟩, ⟨tB⟩⟩
      case rest =>
       clear HC10
       (try clear c1); (try clear p1); (try clear q1); (try clear hx1); (try clear p2); (try clear c4); (try clear c4b0); (try clear c6); (try clear c6b0); (try clear p6); (try clear c7); (try clear c7b0); (try clear c9); (try clear p10); (try clear q10); (try clear hx10); (try clear c11); (try clear c11b0); (try clear c12); (try clear c12b0); (try clear c13); (try clear c13b0); (try clear c15); (try clear c15b0); (try clear c16); (try clear c16b0); (try clear hcz8_0 hcz8_1 hcz8_2 hfz8_0 hfz8_1 hfz8_2); (try clear hx102_0); (try clear hx102_1); (try clear hx103_0); (try clear hx103_1); (try clear hx104_0); (try clear hx104_1); (try clear hx105_0); (try clear hx105_1); (try clear p102); (try clear p103); (try clear p104); (try clear p105); (try clear q102); (try clear q103); (try clear q104); (try clear q105)
       obtain ⟨kq, x44_9, rfl, HA, HJ9, BK101, HB⟩ := hcut
       cases kq with
       | zero => exact absurd HA.out (by simp [r09_arcs.j2])
       | succ kj9 =>
        have H := HA.out
        clear HA
        simp only [r09_arcs.j2] at H
        by_cases c17 : x44_9 = true
        ·subst c17
         rw [if_pos rfl] at H
         obtain rfl := Option.some.inj H
         go_wp2
         repeat (go_quiet (fail); try go_wp2)
         go_ret
         exact ⟨tE, tB⟩
        replace c17 := Bool.eq_false_iff.mpr c17
        subst c17
        rw [if_neg (show ¬ (false = true) by decide)] at H
        replace H := tF H
        obtain ⟨c18, H⟩ := H
        have c18b0 := decide_eq_true c18
        clear c18
        replace H := tF H
        obtain ⟨c19, H⟩ := H
        have c19b0 := decide_eq_true c19
        clear c19
        by_cases c20 : ((rd_T93 l1 x5_1).f1) < 1
        ·rw [if_pos c20] at H
         have c20b0 := decide_eq_true c20
         clear c20
         obtain rfl := Option.some.inj H
         have p106 : 0 ≤ (x5_1 : Int) := tD
         have q106 : x5_1 < (l1.length : Int) := tD
         obtain ⟨ad106, e106, hx106_0, hx106_1⟩ := at_T93 HR1.out x5_1 p106 q106
         cases e106
         replace hx106_0 := tH HB hx106_0
         replace hx106_1 := tH HB hx106_1
         replace p106 := eq_true p106
         replace q106 := eq_true q106
         go_wp2
         repeat (go_quiet (fail); try go_wp2)
         go_ret
         exact ⟨tE, tB⟩
        rw [if_neg c20] at H
        have c20b0 := decide_eq_false c20
        clear c20
        by_cases c21 : ((rd_T93 l1 x5_1).f1) > 99
        ·rw [if_pos c21] at H
         have c21b0 := tdGi c21
         clear c21
         obtain rfl := Option.some.inj H
         have p106 : 0 ≤ (x5_1 : Int) := tD
         have q106 : x5_1 < (l1.length : Int) := tD
         obtain ⟨ad106, e106, hx106_0, hx106_1⟩ := at_T93 HR1.out x5_1 p106 q106
         cases e106
         replace hx106_0 := tH HB hx106_0
         replace hx106_1 := tH HB hx106_1
         replace p106 := eq_true p106
         replace q106 := eq_true q106
         have p107 : 0 ≤ (x5_1 : Int) := tD
         have q107 : x5_1 < (l1.length : Int) := tD
         obtain ⟨ad107, e107, hx107_0, hx107_1⟩ := at_T93 HR1.out x5_1 p107 q107
         obtain rfl : ad106 = ad107 := (by injection e107)
         replace hx107_0 := tH HB hx107_0
         replace hx107_1 := tH HB hx107_1
         replace p107 := eq_true p107
         replace q107 := eq_true q107
         go_wp2
         repeat (go_quiet (fail); try go_wp2)
         go_ret
         exact ⟨tE, tB⟩
        rw [if_neg c21] at H
        have c21b0 := tdHi c21
        clear c21
        have H' := Aside0.mk H
        clear H
        have p106 : 0 ≤ (x5_1 : Int) := tD
        have q106 : x5_1 < (l1.length : Int) := tD
        obtain ⟨ad106, e106, hx106_0, hx106_1⟩ := at_T93 HR1.out x5_1 p106 q106
        cases e106
        replace hx106_0 := tH HB hx106_0
        replace hx106_1 := tH HB hx106_1
        replace p106 := eq_true p106
        replace q106 := eq_true q106
        have p107 : 0 ≤ (x5_1 : Int) := tD
        have q107 : x5_1 < (l1.length : Int) := tD
        obtain ⟨ad107, e107, hx107_0, hx107_1⟩ := at_T93 HR1.out x5_1 p107 q107
        obtain rfl : ad106 = ad107 := (by injection e107)
        replace hx107_0 := tH HB hx107_0
        replace hx107_1 := tH HB hx107_1
        replace p107 := eq_true p107
        replace q107 := eq_true q107
        go_wp2
        repeat (go_quiet (fail); try go_wp2)
        go_roundg kj9
        case measure => have := HK1.out; have := HJ4.out; have := HJ9.out; omega
        case rel => exact ⟨(wrap64 (x5_1 + 1)), tU, H', ⟨by have := HK1.out; have := HJ4.out; have := HJ9.out; omega⟩, ⟨tK BK101⟩, ⟨tB⟩⟩
   rw [if_neg c4] at H
   have c4b0 := decide_eq_false c4
   clear c4
   obtain rfl := Option.some.inj H
   go_wp2
   repeat (go_quiet (fail); try go_wp2)
   go_ret
   exact ⟨tE, tB⟩
mutual
def r09_trans.l0 : Nat → Int → Int → ByteArray → List (S71) → List (S74) → ByteArray → List (S93) → List (S93) → List (S93) → Int → Option (Int)
 | 0, _, _, _, _, _, _, _, _, _, _ => none
 | k + 1, x1, x6, x102000, x102001, x102002, x104000, x104001, x104002, x104003, x104004 => if x6 < (x102001.length : Int) then (if 0 ≤ x6 then (if ((rd_T71 x102001 x6).f0).toList = x104000.toList then (some 6) else (r09_trans.l0 k x1 (wrap64 (x6 + 1)) x102000 x102001 x102002 x104000 x104001 x104002 x104003 x104004)) else (none)) else (r09_trans.l1 k x1 0 x102000 x102001 x102002 x104000 x104001 x104002 x104003 x104004)
def r09_trans.l1 : Nat → Int → Int → ByteArray → List (S71) → List (S74) → ByteArray → List (S93) → List (S93) → List (S93) → Int → Option (Int)
 | 0, _, _, _, _, _, _, _, _, _, _ => none
 | k + 1, x1, x7, x102000, x102001, x102002, x104000, x104001, x104002, x104003, x104004 => if x7 < x1 then (if 0 ≤ x7 then (if x7 < (x102002.length : Int) then (if ((rd_T74 x102002 x7).f0).toList = x104000.toList then (some 6) else (r09_trans.l1 k x1 (wrap64 (x7 + 1)) x102000 x102001 x102002 x104000 x104001 x104002 x104003 x104004)) else (none)) else (none)) else (if x104004 < 0 then (r09_trans.j2 k true x102000 x102001 x102002 x104000 x104001 x104002 x104003 x104004) else (r09_trans.j2 k (decide (x104004 > 9)) x102000 x102001 x102002 x104000 x104001 x104002 x104003 x104004))
def r09_trans.j2 : Nat → Bool → ByteArray → List (S71) → List (S74) → ByteArray → List (S93) → List (S93) → List (S93) → Int → Option (Int)
 | 0, _, _, _, _, _, _, _, _, _ => none
 | k + 1, x56, x102000, x102001, x102002, x104000, x104001, x104002, x104003, x104004 => if x56 = true then (some 1) else ((r09_arcs.f k x102000 x102001 x102002 x104001).bind fun t107 => (if t107 = 0 then ((r09_arcs.f k x102000 x102001 x102002 x104002).bind fun t108 => (if t108 = 0 then ((r09_arcs.f k x102000 x102001 x102002 x104003).bind fun t109 => (some t109)) else (some t108))) else (some t107)))
end
def r09_trans.f (k : Nat) (a0_0 : ByteArray) (l0_1 : List (S71)) (l0_2 : List (S74)) (a1 : Int) : Option (Int) := if 0 ≤ a1 then (if a1 < (l0_2.length : Int) then ((r09_Name.f k ((rd_T74 l0_2 a1).f0)).bind fun t104 => (if t104 = true then (r09_trans.l0 k a1 0 a0_0 l0_1 l0_2 ((rd_T74 l0_2 a1).f0) ((rd_T74 l0_2 a1).f1) ((rd_T74 l0_2 a1).f2) ((rd_T74 l0_2 a1).f3) ((rd_T74 l0_2 a1).f4)) else (some 5))) else (none)) else (none)
set_option maxHeartbeats 8000000 in
set_option maxRecDepth 100000 in
theorem r09_trans.calls (k : Nat) (a0_0 : ByteArray) (A0_1 : Option Addr) (c0_1 : Nat) (l0_1 : List (S71)) (A0_2 : Option Addr) (c0_2 : Nat) (l0_2 : List (S74)) (a1 : Int) (r : Int) (w : World) (hr0_1 : Kd.C k71 w A0_1 l0_1.length l0_1) (hc0_1 : l0_1.length ≤ c0_1) (hr0_2 : Kd.C k74 w A0_2 l0_2.length l0_2) (hc0_2 : l0_2.length ≤ c0_2) (h : r09_trans.f k a0_0 l0_1 l0_2 a1 = some r) :
  Calls Try.prog 61 #[.agg #[.string a0_0, .slice A0_1 l0_1.length c0_1, .slice A0_2 l0_2.length c0_2], .int .i64 a1] w fun e w' => e = .returned (.int .i64 r) ∧ Below w.heap.size w w' := by
 have hu39 := Try.underlying39
 have hu74 := Try.underlying74
 have HR0_1 := Aside0.mk hr0_1
 have HC0_1 := Aside0.mk hc0_1
 clear hr0_1 hc0_1
 have HR0_2 := Aside0.mk hr0_2
 have HC0_2 := Aside0.mk hc0_2
 clear hr0_2 hc0_2
 have HB := Aside0.mk (Below.refl w.heap.size w)
 have H : (if 0 ≤ a1 then (if a1 < (l0_2.length : Int) then ((r09_Name.f k ((rd_T74 l0_2 a1).f0)).bind fun t104 => (if t104 = true then (r09_trans.l0 k a1 0 a0_0 l0_1 l0_2 ((rd_T74 l0_2 a1).f0) ((rd_T74 l0_2 a1).f1) ((rd_T74 l0_2 a1).f2) ((rd_T74 l0_2 a1).f3) ((rd_T74 l0_2 a1).f4)) else (some 5))) else (none)) else (none)) = some r := h
 clear h
 by_cases c3 : 0 ≤ a1
 ·rw [if_pos c3] at H
  have c3b0 := decide_eq_true c3
  clear c3
  replace H := tF H
  obtain ⟨c4, H⟩ := H
  have c4b0 := decide_eq_true c4
  clear c4
  replace H := Option.bind_eq_some_iff.mp H
  obtain ⟨t104, A50, H⟩ := H
  (try dsimp only at H)
  have A5 := Aside0.mk A50
  clear A50
  by_cases c6 : t104 = true
  ·subst c6
   rw [if_pos rfl] at H
   have H' := Aside0.mk H
   clear H
   go_enter Try.func61, Try.ntmps61
   go_wp2_with (first | ((with_reducible refine gate_dst (N := 2) rfl ?_); refine tBx 2 39 #[.string a0_0, .slice A0_1 l0_1.length c0_1, .slice A0_2 l0_2.length c0_2] ?_; intro gb101 hg w7 hbox hb; have BK101 := Aside0.mk (hbox); have GW101 := tW HB hg; have GE101 := tW HB hg; replace HB := tA HB hb; clear hb hbox hg; obtain ⟨hcz8_0, hcz8_1, hcz8_2, hfz8_0, hfz8_1, hfz8_2⟩ := zc3 BK101; have p102 : 0 ≤ (a1 : Int) := tD; have q102 : a1 < (l0_2.length : Int) := tD; obtain ⟨ad102, A102_1, c102_1, A102_2, c102_2, A102_3, c102_3, e102, hx102_0, hx102_1, hx102_2, hx102_3, hx102_4, hl102_1, hi102_1, hl102_2, hi102_2, hl102_3, hi102_3⟩ := at_T74 HR0_2.out a1 p102 q102; cases e102; replace hx102_0 := tH HB hx102_0; replace hx102_1 := tH HB hx102_1; replace hx102_2 := tH HB hx102_2; replace hx102_3 := tH HB hx102_3; replace hx102_4 := tH HB hx102_4; have HR102_1 := Aside0.mk hi102_1; have HC102_1 := Aside0.mk hl102_1; clear hi102_1 hl102_1; have HR102_2 := Aside0.mk hi102_2; have HC102_2 := Aside0.mk hl102_2; clear hi102_2 hl102_2; have HR102_3 := Aside0.mk hi102_3; have HC102_3 := Aside0.mk hl102_3; clear hi102_3 hl102_3; replace p102 := eq_true p102; replace q102 := eq_true q102) | ((with_reducible refine gate_dst (N := 5) rfl ?_); refine tBx 5 74 #[.string (⟨#[]⟩ : ByteArray), .slice none 0 0, .slice none 0 0, .slice none 0 0, .int .i64 0] ?_; intro gb103 hg w9 hbox hb; have BK103 := Aside0.mk (hbox); have GW103 := tW HB hg; have GE103 := tW HB hg; replace HB := tA HB hb; have NB101_103 := tNl BK101 hg; have NB103_101 := tNg BK101 hg; replace BK101 := tL BK101 hb; clear hb hbox hg; have hnb10 := NB103_101.out; have hnc10 := NB101_103.out; obtain ⟨hcz11_0, hcz11_1, hcz11_2, hcz11_3, hcz11_4, hfz11_0, hfz11_1, hfz11_2, hfz11_3, hfz11_4⟩ := zc5 BK103) | (go_at_call 59; (with_reducible refine (r09_Name.calls k ((rd_T74 l0_2 a1).f0) true _ A5.out).mono ?_); rintro e w' ⟨rfl, ⟨nd, rfl⟩⟩; (try first | exact ⟨rfl, _, World.drewN_drewN _ _ _⟩ | exact ⟨rfl, _, Eq.trans (World.drewN_drewN _ _ _) (congrArg (World.drewN _) (Nat.add_assoc _ _ _))⟩)) | go_quiet ((go_at_call 59; (with_reducible refine (r09_Name.calls k ((rd_T74 l0_2 a1).f0) true _ A5.out).mono ?_); rintro e w' ⟨rfl, ⟨nd, rfl⟩⟩; (try first | exact ⟨rfl, _, World.drewN_drewN _ _ _⟩ | exact ⟨rfl, _, Eq.trans (World.drewN_drewN _ _ _) (congrArg (World.drewN _) (Nat.add_assoc _ _ _))⟩))))
   go_loopg [6] k (fun kq v6 w' => ∃ (x6_1 : Int), v6 = .int .i64 x6_1 ∧ Aside0 (r09_trans.l0 kq a1 x6_1 a0_0 l0_1 l0_2 ((rd_T74 l0_2 a1).f0) ((rd_T74 l0_2 a1).f1) ((rd_T74 l0_2 a1).f2) ((rd_T74 l0_2 a1).f3) ((rd_T74 l0_2 a1).f4) = some r) ∧ Aside0 (kq ≤ k) ∧ Aside0 (w'.heap[gb101]? = some (.cells #[.string a0_0, (.slice A0_1 l0_1.length c0_1), (.slice (some ad102) l0_2.length c0_2)] 39 (0, 0))) ∧ Aside0 (w'.heap[gb103]? = some (.cells #[.string ((rd_T74 l0_2 a1).f0), (.slice A102_1 ((rd_T74 l0_2 a1).f1).length c102_1), (.slice A102_2 ((rd_T74 l0_2 a1).f2).length c102_2), (.slice A102_3 ((rd_T74 l0_2 a1).f3).length c102_3), .int .i64 ((rd_T74 l0_2 a1).f4)] 74 (0, 0))) ∧ Aside0 (Below w.heap.size w w'))
   case atStart => exact ⟨(0), tU, H', ⟨Nat.le_refl _⟩, ⟨by (with_reducible repeat (first | refine blk_drewN ?_ _ | refine blk_drew ?_ | refine blk_alloc ?_ _)); refine blk_far ?_ NB101_103.out _; (with_reducible repeat (first | refine blk_drewN ?_ _ | refine blk_drew ?_ | refine blk_alloc ?_ _)); refine blk_far ?_ NB101_103.out _; (with_reducible repeat (first | refine blk_drewN ?_ _ | refine blk_drew ?_ | refine blk_alloc ?_ _)); refine blk_far ?_ NB101_103.out _; (with_reducible repeat (first | refine blk_drewN ?_ _ | refine blk_drew ?_ | refine blk_alloc ?_ _)); refine blk_far ?_ NB101_103.out _; (with_reducible repeat (first | refine blk_drewN ?_ _ | refine blk_drew ?_ | refine blk_alloc ?_ _)); refine blk_far ?_ NB101_103.out _; (with_reducible repeat (first | refine blk_drewN ?_ _ | refine blk_drew ?_ | refine blk_alloc ?_ _)); exact BK101.out⟩, ⟨by (with_reducible repeat (first | refine blk_drewN ?_ _ | refine blk_drew ?_ | refine blk_alloc ?_ _)); refine blk_put (cs := #[.string ((rd_T74 l0_2 a1).f0), .slice A102_1 ((rd_T74 l0_2 a1).f1).length c102_1, .slice A102_2 ((rd_T74 l0_2 a1).f2).length c102_2, .slice A102_3 ((rd_T74 l0_2 a1).f3).length c102_3, .int .i64 0]) ?_ 4 _ rfl; (with_reducible repeat (first | refine blk_drewN ?_ _ | refine blk_drew ?_ | refine blk_alloc ?_ _)); refine blk_put (cs := #[.string ((rd_T74 l0_2 a1).f0), .slice A102_1 ((rd_T74 l0_2 a1).f1).length c102_1, .slice A102_2 ((rd_T74 l0_2 a1).f2).length c102_2, .slice none 0 0, .int .i64 0]) ?_ 3 _ rfl; (with_reducible repeat (first | refine blk_drewN ?_ _ | refine blk_drew ?_ | refine blk_alloc ?_ _)); refine blk_put (cs := #[.string ((rd_T74 l0_2 a1).f0), .slice A102_1 ((rd_T74 l0_2 a1).f1).length c102_1, .slice none 0 0, .slice none 0 0, .int .i64 0]) ?_ 2 _ rfl; (with_reducible repeat (first | refine blk_drewN ?_ _ | refine blk_drew ?_ | refine blk_alloc ?_ _)); refine blk_put (cs := #[.string ((rd_T74 l0_2 a1).f0), .slice none 0 0, .slice none 0 0, .slice none 0 0, .int .i64 0]) ?_ 1 _ rfl; (with_reducible repeat (first | refine blk_drewN ?_ _ | refine blk_drew ?_ | refine blk_alloc ?_ _)); refine blk_put (cs := #[.string (⟨#[]⟩ : ByteArray), .slice none 0 0, .slice none 0 0, .slice none 0 0, .int .i64 0]) ?_ 0 _ rfl; (with_reducible repeat (first | refine blk_drewN ?_ _ | refine blk_drew ?_ | refine blk_alloc ?_ _)); exact BK103.out⟩, ⟨tB⟩⟩
   case round =>
    clear H'
    (try clear c1); (try clear p1); (try clear q1); (try clear hx1); (try clear p2); (try clear c3); (try clear c3b0); (try clear c4); (try clear c4b0); (try clear c6); (try clear c10); (try clear p10); (try clear q10); (try clear hx10); (try clear hcz11_0 hcz11_1 hcz11_2 hcz11_3 hcz11_4 hfz11_0 hfz11_1 hfz11_2 hfz11_3 hfz11_4); (try clear hcz8_0 hcz8_1 hcz8_2 hfz8_0 hfz8_1 hfz8_2); (try clear hx102_0); (try clear hx102_1); (try clear hx102_2); (try clear hx102_3); (try clear hx102_4); (try clear p102); (try clear q102)
    obtain ⟨x6_1, rfl, HA, HK1, BK101, BK103, HB⟩ := hrel
    cases gk with
    | zero => exact absurd HA.out (by simp [r09_trans.l0])
    | succ k1 =>
     have H := HA.out
     clear HA
     simp only [r09_trans.l0] at H
     by_cases c12 : x6_1 < (l0_1.length : Int)
     ·rw [if_pos c12] at H
      have c12b0 := decide_eq_true c12
      clear c12
      replace H := tF H
      obtain ⟨c13, H⟩ := H
      have c13b0 := decide_eq_true c13
      clear c13
      by_cases c14 : ((rd_T71 l0_1 x6_1).f0).toList = ((rd_T74 l0_2 a1).f0).toList
      ·rw [if_pos c14] at H
       have c14b0 := beq_iff_eq.mpr c14
       have c14b1 := bne_eq_false_iff_eq.mpr c14
       clear c14
       obtain rfl := Option.some.inj H
       have hnb15 := NB101_103.out
       have hnc15 := NB103_101.out
       obtain ⟨hcz16_0, hcz16_1, hcz16_2, hfz16_0, hfz16_1, hfz16_2⟩ := zc3 BK101
       have p105 : 0 ≤ (x6_1 : Int) := tD
       have q105 : x6_1 < (l0_1.length : Int) := tD
       obtain ⟨ad105, e105, hx105_0, hx105_1, hx105_2⟩ := at_T71 HR0_1.out x6_1 p105 q105
       cases e105
       replace hx105_0 := tH HB hx105_0
       replace hx105_1 := tH HB hx105_1
       replace hx105_2 := tH HB hx105_2
       replace p105 := eq_true p105
       replace q105 := eq_true q105
       obtain ⟨hcz17_0, hcz17_1, hcz17_2, hcz17_3, hcz17_4, hfz17_0, hfz17_1, hfz17_2, hfz17_3, hfz17_4⟩ := zc5 BK103
       go_wp2
       repeat (go_quiet (fail); try go_wp2)
       go_ret
       exact ⟨tE, tB⟩
      rw [if_neg c14] at H
      have c14b0 := beq_eq_false_iff_ne.mpr c14
      have c14b1 := bne_iff_ne.mpr c14
      have H' := Aside0.mk H
      clear H
      have hnb18 := NB101_103.out
      have hnc18 := NB103_101.out
      obtain ⟨hcz19_0, hcz19_1, hcz19_2, hfz19_0, hfz19_1, hfz19_2⟩ := zc3 BK101
      have p105 : 0 ≤ (x6_1 : Int) := tD
      have q105 : x6_1 < (l0_1.length : Int) := tD
      obtain ⟨ad105, e105, hx105_0, hx105_1, hx105_2⟩ := at_T71 HR0_1.out x6_1 p105 q105
      cases e105
      replace hx105_0 := tH HB hx105_0
      replace hx105_1 := tH HB hx105_1
      replace hx105_2 := tH HB hx105_2
      replace p105 := eq_true p105
      replace q105 := eq_true q105
      obtain ⟨hcz20_0, hcz20_1, hcz20_2, hcz20_3, hcz20_4, hfz20_0, hfz20_1, hfz20_2, hfz20_3, hfz20_4⟩ := zc5 BK103
      go_wp2
      repeat (go_quiet (fail); try go_wp2)
      go_roundg k1
      case measure => have := HK1.out; omega
      case rel => exact ⟨(wrap64 (x6_1 + 1)), tU, H', ⟨by have := HK1.out; omega⟩, ⟨tK BK101⟩, ⟨tK BK103⟩, ⟨tB⟩⟩
     rw [if_neg c12] at H
     have c12b0 := decide_eq_false c12
     clear c12
     have H' := Aside0.mk H
     clear H
     have hnb21 := NB101_103.out
     have hnc21 := NB103_101.out
     obtain ⟨hcz22_0, hcz22_1, hcz22_2, hfz22_0, hfz22_1, hfz22_2⟩ := zc3 BK101
     go_wp2
     repeat (go_quiet (fail); try go_wp2)
     go_loopg [7] k1 (fun kq v7 w' => ∃ (x7_2 : Int), v7 = .int .i64 x7_2 ∧ Aside0 (r09_trans.l1 kq a1 x7_2 a0_0 l0_1 l0_2 ((rd_T74 l0_2 a1).f0) ((rd_T74 l0_2 a1).f1) ((rd_T74 l0_2 a1).f2) ((rd_T74 l0_2 a1).f3) ((rd_T74 l0_2 a1).f4) = some r) ∧ Aside0 (kq ≤ k1) ∧ Aside0 (w'.heap[gb101]? = some (.cells #[.string a0_0, (.slice A0_1 l0_1.length c0_1), (.slice (some ad102) l0_2.length c0_2)] 39 (0, 0))) ∧ Aside0 (w'.heap[gb103]? = some (.cells #[.string ((rd_T74 l0_2 a1).f0), (.slice A102_1 ((rd_T74 l0_2 a1).f1).length c102_1), (.slice A102_2 ((rd_T74 l0_2 a1).f2).length c102_2), (.slice A102_3 ((rd_T74 l0_2 a1).f3).length c102_3), .int .i64 ((rd_T74 l0_2 a1).f4)] 74 (0, 0))) ∧ Aside0 (Below w.heap.size w w'))
     case atStart => exact ⟨(0), tU, H', ⟨Nat.le_refl _⟩, ⟨tK BK101⟩, ⟨tK BK103⟩, ⟨tB⟩⟩
     case round =>
      clear H'
      (try clear c1); (try clear p1); (try clear q1); (try clear hx1); (try clear c2); (try clear p2); (try clear c3); (try clear c3b0); (try clear c4); (try clear c4b0); (try clear c6); (try clear p6); (try clear c10); (try clear p10); (try clear q10); (try clear hx10); (try clear c12); (try clear c12b0); (try clear c13); (try clear c13b0); (try clear c14); (try clear c14b0); (try clear c14b1); (try clear c15); (try clear c18); (try clear c21); (try clear hcz11_0 hcz11_1 hcz11_2 hcz11_3 hcz11_4 hfz11_0 hfz11_1 hfz11_2 hfz11_3 hfz11_4); (try clear hcz16_0 hcz16_1 hcz16_2 hfz16_0 hfz16_1 hfz16_2); (try clear hcz17_0 hcz17_1 hcz17_2 hcz17_3 hcz17_4 hfz17_0 hfz17_1 hfz17_2 hfz17_3 hfz17_4); (try clear hcz19_0 hcz19_1 hcz19_2 hfz19_0 hfz19_1 hfz19_2); (try clear hcz20_0 hcz20_1 hcz20_2 hcz20_3 hcz20_4 hfz20_0 hfz20_1 hfz20_2 hfz20_3 hfz20_4); (try clear hcz22_0 hcz22_1 hcz22_2 hfz22_0 hfz22_1 hfz22_2); (try clear hcz8_0 hcz8_1 hcz8_2 hfz8_0 hfz8_1 hfz8_2); (try clear hx102_0); (try clear hx102_1); (try clear hx102_2); (try clear hx102_3); (try clear hx102_4); (try clear hx105_0); (try clear hx105_1); (try clear hx105_2); (try clear p102); (try clear p105); (try clear q102); (try clear q105)
      obtain ⟨x7_2, rfl, HA, HK2, BK101, BK103, HB⟩ := hrel
      cases gk with
      | zero => exact absurd HA.out (by simp [r09_trans.l1])
      | succ k2 =>
       have H := HA.out
       clear HA
       simp only [r09_trans.l1] at H
       by_cases c23 : x7_2 < a1
       ·rw [if_pos c23] at H
        have c23b0 := decide_eq_true c23
        clear c23
        replace H := tF H
        obtain ⟨c24, H⟩ := H
        have c24b0 := decide_eq_true c24
        clear c24
        replace H := tF H
        obtain ⟨c25, H⟩ := H
        have c25b0 := decide_eq_true c25
        clear c25
        by_cases c26 : ((rd_T74 l0_2 x7_2).f0).toList = ((rd_T74 l0_2 a1).f0).toList
        ·rw [if_pos c26] at H
         have c26b0 := beq_iff_eq.mpr c26
         have c26b1 := bne_eq_false_iff_eq.mpr c26
         clear c26
         obtain rfl := Option.some.inj H
         have hnb27 := NB101_103.out
         have hnc27 := NB103_101.out
         obtain ⟨hcz28_0, hcz28_1, hcz28_2, hfz28_0, hfz28_1, hfz28_2⟩ := zc3 BK101
         have p106 : 0 ≤ (x7_2 : Int) := tD
         have q106 : x7_2 < (l0_2.length : Int) := tD
         obtain ⟨ad106, A106_1, c106_1, A106_2, c106_2, A106_3, c106_3, e106, hx106_0, hx106_1, hx106_2, hx106_3, hx106_4, hl106_1, hi106_1, hl106_2, hi106_2, hl106_3, hi106_3⟩ := at_T74 HR0_2.out x7_2 p106 q106
         obtain rfl : ad102 = ad106 := (by injection e106)
         replace hx106_0 := tH HB hx106_0
         replace hx106_1 := tH HB hx106_1
         replace hx106_2 := tH HB hx106_2
         replace hx106_3 := tH HB hx106_3
         replace hx106_4 := tH HB hx106_4
         have HR106_1 := Aside0.mk hi106_1
         have HC106_1 := Aside0.mk hl106_1
         clear hi106_1 hl106_1
         have HR106_2 := Aside0.mk hi106_2
         have HC106_2 := Aside0.mk hl106_2
         clear hi106_2 hl106_2
         have HR106_3 := Aside0.mk hi106_3
         have HC106_3 := Aside0.mk hl106_3
         clear hi106_3 hl106_3
         replace p106 := eq_true p106
         replace q106 := eq_true q106
         obtain ⟨hcz29_0, hcz29_1, hcz29_2, hcz29_3, hcz29_4, hfz29_0, hfz29_1, hfz29_2, hfz29_3, hfz29_4⟩ := zc5 BK103
         go_wp2
         repeat (go_quiet (fail); try go_wp2)
         go_ret
         exact ⟨tE, tB⟩
        rw [if_neg c26] at H
        have c26b0 := beq_eq_false_iff_ne.mpr c26
        have c26b1 := bne_iff_ne.mpr c26
        have H' := Aside0.mk H
        clear H
        have hnb30 := NB101_103.out
        have hnc30 := NB103_101.out
        obtain ⟨hcz31_0, hcz31_1, hcz31_2, hfz31_0, hfz31_1, hfz31_2⟩ := zc3 BK101
        have p106 : 0 ≤ (x7_2 : Int) := tD
        have q106 : x7_2 < (l0_2.length : Int) := tD
        obtain ⟨ad106, A106_1, c106_1, A106_2, c106_2, A106_3, c106_3, e106, hx106_0, hx106_1, hx106_2, hx106_3, hx106_4, hl106_1, hi106_1, hl106_2, hi106_2, hl106_3, hi106_3⟩ := at_T74 HR0_2.out x7_2 p106 q106
        obtain rfl : ad102 = ad106 := (by injection e106)
        replace hx106_0 := tH HB hx106_0
        replace hx106_1 := tH HB hx106_1
        replace hx106_2 := tH HB hx106_2
        replace hx106_3 := tH HB hx106_3
        replace hx106_4 := tH HB hx106_4
        have HR106_1 := Aside0.mk hi106_1
        have HC106_1 := Aside0.mk hl106_1
        clear hi106_1 hl106_1
        have HR106_2 := Aside0.mk hi106_2
        have HC106_2 := Aside0.mk hl106_2
        clear hi106_2 hl106_2
        have HR106_3 := Aside0.mk hi106_3
        have HC106_3 := Aside0.mk hl106_3
        clear hi106_3 hl106_3
        replace p106 := eq_true p106
        replace q106 := eq_true q106
        obtain ⟨hcz32_0, hcz32_1, hcz32_2, hcz32_3, hcz32_4, hfz32_0, hfz32_1, hfz32_2, hfz32_3, hfz32_4⟩ := zc5 BK103
        go_wp2
        repeat (go_quiet (fail); try go_wp2)
        go_roundg k2
        case measure => have := HK1.out; have := HK2.out; omega
        case rel => exact ⟨(wrap64 (x7_2 + 1)), tU, H', ⟨by have := HK1.out; have := HK2.out; omega⟩, ⟨tK BK101⟩, ⟨tK BK103⟩, ⟨tB⟩⟩
       rw [if_neg c23] at H
       have c23b0 := decide_eq_false c23
       clear c23
       have HC33 := Aside0.mk H
       clear H
       go_upto_region 14 with (fail)
       repeat (go_quiet (fail); go_upto_region 14 with (fail))
       go_cut [56] (fun v56 wc => ∃ (kq : Nat) (x56_32 : Bool), v56 = .bool x56_32 ∧ Aside0 (r09_trans.j2 kq x56_32 a0_0 l0_1 l0_2 ((rd_T74 l0_2 a1).f0) ((rd_T74 l0_2 a1).f1) ((rd_T74 l0_2 a1).f2) ((rd_T74 l0_2 a1).f3) ((rd_T74 l0_2 a1).f4) = some r) ∧ Aside0 (kq ≤ k2) ∧ Aside0 (wc.heap[gb101]? = some (.cells #[.string a0_0, (.slice A0_1 l0_1.length c0_1), (.slice (some ad102) l0_2.length c0_2)] 39 (0, 0))) ∧ Aside0 (wc.heap[gb103]? = some (.cells #[.string ((rd_T74 l0_2 a1).f0), (.slice A102_1 ((rd_T74 l0_2 a1).f1).length c102_1), (.slice A102_2 ((rd_T74 l0_2 a1).f2).length c102_2), (.slice A102_3 ((rd_T74 l0_2 a1).f3).length c102_3), .int .i64 ((rd_T74 l0_2 a1).f4)] 74 (0, 0))) ∧ Aside0 (Below w.heap.size w wc))
       case first =>
        have H := HC33.out
        clear HC33
        by_cases c34 : ((rd_T74 l0_2 a1).f4) < 0
        ·rw [if_pos c34] at H
         have c34b0 := decide_eq_true c34
         clear c34
         (first | rw [c34b0] | (simp only [i64_w, i32_w]; rw [c34b0]) | skip)
         have H' := Aside0.mk H
         clear H
         have hnb35 := NB103_101.out
         have hnc35 := NB101_103.out
         obtain ⟨hcz36_0, hcz36_1, hcz36_2, hcz36_3, hcz36_4, hfz36_0, hfz36_1, hfz36_2, hfz36_3, hfz36_4⟩ := zc5 BK103
         go_wp2
         repeat (go_quiet (fail); try go_wp2)
         go_meet
         case rel => exact ⟨_, (true), tU, H', ⟨by have := HK1.out; have := HK2.out; first | omega | exact Nat.le_refl _⟩, ⟨tK BK101⟩, ⟨tK BK103⟩, ⟨tB⟩⟩
        rw [if_neg c34] at H
        have c34b0 := decide_eq_false c34
        clear c34
        (first | rw [c34b0] | (simp only [i64_w, i32_w]; rw [c34b0]) | skip)
        have H' := Aside0.mk H
        clear H
        have hnb37 := NB103_101.out
        have hnc37 := NB101_103.out
        obtain ⟨hcz38_0, hcz38_1, hcz38_2, hcz38_3, hcz38_4, hfz38_0, hfz38_1, hfz38_2, hfz38_3, hfz38_4⟩ := zc5 BK103
        go_wp2
        repeat (go_quiet (fail); try go_wp2)
        go_meet
        case rel => exact ⟨_, (decide (((rd_T74 l0_2 a1).f4) > 9)), tU, H', ⟨by have := HK1.out; have := HK2.out; first | omega | exact Nat.le_refl _⟩, ⟨tK BK101⟩, ⟨tK BK103⟩, ⟨tB⟩⟩
       case rest =>
        clear HC33
        (try clear c1); (try clear p1); (try clear q1); (try clear hx1); (try clear c2); (try clear p2); (try clear c3); (try clear c3b0); (try clear c4); (try clear c4b0); (try clear c6); (try clear p6); (try clear c10); (try clear p10); (try clear q10); (try clear hx10); (try clear c12); (try clear c12b0); (try clear c13); (try clear c13b0); (try clear c14); (try clear c14b0); (try clear c14b1); (try clear c15); (try clear c18); (try clear c21); (try clear c23); (try clear c23b0); (try clear c24); (try clear c24b0); (try clear c25); (try clear c25b0); (try clear c26); (try clear c26b0); (try clear c26b1); (try clear c27); (try clear c30); (try clear c34); (try clear c34b0); (try clear c35); (try clear c37); (try clear hcz11_0 hcz11_1 hcz11_2 hcz11_3 hcz11_4 hfz11_0 hfz11_1 hfz11_2 hfz11_3 hfz11_4); (try clear hcz16_0 hcz16_1 hcz16_2 hfz16_0 hfz16_1 hfz16_2); (try clear hcz17_0 hcz17_1 hcz17_2 hcz17_3 hcz17_4 hfz17_0 hfz17_1 hfz17_2 hfz17_3 hfz17_4); (try clear hcz19_0 hcz19_1 hcz19_2 hfz19_0 hfz19_1 hfz19_2); (try clear hcz20_0 hcz20_1 hcz20_2 hcz20_3 hcz20_4 hfz20_0 hfz20_1 hfz20_2 hfz20_3 hfz20_4); (try clear hcz22_0 hcz22_1 hcz22_2 hfz22_0 hfz22_1 hfz22_2); (try clear hcz28_0 hcz28_1 hcz28_2 hfz28_0 hfz28_1 hfz28_2); (try clear hcz29_0 hcz29_1 hcz29_2 hcz29_3 hcz29_4 hfz29_0 hfz29_1 hfz29_2 hfz29_3 hfz29_4); (try clear hcz31_0 hcz31_1 hcz31_2 hfz31_0 hfz31_1 hfz31_2); (try clear hcz32_0 hcz32_1 hcz32_2 hcz32_3 hcz32_4 hfz32_0 hfz32_1 hfz32_2 hfz32_3 hfz32_4); (try clear hcz36_0 hcz36_1 hcz36_2 hcz36_3 hcz36_4 hfz36_0 hfz36_1 hfz36_2 hfz36_3 hfz36_4); (try clear hcz38_0 hcz38_1 hcz38_2 hcz38_3 hcz38_4 hfz38_0 hfz38_1 hfz38_2 hfz38_3 hfz38_4); (try clear hcz8_0 hcz8_1 hcz8_2 hfz8_0 hfz8_1 hfz8_2); (try clear hx102_0); (try clear hx102_1); (try clear hx102_2); (try clear hx102_3); (try clear hx102_4); (try clear hx105_0); (try clear hx105_1); (try clear hx105_2); (try clear hx106_0); (try clear hx106_1); (try clear hx106_2); (try clear hx106_3); (try clear hx106_4); (try clear p102); (try clear p105); (try clear p106); (try clear q102); (try clear q105); (try clear q106)
        obtain ⟨kq, x56_32, rfl, HA, HJ32, BK101, BK103, HB⟩ := hcut
        cases kq with
        | zero => exact absurd HA.out (by simp [r09_trans.j2])
        | succ kj32 =>
         have H := HA.out
         clear HA
         simp only [r09_trans.j2] at H
         by_cases c39 : x56_32 = true
         ·subst c39
          rw [if_pos rfl] at H
          obtain rfl := Option.some.inj H
          go_wp2
          repeat (go_quiet (fail); try go_wp2)
          go_ret
          exact ⟨tE, tB⟩
         replace c39 := Bool.eq_false_iff.mpr c39
         subst c39
         rw [if_neg (show ¬ (false = true) by decide)] at H
         replace H := Option.bind_eq_some_iff.mp H
         obtain ⟨t107, A400, H⟩ := H
         (try dsimp only at H)
         have A40 := Aside0.mk A400
         clear A400
         by_cases c41 : t107 = 0
         ·rw [if_pos c41] at H
          have c41b0 := beq_iff_eq.mpr c41
          have c41b1 := bne_eq_false_iff_eq.mpr c41
          clear c41
          replace H := Option.bind_eq_some_iff.mp H
          obtain ⟨t108, A420, H⟩ := H
          (try dsimp only at H)
          have A42 := Aside0.mk A420
          clear A420
          by_cases c43 : t108 = 0
          ·rw [if_pos c43] at H
           have c43b0 := beq_iff_eq.mpr c43
           have c43b1 := bne_eq_false_iff_eq.mpr c43
           clear c43
           replace H := Option.bind_eq_some_iff.mp H
           obtain ⟨t109, A440, H⟩ := H
           (try dsimp only at H)
           have A44 := Aside0.mk A440
           clear A440
           obtain rfl := Option.some.inj H
           have hnb45 := NB101_103.out
           have hnc45 := NB103_101.out
           obtain ⟨hcz46_0, hcz46_1, hcz46_2, hfz46_0, hfz46_1, hfz46_2⟩ := zc3 BK101
           obtain ⟨hcz47_0, hcz47_1, hcz47_2, hcz47_3, hcz47_4, hfz47_0, hfz47_1, hfz47_2, hfz47_3, hfz47_4⟩ := zc5 BK103
           go_wp2_with (first | (go_at_call 68; (with_reducible refine (r09_arcs.calls kj32 a0_0 _ _ l0_1 _ _ l0_2 _ _ ((rd_T74 l0_2 a1).f1) t107 _ (tG HR0_1 HB) HC0_1.out (tG HR0_2 HB) HC0_2.out (tG HR102_1 HB) HC102_1.out A40.out).mono ?_); rintro e w48 ⟨rfl, hb⟩; replace BK101 := tL BK101 hb; replace BK103 := tL BK103 hb; replace HB := tA HB hb; (try clear hb); (try clear hb2); (try clear hk); (try clear hi); obtain ⟨hcz49_0, hcz49_1, hcz49_2, hfz49_0, hfz49_1, hfz49_2⟩ := zc3 BK101; obtain ⟨hcz50_0, hcz50_1, hcz50_2, hcz50_3, hcz50_4, hfz50_0, hfz50_1, hfz50_2, hfz50_3, hfz50_4⟩ := zc5 BK103) | (go_at_call 68; (with_reducible refine (r09_arcs.calls kj32 a0_0 _ _ l0_1 _ _ l0_2 _ _ ((rd_T74 l0_2 a1).f2) t108 _ (tG HR0_1 HB) HC0_1.out (tG HR0_2 HB) HC0_2.out (tG HR102_2 HB) HC102_2.out A42.out).mono ?_); rintro e w51 ⟨rfl, hb⟩; replace BK101 := tL BK101 hb; replace BK103 := tL BK103 hb; replace HB := tA HB hb; (try clear hb); (try clear hb2); (try clear hk); (try clear hi); obtain ⟨hcz52_0, hcz52_1, hcz52_2, hfz52_0, hfz52_1, hfz52_2⟩ := zc3 BK101; obtain ⟨hcz53_0, hcz53_1, hcz53_2, hcz53_3, hcz53_4, hfz53_0, hfz53_1, hfz53_2, hfz53_3, hfz53_4⟩ := zc5 BK103) | (go_at_call 68; (with_reducible refine (r09_arcs.calls kj32 a0_0 _ _ l0_1 _ _ l0_2 _ _ ((rd_T74 l0_2 a1).f3) t109 _ (tG HR0_1 HB) HC0_1.out (tG HR0_2 HB) HC0_2.out (tG HR102_3 HB) HC102_3.out A44.out).mono ?_); rintro e w54 ⟨rfl, hb⟩; replace BK101 := tL BK101 hb; replace BK103 := tL BK103 hb; replace HB := tA HB hb; (try clear hb); (try clear hb2); (try clear hk); (try clear hi)) | go_quiet (fail))
           go_ret
           exact ⟨tE, tB⟩
          rw [if_neg c43] at H
          have c43b0 := beq_eq_false_iff_ne.mpr c43
          have c43b1 := bne_iff_ne.mpr c43
          obtain rfl := Option.some.inj H
          have hnb55 := NB101_103.out
          have hnc55 := NB103_101.out
          obtain ⟨hcz56_0, hcz56_1, hcz56_2, hfz56_0, hfz56_1, hfz56_2⟩ := zc3 BK101
          obtain ⟨hcz57_0, hcz57_1, hcz57_2, hcz57_3, hcz57_4, hfz57_0, hfz57_1, hfz57_2, hfz57_3, hfz57_4⟩ := zc5 BK103
          go_wp2_with (first | (go_at_call 68; (with_reducible refine (r09_arcs.calls kj32 a0_0 _ _ l0_1 _ _ l0_2 _ _ ((rd_T74 l0_2 a1).f1) t107 _ (tG HR0_1 HB) HC0_1.out (tG HR0_2 HB) HC0_2.out (tG HR102_1 HB) HC102_1.out A40.out).mono ?_); rintro e w58 ⟨rfl, hb⟩; replace BK101 := tL BK101 hb; replace BK103 := tL BK103 hb; replace HB := tA HB hb; (try clear hb); (try clear hb2); (try clear hk); (try clear hi); obtain ⟨hcz59_0, hcz59_1, hcz59_2, hfz59_0, hfz59_1, hfz59_2⟩ := zc3 BK101; obtain ⟨hcz60_0, hcz60_1, hcz60_2, hcz60_3, hcz60_4, hfz60_0, hfz60_1, hfz60_2, hfz60_3, hfz60_4⟩ := zc5 BK103) | (go_at_call 68; (with_reducible refine (r09_arcs.calls kj32 a0_0 _ _ l0_1 _ _ l0_2 _ _ ((rd_T74 l0_2 a1).f2) t108 _ (tG HR0_1 HB) HC0_1.out (tG HR0_2 HB) HC0_2.out (tG HR102_2 HB) HC102_2.out A42.out).mono ?_); rintro e w61 ⟨rfl, hb⟩; replace BK101 := tL BK101 hb; replace BK103 := tL BK103 hb; replace HB := tA HB hb; (try clear hb); (try clear hb2); (try clear hk); (try clear hi)) | go_quiet (fail))
          go_ret
          exact ⟨tE, tB⟩
         rw [if_neg c41] at H
         have c41b0 := beq_eq_false_iff_ne.mpr c41
         have c41b1 := bne_iff_ne.mpr c41
         obtain rfl := Option.some.inj H
         have hnb62 := NB101_103.out
         have hnc62 := NB103_101.out
         obtain ⟨hcz63_0, hcz63_1, hcz63_2, hfz63_0, hfz63_1, hfz63_2⟩ := zc3 BK101
         obtain ⟨hcz64_0, hcz64_1, hcz64_2, hcz64_3, hcz64_4, hfz64_0, hfz64_1, hfz64_2, hfz64_3, hfz64_4⟩ := zc5 BK103
         go_wp2_with (first | (go_at_call 68; (with_reducible refine (r09_arcs.calls kj32 a0_0 _ _ l0_1 _ _ l0_2 _ _ ((rd_T74 l0_2 a1).f1) t107 _ (tG HR0_1 HB) HC0_1.out (tG HR0_2 HB) HC0_2.out (tG HR102_1 HB) HC102_1.out A40.out).mono ?_); rintro e w65 ⟨rfl, hb⟩; replace BK101 := tL BK101 hb; replace BK103 := tL BK103 hb; replace HB := tA HB hb; (try clear hb); (try clear hb2); (try clear hk); (try clear hi)) | go_quiet (fail))
         go_ret
         exact ⟨tE, tB⟩
  replace c6 := Bool.eq_false_iff.mpr c6
  subst c6
  rw [if_neg (show ¬ (false = true) by decide)] at H
  obtain rfl := Option.some.inj H
  go_enter Try.func61, Try.ntmps61
  go_wp2_with (first | ((with_reducible refine gate_dst (N := 2) rfl ?_); refine tBx 2 39 #[.string a0_0, .slice A0_1 l0_1.length c0_1, .slice A0_2 l0_2.length c0_2] ?_; intro gb101 hg w66 hbox hb; have BK101 := Aside0.mk (hbox); have GW101 := tW HB hg; have GE101 := tW HB hg; replace HB := tA HB hb; clear hb hbox hg; obtain ⟨hcz67_0, hcz67_1, hcz67_2, hfz67_0, hfz67_1, hfz67_2⟩ := zc3 BK101; have p102 : 0 ≤ (a1 : Int) := tD; have q102 : a1 < (l0_2.length : Int) := tD; obtain ⟨ad102, A102_1, c102_1, A102_2, c102_2, A102_3, c102_3, e102, hx102_0, hx102_1, hx102_2, hx102_3, hx102_4, hl102_1, hi102_1, hl102_2, hi102_2, hl102_3, hi102_3⟩ := at_T74 HR0_2.out a1 p102 q102; cases e102; replace hx102_0 := tH HB hx102_0; replace hx102_1 := tH HB hx102_1; replace hx102_2 := tH HB hx102_2; replace hx102_3 := tH HB hx102_3; replace hx102_4 := tH HB hx102_4; have HR102_1 := Aside0.mk hi102_1; have HC102_1 := Aside0.mk hl102_1; clear hi102_1 hl102_1; have HR102_2 := Aside0.mk hi102_2; have HC102_2 := Aside0.mk hl102_2; clear hi102_2 hl102_2; have HR102_3 := Aside0.mk hi102_3; have HC102_3 := Aside0.mk hl102_3; clear hi102_3 hl102_3; replace p102 := eq_true p102; replace q102 := eq_true q102) | ((with_reducible refine gate_dst (N := 5) rfl ?_); refine tBx 5 74 #[.string (⟨#[]⟩ : ByteArray), .slice none 0 0, .slice none 0 0, .slice none 0 0, .int .i64 0] ?_; intro gb103 hg w68 hbox hb; have BK103 := Aside0.mk (hbox); have GW103 := tW HB hg; have GE103 := tW HB hg; replace HB := tA HB hb; have NB101_103 := tNl BK101 hg; have NB103_101 := tNg BK101 hg; replace BK101 := tL BK101 hb; clear hb hbox hg; have hnb69 := NB103_101.out; have hnc69 := NB101_103.out; obtain ⟨hcz70_0, hcz70_1, hcz70_2, hcz70_3, hcz70_4, hfz70_0, hfz70_1, hfz70_2, hfz70_3, hfz70_4⟩ := zc5 BK103) | (go_at_call 59; (with_reducible refine (r09_Name.calls k ((rd_T74 l0_2 a1).f0) false _ A5.out).mono ?_); rintro e w' ⟨rfl, ⟨nd, rfl⟩⟩; (try first | exact ⟨rfl, _, World.drewN_drewN _ _ _⟩ | exact ⟨rfl, _, Eq.trans (World.drewN_drewN _ _ _) (congrArg (World.drewN _) (Nat.add_assoc _ _ _))⟩)) | go_quiet ((go_at_call 59; (with_reducible refine (r09_Name.calls k ((rd_T74 l0_2 a1).f0) false _ A5.out).mono ?_); rintro e w' ⟨rfl, ⟨nd, rfl⟩⟩; (try first | exact ⟨rfl, _, World.drewN_drewN _ _ _⟩ | exact ⟨rfl, _, Eq.trans (World.drewN_drewN _ _ _) (congrArg (World.drewN _) (Nat.add_assoc _ _ _))⟩))))
  go_ret
  exact ⟨tE, tB⟩
 rw [if_neg c3] at H
 exact absurd H (by simp)
mutual
def r09_Check.j0 : Nat → Bool → ByteArray → List (S71) → List (S74) → Option (Int × Int)
 | 0, _, _, _, _ => none
 | k + 1, x27, x102000, x102001, x102002 => if x27 = true then (some (2, 0)) else (r09_Check.l0 k 0 x102000 x102001 x102002)
def r09_Check.l0 : Nat → Int → ByteArray → List (S71) → List (S74) → Option (Int × Int)
 | 0, _, _, _, _ => none
 | k + 1, x3, x102000, x102001, x102002 => if x3 < (x102001.length : Int) then ((r09_place.f k x102000 x102001 x102002 x3).bind fun t104 => (if t104 = 0 then (r09_Check.l0 k (wrap64 (x3 + 1)) x102000 x102001 x102002) else (some (t104, x3)))) else (r09_Check.l1 k 0 x102000 x102001 x102002)
def r09_Check.l1 : Nat → Int → ByteArray → List (S71) → List (S74) → Option (Int × Int)
 | 0, _, _, _, _ => none
 | k + 1, x5, x102000, x102001, x102002 => if x5 < (x102002.length : Int) then ((r09_trans.f k x102000 x102001 x102002 x5).bind fun t105 => (if t105 = 0 then (r09_Check.l1 k (wrap64 (x5 + 1)) x102000 x102001 x102002) else (some (t105, wrap64 ((x102001.length : Int) + x5))))) else (some (0, 0))
end
def r09_Check.f (k : Nat) (a0_0 : ByteArray) (l0_1 : List (S71)) (l0_2 : List (S74)) : Option (Int × Int) := (r09_Name.f k a0_0).bind fun t103 => (if t103 = true then (if (l0_1.length : Int) < 1 then (r09_Check.j0 k true a0_0 l0_1 l0_2) else (if (l0_1.length : Int) > 24 then (r09_Check.j0 k true a0_0 l0_1 l0_2) else (r09_Check.j0 k (decide ((l0_2.length : Int) > 24)) a0_0 l0_1 l0_2))) else (some (5, 0)))
set_option maxHeartbeats 8000000 in
set_option maxRecDepth 100000 in
theorem r09_Check.calls (k : Nat) (a0_0 : ByteArray) (A0_1 : Option Addr) (c0_1 : Nat) (l0_1 : List (S71)) (A0_2 : Option Addr) (c0_2 : Nat) (l0_2 : List (S74)) (r1 : Int) (r2 : Int) (w : World) (hr0_1 : Kd.C k71 w A0_1 l0_1.length l0_1) (hc0_1 : l0_1.length ≤ c0_1) (hr0_2 : Kd.C k74 w A0_2 l0_2.length l0_2) (hc0_2 : l0_2.length ≤ c0_2) (h : r09_Check.f k a0_0 l0_1 l0_2 = some (r1, r2)) :
  Calls Try.prog 43 #[.agg #[.string a0_0, .slice A0_1 l0_1.length c0_1, .slice A0_2 l0_2.length c0_2]] w fun e w' => e = .returned (.agg #[.int .i64 r1, .int .i64 r2]) ∧ Below w.heap.size w w' := by
 have hu39 := Try.underlying39
 have hu46 := Try.underlying46
 have HR0_1 := Aside0.mk hr0_1
 have HC0_1 := Aside0.mk hc0_1
 clear hr0_1 hc0_1
 have HR0_2 := Aside0.mk hr0_2
 have HC0_2 := Aside0.mk hc0_2
 clear hr0_2 hc0_2
 have HB := Aside0.mk (Below.refl w.heap.size w)
 have H : ((r09_Name.f k a0_0).bind fun t103 => (if t103 = true then (if (l0_1.length : Int) < 1 then (r09_Check.j0 k true a0_0 l0_1 l0_2) else (if (l0_1.length : Int) > 24 then (r09_Check.j0 k true a0_0 l0_1 l0_2) else (r09_Check.j0 k (decide ((l0_2.length : Int) > 24)) a0_0 l0_1 l0_2))) else (some (5, 0)))) = some (r1, r2) := h
 clear h
 replace H := Option.bind_eq_some_iff.mp H
 obtain ⟨t103, A20, H⟩ := H
 (try dsimp only at H)
 have A2 := Aside0.mk A20
 clear A20
 by_cases c3 : t103 = true
 ·subst c3
  rw [if_pos rfl] at H
  have HC4 := Aside0.mk H
  clear H
  go_enter Try.func43, Try.ntmps43
  go_upto_region 3 with (first | ((with_reducible refine gate_dst (N := 1) rfl ?_); (try (refine gate_guard (by rfl) ?_; dsimp only)); refine tBx 1 39 #[.string a0_0, .slice A0_1 l0_1.length c0_1, .slice A0_2 l0_2.length c0_2] ?_; intro gb101 hg w5 hbox hb; have BK101 := Aside0.mk (hbox); have GW101 := tW HB hg; have GE101 := tW HB hg; replace HB := tA HB hb; clear hb hbox hg) | ((with_reducible refine gate_dst (N := 2) rfl ?_); (try (refine gate_guard (by rfl) ?_; dsimp only)); refine tBx 2 46 #[.int .i64 0, .int .i64 0] ?_; intro gb102 hg w6 hbox hb; have BK102 := Aside0.mk (hbox); have GW102 := tW HB hg; have GE102 := tW HB hg; replace HB := tA HB hb; have NB101_102 := tNl BK101 hg; have NB102_101 := tNg BK101 hg; replace BK101 := tL BK101 hb; clear hb hbox hg; have hnb7 := NB101_102.out; have hnc7 := NB102_101.out; obtain ⟨hcz8_0, hcz8_1, hcz8_2, hfz8_0, hfz8_1, hfz8_2⟩ := zc3 BK101) | ((with_reducible refine gate_callee (f := 59) rfl ?_); refine goesL_ (some 9) rfl rfl Try.func59 (by kernel_rfl) rfl #[.string a0_0] rfl (by (try simp only [List.map_toArray, List.map_cons, List.map_nil]); first | done | rfl | (simp only [List.length_drop, List.length_take]; rfl)) ?_; (with_reducible refine (r09_Name.calls k a0_0 true _ A2.out).mono ?_); rintro e w' ⟨rfl, ⟨nd, rfl⟩⟩; refine ⟨_, rfl, ?_⟩))
  (try simp only [Act.put, List.setIfInBounds_toArray, List.set_cons_zero, List.set_cons_succ])
  go_cut [27] (fun v27 wc => ∃ (kq : Nat) (x27_3 : Bool), v27 = .bool x27_3 ∧ Aside0 (r09_Check.j0 kq x27_3 a0_0 l0_1 l0_2 = some (r1, r2)) ∧ Aside0 (kq ≤ k) ∧ Aside0 (wc.heap[gb101]? = some (.cells #[.string a0_0, (.slice A0_1 l0_1.length c0_1), (.slice A0_2 l0_2.length c0_2)] 39 (0, 0))) ∧ Aside0 (wc.heap[gb102]? = some (.cells #[.int .i64 0, .int .i64 0] 46 (0, 0))) ∧ Aside0 (Below w.heap.size w wc))
  case first =>
   have H := HC4.out
   clear HC4
   by_cases c9 : (l0_1.length : Int) < 1
   ·rw [if_pos c9] at H
    have c9b0 := decide_eq_true c9
    have c9b1 : decide (l0_1.length < 1) = true := decide_eq_true (by omega)
    clear c9
    (first | rw [c9b0] | (simp only [i64_w, i32_w]; rw [c9b0]) | skip)
    have H' := Aside0.mk H
    clear H
    have hnb10 := NB101_102.out
    have hnc10 := NB102_101.out
    obtain ⟨hcz11_0, hcz11_1, hcz11_2, hfz11_0, hfz11_1, hfz11_2⟩ := zc3 BK101
    go_wp2
    go_meet
    case rel => exact ⟨_, (true), tU, H', ⟨by first | omega | exact Nat.le_refl _⟩, ⟨tK BK101⟩, ⟨tK BK102⟩, ⟨tB⟩⟩
   rw [if_neg c9] at H
   have c9b0 := decide_eq_false c9
   have c9b1 : decide (l0_1.length < 1) = false := decide_eq_false (by omega)
   clear c9
   (first | rw [c9b0] | (simp only [i64_w, i32_w]; rw [c9b0]) | skip)
   by_cases c12 : (l0_1.length : Int) > 24
   ·rw [if_pos c12] at H
    have c12b0 := tdGi c12
    have c12b1 : decide (24 < l0_1.length) = true := decide_eq_true (by omega)
    clear c12
    have H' := Aside0.mk H
    clear H
    have hnb13 := NB101_102.out
    have hnc13 := NB102_101.out
    obtain ⟨hcz14_0, hcz14_1, hcz14_2, hfz14_0, hfz14_1, hfz14_2⟩ := zc3 BK101
    go_wp2
    go_meet
    case rel => exact ⟨_, (true), tU, H', ⟨by first | omega | exact Nat.le_refl _⟩, ⟨tK BK101⟩, ⟨tK BK102⟩, ⟨tB⟩⟩
   rw [if_neg c12] at H
   have c12b0 := tdHi c12
   have c12b1 : decide (24 < l0_1.length) = false := decide_eq_false (by omega)
   clear c12
   have H' := Aside0.mk H
   clear H
   have hnb15 := NB101_102.out
   have hnc15 := NB102_101.out
   obtain ⟨hcz16_0, hcz16_1, hcz16_2, hfz16_0, hfz16_1, hfz16_2⟩ := zc3 BK101
   go_wp2
   go_meet
   case rel => exact ⟨_, (decide ((l0_2.length : Int) > 24)), tU, H', ⟨by first | omega | exact Nat.le_refl _⟩, ⟨tK BK101⟩, ⟨tK BK102⟩, ⟨tB⟩⟩
  case rest =>
   clear HC4
   (try clear c1); (try clear p2); (try clear c3); (try clear c4); (try clear c5); (try clear c7); (try clear c9); (try clear c9b0); (try clear c9b1); (try clear c10); (try clear c12); (try clear c12b0); (try clear c12b1); (try clear c13); (try clear c15); (try clear hcz11_0 hcz11_1 hcz11_2 hfz11_0 hfz11_1 hfz11_2); (try clear hcz14_0 hcz14_1 hcz14_2 hfz14_0 hfz14_1 hfz14_2); (try clear hcz16_0 hcz16_1 hcz16_2 hfz16_0 hfz16_1 hfz16_2); (try clear hcz8_0 hcz8_1 hcz8_2 hfz8_0 hfz8_1 hfz8_2)
   obtain ⟨kq, x27_3, rfl, HA, HJ3, BK101, BK102, HB⟩ := hcut
   cases kq with
   | zero => exact absurd HA.out (by simp [r09_Check.j0])
   | succ kj3 =>
    have H := HA.out
    clear HA
    simp only [r09_Check.j0] at H
    by_cases c17 : x27_3 = true
    ·subst c17
     rw [if_pos rfl] at H
     simp only [Option.some.injEq, Prod.mk.injEq] at H
     obtain ⟨rfl, rfl⟩ := H
     have hnb18 := NB102_101.out
     have hnc18 := NB101_102.out
     obtain ⟨hcz19_0, hcz19_1, hfz19_0, hfz19_1⟩ := zc2 BK102
     go_wp2
     refine bodyPost_ret (results_cell_row rfl _ _ gb102 46 #[.int .i64 2, .int .i64 0] (0, 0) _ rfl (by (with_reducible repeat (first | refine blk_drewN ?_ _ | refine blk_drew ?_ | refine blk_alloc ?_ _)); refine blk_put (cs := #[.int .i64 2, .int .i64 0]) ?_ 1 _ rfl; (with_reducible repeat (first | refine blk_drewN ?_ _ | refine blk_drew ?_ | refine blk_alloc ?_ _)); refine blk_put (cs := #[.int .i64 0, .int .i64 0]) ?_ 0 _ rfl; (with_reducible repeat (first | refine blk_drewN ?_ _ | refine blk_drew ?_ | refine blk_alloc ?_ _)); exact BK102.out) Try.underlying46 rfl (by kernel_rfl)) rfl ?_
     exact ⟨tE, tB⟩
    replace c17 := Bool.eq_false_iff.mpr c17
    subst c17
    rw [if_neg (show ¬ (false = true) by decide)] at H
    have H' := Aside0.mk H
    clear H
    go_wp2
    go_loopg [3] kj3 (fun kq v3 w' => ∃ (x3_2 : Int) (x103000_2 : Int) (x103001_2 : Int), v3 = .int .i64 x3_2 ∧ Aside0 (r09_Check.l0 kq x3_2 a0_0 l0_1 l0_2 = some (r1, r2)) ∧ Aside0 (kq ≤ kj3) ∧ Aside0 (w'.heap[gb101]? = some (.cells #[.string a0_0, (.slice A0_1 l0_1.length c0_1), (.slice A0_2 l0_2.length c0_2)] 39 (0, 0))) ∧ Aside0 (w'.heap[gb102]? = some (.cells #[.int .i64 x103000_2, .int .i64 x103001_2] 46 (0, 0))) ∧ Aside0 (Below w.heap.size w w'))
    case atStart => exact ⟨(0), (0), (0), tU, H', ⟨Nat.le_refl _⟩, ⟨tK BK101⟩, ⟨tK BK102⟩, ⟨tB⟩⟩
    case round =>
     clear H'
     (try clear c1); (try clear p2); (try clear c3); (try clear c4); (try clear c5); (try clear c7); (try clear c9); (try clear c9b0); (try clear c9b1); (try clear c10); (try clear c12); (try clear c12b0); (try clear c12b1); (try clear c13); (try clear c15); (try clear c17); (try clear c18); (try clear hcz11_0 hcz11_1 hcz11_2 hfz11_0 hfz11_1 hfz11_2); (try clear hcz14_0 hcz14_1 hcz14_2 hfz14_0 hfz14_1 hfz14_2); (try clear hcz16_0 hcz16_1 hcz16_2 hfz16_0 hfz16_1 hfz16_2); (try clear hcz19_0 hcz19_1 hfz19_0 hfz19_1); (try clear hcz8_0 hcz8_1 hcz8_2 hfz8_0 hfz8_1 hfz8_2)
     obtain ⟨x3_2, x103000_2, x103001_2, rfl, HA, HK2, BK101, BK102, HB⟩ := hrel
     cases gk with
     | zero => exact absurd HA.out (by simp [r09_Check.l0])
     | succ k2 =>
      have H := HA.out
      clear HA
      simp only [r09_Check.l0] at H
      by_cases c20 : x3_2 < (l0_1.length : Int)
      ·rw [if_pos c20] at H
       have c20b0 := decide_eq_true c20
       clear c20
       replace H := Option.bind_eq_some_iff.mp H
       obtain ⟨t104, A210, H⟩ := H
       (try dsimp only at H)
       have A21 := Aside0.mk A210
       clear A210
       by_cases c22 : t104 = 0
       ·rw [if_pos c22] at H
        have c22b0 := beq_iff_eq.mpr c22
        have c22b1 := bne_eq_false_iff_eq.mpr c22
        clear c22
        have H' := Aside0.mk H
        clear H
        have hnb23 := NB101_102.out
        have hnc23 := NB102_101.out
        obtain ⟨hcz24_0, hcz24_1, hcz24_2, hfz24_0, hfz24_1, hfz24_2⟩ := zc3 BK101
        go_wp2_with (first | ((with_reducible refine gate_callee (f := 60) rfl ?_); refine goesL_ (some 38) rfl rfl Try.func60 (by kernel_rfl) rfl #[.agg #[.string a0_0, .slice A0_1 l0_1.length c0_1, .slice A0_2 l0_2.length c0_2], .int .i64 x3_2] rfl (by (try simp only [List.map_toArray, List.map_cons, List.map_nil]); first | done | rfl | (simp only [List.length_drop, List.length_take]; rfl)) ?_; (with_reducible refine (r09_place.calls k2 a0_0 _ _ l0_1 _ _ l0_2 x3_2 t104 _ (tG HR0_1 HB) HC0_1.out (tG HR0_2 HB) HC0_2.out A21.out).mono ?_); rintro e w25 ⟨rfl, hb⟩; refine ⟨_, rfl, ?_⟩; replace BK101 := tL BK101 hb; replace BK102 := tL BK102 hb; replace HB := tA HB hb; (try clear hb); (try clear hb2); (try clear hk); (try clear hi)))
        go_roundg k2
        case measure => have := HJ3.out; have := HK2.out; omega
        case rel => exact ⟨(wrap64 (x3_2 + 1)), (x103000_2), (x103001_2), tU, H', ⟨by have := HJ3.out; have := HK2.out; omega⟩, ⟨tK BK101⟩, ⟨tK BK102⟩, ⟨tB⟩⟩
       rw [if_neg c22] at H
       have c22b0 := beq_eq_false_iff_ne.mpr c22
       have c22b1 := bne_iff_ne.mpr c22
       simp only [Option.some.injEq, Prod.mk.injEq] at H
       obtain ⟨rfl, rfl⟩ := H
       have hnb26 := NB101_102.out
       have hnc26 := NB102_101.out
       obtain ⟨hcz27_0, hcz27_1, hcz27_2, hfz27_0, hfz27_1, hfz27_2⟩ := zc3 BK101
       go_wp2_with (first | ((with_reducible refine gate_callee (f := 60) rfl ?_); refine goesL_ (some 38) rfl rfl Try.func60 (by kernel_rfl) rfl #[.agg #[.string a0_0, .slice A0_1 l0_1.length c0_1, .slice A0_2 l0_2.length c0_2], .int .i64 x3_2] rfl (by (try simp only [List.map_toArray, List.map_cons, List.map_nil]); first | done | rfl | (simp only [List.length_drop, List.length_take]; rfl)) ?_; (with_reducible refine (r09_place.calls k2 a0_0 _ _ l0_1 _ _ l0_2 x3_2 t104 _ (tG HR0_1 HB) HC0_1.out (tG HR0_2 HB) HC0_2.out A21.out).mono ?_); rintro e w28 ⟨rfl, hb⟩; refine ⟨_, rfl, ?_⟩; replace BK101 := tL BK101 hb; replace BK102 := tL BK102 hb; replace HB := tA HB hb; (try clear hb); (try clear hb2); (try clear hk); (try clear hi); obtain ⟨hcz29_0, hcz29_1, hfz29_0, hfz29_1⟩ := zc2 BK102))
       refine bodyPost_ret (results_cell_row rfl _ _ gb102 46 #[.int .i64 t104, .int .i64 x3_2] (0, 0) _ rfl (by (with_reducible repeat (first | refine blk_drewN ?_ _ | refine blk_drew ?_ | refine blk_alloc ?_ _)); refine blk_put (cs := #[.int .i64 t104, .int .i64 x103001_2]) ?_ 1 _ rfl; (with_reducible repeat (first | refine blk_drewN ?_ _ | refine blk_drew ?_ | refine blk_alloc ?_ _)); refine blk_put (cs := #[.int .i64 x103000_2, .int .i64 x103001_2]) ?_ 0 _ rfl; (with_reducible repeat (first | refine blk_drewN ?_ _ | refine blk_drew ?_ | refine blk_alloc ?_ _)); exact BK102.out) Try.underlying46 rfl (by kernel_rfl)) rfl ?_
       exact ⟨tE, tB⟩
      rw [if_neg c20] at H
      have c20b0 := decide_eq_false c20
      clear c20
      have H' := Aside0.mk H
      clear H
      have hnb30 := NB101_102.out
      have hnc30 := NB102_101.out
      obtain ⟨hcz31_0, hcz31_1, hcz31_2, hfz31_0, hfz31_1, hfz31_2⟩ := zc3 BK101
      go_wp2
      go_loopg [5] k2 (fun kq v5 w' => ∃ (x5_3 : Int) (x103000_3 : Int) (x103001_3 : Int), v5 = .int .i64 x5_3 ∧ Aside0 (r09_Check.l1 kq x5_3 a0_0 l0_1 l0_2 = some (r1, r2)) ∧ Aside0 (kq ≤ k2) ∧ Aside0 (w'.heap[gb101]? = some (.cells #[.string a0_0, (.slice A0_1 l0_1.length c0_1), (.slice A0_2 l0_2.length c0_2)] 39 (0, 0))) ∧ Aside0 (w'.heap[gb102]? = some (.cells #[.int .i64 x103000_3, .int .i64 x103001_3] 46 (0, 0))) ∧ Aside0 (Below w.heap.size w w'))
      case atStart => exact ⟨(0), (x103000_2), (x103001_2), tU, H', ⟨Nat.le_refl _⟩, ⟨tK BK101⟩, ⟨tK BK102⟩, ⟨tB⟩⟩
      case round =>
       clear H'
       (try clear c1); (try clear c2); (try clear p2); (try clear c3); (try clear c4); (try clear c5); (try clear c6); (try clear p6); (try clear c7); (try clear c9); (try clear c9b0); (try clear c9b1); (try clear c10); (try clear c12); (try clear c12b0); (try clear c12b1); (try clear c13); (try clear c15); (try clear c17); (try clear c18); (try clear c20); (try clear c20b0); (try clear c22); (try clear c22b0); (try clear c22b1); (try clear c23); (try clear c26); (try clear c30); (try clear hcz11_0 hcz11_1 hcz11_2 hfz11_0 hfz11_1 hfz11_2); (try clear hcz14_0 hcz14_1 hcz14_2 hfz14_0 hfz14_1 hfz14_2); (try clear hcz16_0 hcz16_1 hcz16_2 hfz16_0 hfz16_1 hfz16_2); (try clear hcz19_0 hcz19_1 hfz19_0 hfz19_1); (try clear hcz24_0 hcz24_1 hcz24_2 hfz24_0 hfz24_1 hfz24_2); (try clear hcz27_0 hcz27_1 hcz27_2 hfz27_0 hfz27_1 hfz27_2); (try clear hcz29_0 hcz29_1 hfz29_0 hfz29_1); (try clear hcz31_0 hcz31_1 hcz31_2 hfz31_0 hfz31_1 hfz31_2); (try clear hcz8_0 hcz8_1 hcz8_2 hfz8_0 hfz8_1 hfz8_2)
       obtain ⟨x5_3, x103000_3, x103001_3, rfl, HA, HK3, BK101, BK102, HB⟩ := hrel
       cases gk with
       | zero => exact absurd HA.out (by simp [r09_Check.l1])
       | succ k3 =>
        have H := HA.out
        clear HA
        simp only [r09_Check.l1] at H
        by_cases c32 : x5_3 < (l0_2.length : Int)
        ·rw [if_pos c32] at H
         have c32b0 := decide_eq_true c32
         clear c32
         replace H := Option.bind_eq_some_iff.mp H
         obtain ⟨t105, A330, H⟩ := H
         (try dsimp only at H)
         have A33 := Aside0.mk A330
         clear A330
         by_cases c34 : t105 = 0
         ·rw [if_pos c34] at H
          have c34b0 := beq_iff_eq.mpr c34
          have c34b1 := bne_eq_false_iff_eq.mpr c34
          clear c34
          have H' := Aside0.mk H
          clear H
          have hnb35 := NB101_102.out
          have hnc35 := NB102_101.out
          obtain ⟨hcz36_0, hcz36_1, hcz36_2, hfz36_0, hfz36_1, hfz36_2⟩ := zc3 BK101
          go_wp2_with (first | ((with_reducible refine gate_callee (f := 61) rfl ?_); refine goesL_ (some 53) rfl rfl Try.func61 (by kernel_rfl) rfl #[.agg #[.string a0_0, .slice A0_1 l0_1.length c0_1, .slice A0_2 l0_2.length c0_2], .int .i64 x5_3] rfl (by (try simp only [List.map_toArray, List.map_cons, List.map_nil]); first | done | rfl | (simp only [List.length_drop, List.length_take]; rfl)) ?_; (with_reducible refine (r09_trans.calls k3 a0_0 _ _ l0_1 _ _ l0_2 x5_3 t105 _ (tG HR0_1 HB) HC0_1.out (tG HR0_2 HB) HC0_2.out A33.out).mono ?_); rintro e w37 ⟨rfl, hb⟩; refine ⟨_, rfl, ?_⟩; replace BK101 := tL BK101 hb; replace BK102 := tL BK102 hb; replace HB := tA HB hb; (try clear hb); (try clear hb2); (try clear hk); (try clear hi)))
          go_roundg k3
          case measure => have := HJ3.out; have := HK2.out; have := HK3.out; omega
          case rel => exact ⟨(wrap64 (x5_3 + 1)), (x103000_3), (x103001_3), tU, H', ⟨by have := HJ3.out; have := HK2.out; have := HK3.out; omega⟩, ⟨tK BK101⟩, ⟨tK BK102⟩, ⟨tB⟩⟩
         rw [if_neg c34] at H
         have c34b0 := beq_eq_false_iff_ne.mpr c34
         have c34b1 := bne_iff_ne.mpr c34
         simp only [Option.some.injEq, Prod.mk.injEq] at H
         obtain ⟨rfl, rfl⟩ := H
         have hnb38 := NB101_102.out
         have hnc38 := NB102_101.out
         obtain ⟨hcz39_0, hcz39_1, hcz39_2, hfz39_0, hfz39_1, hfz39_2⟩ := zc3 BK101
         go_wp2_with (first | ((with_reducible refine gate_callee (f := 61) rfl ?_); refine goesL_ (some 53) rfl rfl Try.func61 (by kernel_rfl) rfl #[.agg #[.string a0_0, .slice A0_1 l0_1.length c0_1, .slice A0_2 l0_2.length c0_2], .int .i64 x5_3] rfl (by (try simp only [List.map_toArray, List.map_cons, List.map_nil]); first | done | rfl | (simp only [List.length_drop, List.length_take]; rfl)) ?_; (with_reducible refine (r09_trans.calls k3 a0_0 _ _ l0_1 _ _ l0_2 x5_3 t105 _ (tG HR0_1 HB) HC0_1.out (tG HR0_2 HB) HC0_2.out A33.out).mono ?_); rintro e w40 ⟨rfl, hb⟩; refine ⟨_, rfl, ?_⟩; replace BK101 := tL BK101 hb; replace BK102 := tL BK102 hb; replace HB := tA HB hb; (try clear hb); (try clear hb2); (try clear hk); (try clear hi); obtain ⟨hcz41_0, hcz41_1, hcz41_2, hfz41_0, hfz41_1, hfz41_2⟩ := zc3 BK101; obtain ⟨hcz42_0, hcz42_1, hfz42_0, hfz42_1⟩ := zc2 BK102))
         refine bodyPost_ret (results_cell_row rfl _ _ gb102 46 #[.int .i64 t105, .int .i64 (wrap64 ((l0_1.length : Int) + x5_3))] (0, 0) _ rfl (by (with_reducible repeat (first | refine blk_drewN ?_ _ | refine blk_drew ?_ | refine blk_alloc ?_ _)); refine blk_put (cs := #[.int .i64 t105, .int .i64 x103001_3]) ?_ 1 _ rfl; (with_reducible repeat (first | refine blk_drewN ?_ _ | refine blk_drew ?_ | refine blk_alloc ?_ _)); refine blk_put (cs := #[.int .i64 x103000_3, .int .i64 x103001_3]) ?_ 0 _ rfl; (with_reducible repeat (first | refine blk_drewN ?_ _ | refine blk_drew ?_ | refine blk_alloc ?_ _)); exact BK102.out) Try.underlying46 rfl (by kernel_rfl)) rfl ?_
         exact ⟨tE, tB⟩
        rw [if_neg c32] at H
        have c32b0 := decide_eq_false c32
        clear c32
        simp only [Option.some.injEq, Prod.mk.injEq] at H
        obtain ⟨rfl, rfl⟩ := H
        have hnb43 := NB101_102.out
        have hnc43 := NB102_101.out
        obtain ⟨hcz44_0, hcz44_1, hcz44_2, hfz44_0, hfz44_1, hfz44_2⟩ := zc3 BK101
        obtain ⟨hcz45_0, hcz45_1, hfz45_0, hfz45_1⟩ := zc2 BK102
        go_wp2
        refine bodyPost_ret (results_cell_row rfl _ _ gb102 46 #[.int .i64 0, .int .i64 0] (0, 0) _ rfl (by (with_reducible repeat (first | refine blk_drewN ?_ _ | refine blk_drew ?_ | refine blk_alloc ?_ _)); refine blk_put (cs := #[.int .i64 0, .int .i64 x103001_3]) ?_ 1 _ rfl; (with_reducible repeat (first | refine blk_drewN ?_ _ | refine blk_drew ?_ | refine blk_alloc ?_ _)); refine blk_put (cs := #[.int .i64 x103000_3, .int .i64 x103001_3]) ?_ 0 _ rfl; (with_reducible repeat (first | refine blk_drewN ?_ _ | refine blk_drew ?_ | refine blk_alloc ?_ _)); exact BK102.out) Try.underlying46 rfl (by kernel_rfl)) rfl ?_
        exact ⟨tE, tB⟩
 replace c3 := Bool.eq_false_iff.mpr c3
 subst c3
 rw [if_neg (show ¬ (false = true) by decide)] at H
 simp only [Option.some.injEq, Prod.mk.injEq] at H
 obtain ⟨rfl, rfl⟩ := H
 go_enter Try.func43, Try.ntmps43
 go_wp2_with (first | ((with_reducible refine gate_dst (N := 1) rfl ?_); (try (refine gate_guard (by rfl) ?_; dsimp only)); refine tBx 1 39 #[.string a0_0, .slice A0_1 l0_1.length c0_1, .slice A0_2 l0_2.length c0_2] ?_; intro gb101 hg w46 hbox hb; have BK101 := Aside0.mk (hbox); have GW101 := tW HB hg; have GE101 := tW HB hg; replace HB := tA HB hb; clear hb hbox hg) | ((with_reducible refine gate_dst (N := 2) rfl ?_); (try (refine gate_guard (by rfl) ?_; dsimp only)); refine tBx 2 46 #[.int .i64 0, .int .i64 0] ?_; intro gb102 hg w47 hbox hb; have BK102 := Aside0.mk (hbox); have GW102 := tW HB hg; have GE102 := tW HB hg; replace HB := tA HB hb; have NB101_102 := tNl BK101 hg; have NB102_101 := tNg BK101 hg; replace BK101 := tL BK101 hb; clear hb hbox hg; have hnb48 := NB101_102.out; have hnc48 := NB102_101.out; obtain ⟨hcz49_0, hcz49_1, hcz49_2, hfz49_0, hfz49_1, hfz49_2⟩ := zc3 BK101) | ((with_reducible refine gate_callee (f := 59) rfl ?_); refine goesL_ (some 9) rfl rfl Try.func59 (by kernel_rfl) rfl #[.string a0_0] rfl (by (try simp only [List.map_toArray, List.map_cons, List.map_nil]); first | done | rfl | (simp only [List.length_drop, List.length_take]; rfl)) ?_; (with_reducible refine (r09_Name.calls k a0_0 false _ A2.out).mono ?_); rintro e w' ⟨rfl, ⟨nd, rfl⟩⟩; refine ⟨_, rfl, ?_⟩; (try (rw [drewN_self w47]; generalize hq_ : World.drewN w47 _ = w47; have n0_ : Aside0 (w47.heap[gb101]? = some (.cells #[.string a0_0, .slice A0_1 l0_1.length c0_1, .slice A0_2 l0_2.length c0_2] 39 (0, 0))) := ⟨by rw [← hq_]; exact (tK BK101)⟩; have n1_ : Aside0 (w47.heap[gb102]? = some (.cells #[.int .i64 0, .int .i64 0] 46 (0, 0))) := ⟨by rw [← hq_]; exact (tK BK102)⟩; have n2_ : Aside0 (Below w.heap.size w w47) := ⟨by rw [← hq_]; exact (tB)⟩; clear BK101 BK102 HB hq_; have BK101 := n0_; have BK102 := n1_; have HB := n2_; clear n0_ n1_ n2_)); obtain ⟨hcz50_0, hcz50_1, hfz50_0, hfz50_1⟩ := zc2 BK102))
 refine bodyPost_ret (results_cell_row rfl _ _ gb102 46 #[.int .i64 5, .int .i64 0] (0, 0) _ rfl (by (with_reducible repeat (first | refine blk_drewN ?_ _ | refine blk_drew ?_ | refine blk_alloc ?_ _)); refine blk_put (cs := #[.int .i64 5, .int .i64 0]) ?_ 1 _ rfl; (with_reducible repeat (first | refine blk_drewN ?_ _ | refine blk_drew ?_ | refine blk_alloc ?_ _)); refine blk_put (cs := #[.int .i64 0, .int .i64 0]) ?_ 0 _ rfl; (with_reducible repeat (first | refine blk_drewN ?_ _ | refine blk_drew ?_ | refine blk_alloc ?_ _)); exact BK102.out) Try.underlying46 rfl (by kernel_rfl)) rfl ?_
 exact ⟨tE, tB⟩
end Go.Proofs.Ytfnjbgggmddgpaa.Q
end
