/- Part 11 of a proof: Dd. Words and walks that a program printed for this claim stand here without what the claim does not use. -/
import Derived.Test.YtfnjbgggmddgpaaDd10
import Derived.Test.YtfnjbgggmddgpaaDd2
import Derived.Test.YtfnjbgggmddgpaaDd5
import Derived.Test.YtfnjbgggmddgpaaDd6
import Derived.Test.YtfnjbgggmddgpaaDd7
import Derived.Test.YtfnjbgggmddgpaaDd9
section
namespace Go.Proofs.Ytfnjbgggmddgpaa.Q
open Go.RowKit Go.Proofs.Fn Go.Proofs.YtfnjbgggmddgpaaW.PrintWords Go.Proofs.YtfnjbgggmddgpaaW.PrintLast Go.Proofs.YtfnjbgggmddgpaaW.PrintMore
attribute [local go_sem] max2_int min2_int max_two min_two max_three min_three max_four min_four
set_option linter.unusedVariables false
set_option linter.unusedSimpArgs false
attribute [local go_sem high] eqA46
mutual
def l16_WitnessRuns.j0 : Nat → Int → Int → Bool → ByteArray → List (S71) → List (S74) → Option (Bool)
 | 0, _, _, _, _, _, _ => none
 | k + 1, x1, x2, x25, x102000, x102001, x102002 => if x25 = true then ((l16_alive.f k).bind fun t104 => (some t104)) else ((r14_Explore.f k x102000 x102001 x102002 60).bind fun bt105 => (if bt105.2.2.2 = 0 then ((r09_Initial.f k x102000 x102001 x102002).bind fun t115 => ((witness_To.f k bt105.1 bt105.2.1 bt105.2.2.1 x1).bind fun bt118 => (if x1 ≥ 0 then (l16_WitnessRuns.j1 k x1 x2 t115 bt118.1 bt118.2 (bt118.2 != (decide (x1 < (bt105.1.length : Int)))) x102000 x102001 x102002 bt105.1 bt105.2.1 bt105.2.2.1) else (l16_WitnessRuns.j1 k x1 x2 t115 bt118.1 bt118.2 (bt118.2 != false) x102000 x102001 x102002 bt105.1 bt105.2.1 bt105.2.2.1)))) else ((l16_alive.f k).bind fun t114 => (some t114))))
def l16_WitnessRuns.j1 : Nat → Int → Int → List Int → List Int → Bool → Bool → ByteArray → List (S71) → List (S74) → List (List Int) → List (S80) → Bool → Option (Bool)
 | 0, _, _, _, _, _, _, _, _, _, _, _, _ => none
 | k + 1, x1, x2, x9, x10, x11, x53, x102000, x102001, x102002, x114000, x114001, x114002 => if x53 = true then (some false) else (if x11 = true then ((r11_Run.f k x102000 x102001 x102002 x9 x10).bind fun bt122 => (if (!(bt122.2.1 == 0) || (!(bt122.2.2 == 0))) = true then (some false) else (if 0 ≤ x1 then (if x1 < (x114000.length : Int) then ((r04_Same.f k bt122.1 (rd_L3 x114000 x1)).bind fun t129 => (if t129 = true then (l16_WitnessRuns.j2 k x2 x9 x102000 x102001 x102002 x114000 x114001 x114002) else (some false))) else (none)) else (none)))) else (l16_WitnessRuns.j2 k x2 x9 x102000 x102001 x102002 x114000 x114001 x114002))
def l16_WitnessRuns.j2 : Nat → Int → List Int → ByteArray → List (S71) → List (S74) → List (List Int) → List (S80) → Bool → Option (Bool)
 | 0, _, _, _, _, _, _, _, _ => none
 | k + 1, x2, x9, x102000, x102001, x102002, x114000, x114001, x114002 => (witness_Dead.f k x114000 x114001 x114002).bind fun bt130 => (if bt130.2 = true then (l16_WitnessRuns.j3 k x2 x9 bt130.1 x114002 x102000 x102001 x102002 x114000 x114001 x114002) else (l16_WitnessRuns.j3 k x2 x9 bt130.1 false x102000 x102001 x102002 x114000 x114001 x114002))
def l16_WitnessRuns.j3 : Nat → Int → List Int → List Int → Bool → ByteArray → List (S71) → List (S74) → List (List Int) → List (S80) → Bool → Option (Bool)
 | 0, _, _, _, _, _, _, _, _, _, _ => none
 | k + 1, x2, x9, x10, x84, x102000, x102001, x102002, x114000, x114001, x114002 => if x84 = true then ((r11_Run.f k x102000 x102001 x102002 x9 x10).bind fun bt134 => (if (!(bt134.2.1 == 0) || (!(bt134.2.2 == 0))) = true then (some false) else ((r11_Dead.f k x102000 x102001 x102002 bt134.1).bind fun t140 => (if t140 = true then (l16_WitnessRuns.j4 k x2 x9 x102000 x102001 x102002 x114000 x114001 x114002) else (some false))))) else (l16_WitnessRuns.j4 k x2 x9 x102000 x102001 x102002 x114000 x114001 x114002)
def l16_WitnessRuns.j4 : Nat → Int → List Int → ByteArray → List (S71) → List (S74) → List (List Int) → List (S80) → Bool → Option (Bool)
 | 0, _, _, _, _, _, _, _, _ => none
 | k + 1, x2, x9, x102000, x102001, x102002, x114000, x114001, x114002 => (witness_Fires.f k x114000 x114001 x114002 x2).bind fun bt141 => (if bt141.2 = true then ((r11_Run.f k x102000 x102001 x102002 x9 bt141.1).bind fun bt145 => (if (!(bt145.2.1 == 0) || (!(bt145.2.2 == 0))) = true then (some false) else (if (bt141.1.length : Int) = 0 then (some false) else (if 0 ≤ (wrap64 ((bt141.1.length : Int) - 1)) then (if (wrap64 ((bt141.1.length : Int) - 1)) < (bt141.1.length : Int) then (if (rd bt141.1 (wrap64 ((bt141.1.length : Int) - 1))) = x2 then ((l16_alive.f k).bind fun t152 => (some t152)) else (some false)) else (none)) else (none))))) else ((l16_alive.f k).bind fun t153 => (some t153)))
end
def l16_WitnessRuns.f (k : Nat) (a0_0 : ByteArray) (l0_1 : List (S71)) (l0_2 : List (S74)) (a1 : Int) (a2 : Int) : Option (Bool) := (r09_Light.f k a0_0 l0_1 l0_2).bind fun t102 => (if t102 = true then ((r09_Valid.f k a0_0 l0_1 l0_2).bind fun t103 => (l16_WitnessRuns.j0 k a1 a2 (!t103) a0_0 l0_1 l0_2)) else (l16_WitnessRuns.j0 k a1 a2 true a0_0 l0_1 l0_2))
set_option maxHeartbeats 8000000 in
set_option maxRecDepth 100000 in
theorem l16_WitnessRuns.calls (k : Nat) (a0_0 : ByteArray) (A0_1 : Option Addr) (c0_1 : Nat) (l0_1 : List (S71)) (A0_2 : Option Addr) (c0_2 : Nat) (l0_2 : List (S74)) (a1 : Int) (a2 : Int) (r : Bool) (w : World) (hr0_1 : Kd.C k71 w A0_1 l0_1.length l0_1) (hc0_1 : l0_1.length ≤ c0_1) (hr0_2 : Kd.C k74 w A0_2 l0_2.length l0_2) (hc0_2 : l0_2.length ≤ c0_2) (h : l16_WitnessRuns.f k a0_0 l0_1 l0_2 a1 a2 = some r) :
  Calls Try.prog 5 #[.agg #[.string a0_0, .slice A0_1 l0_1.length c0_1, .slice A0_2 l0_2.length c0_2], .int .i64 a1, .int .i64 a2] w fun e w' => e = .returned (.bool r) ∧ Below w.heap.size w w' := by
 have hu39 := Try.underlying39
 have hu25 := Try.underlying25
 have hu46 := Try.underlying46
 have HR0_1 := Aside0.mk hr0_1
 have HC0_1 := Aside0.mk hc0_1
 clear hr0_1 hc0_1
 have HR0_2 := Aside0.mk hr0_2
 have HC0_2 := Aside0.mk hc0_2
 clear hr0_2 hc0_2
 have HB := Aside0.mk (Below.refl w.heap.size w)
 have H : ((r09_Light.f k a0_0 l0_1 l0_2).bind fun t102 => (if t102 = true then ((r09_Valid.f k a0_0 l0_1 l0_2).bind fun t103 => (l16_WitnessRuns.j0 k a1 a2 (!t103) a0_0 l0_1 l0_2)) else (l16_WitnessRuns.j0 k a1 a2 true a0_0 l0_1 l0_2))) = some r := h
 clear h
 have HC4 := Aside0.mk H
 clear H
 go_enter Try.func5, Try.ntmps5
 go_upto_region 1 with (first | ((with_reducible refine gate_dst (N := 3) rfl ?_); (try (refine gate_guard (by rfl) ?_; dsimp only)); refine tBx 3 39 #[.string a0_0, .slice A0_1 l0_1.length c0_1, .slice A0_2 l0_2.length c0_2] ?_; intro gb101 hg w5 hbox hb; have BK101 := Aside0.mk (hbox); have GW101 := tW HB hg; have GE101 := tW HB hg; replace HB := tA HB hb; clear hb hbox hg))
 (try simp only [Act.put, List.setIfInBounds_toArray, List.set_cons_zero, List.set_cons_succ])
 go_cut [25] (fun v25 wc => ∃ (kq : Nat) (x25_3 : Bool), v25 = .bool x25_3 ∧ Aside0 (l16_WitnessRuns.j0 kq a1 a2 x25_3 a0_0 l0_1 l0_2 = some r) ∧ Aside0 (kq ≤ k) ∧ Aside0 (wc.heap[gb101]? = some (.cells #[.string a0_0, (.slice A0_1 l0_1.length c0_1), (.slice A0_2 l0_2.length c0_2)] 39 (0, 0))) ∧ Aside0 (Below w.heap.size w wc))
 case first =>
  have H := HC4.out
  clear HC4
  replace H := Option.bind_eq_some_iff.mp H
  obtain ⟨t102, A60, H⟩ := H
  (try dsimp only at H)
  have A6 := Aside0.mk A60
  clear A60
  by_cases c7 : t102 = true
  ·subst c7
   rw [if_pos rfl] at H
   replace H := Option.bind_eq_some_iff.mp H
   obtain ⟨t103, A80, H⟩ := H
   (try dsimp only at H)
   have A8 := Aside0.mk A80
   clear A80
   have H' := Aside0.mk H
   clear H
   obtain ⟨hcz9_0, hcz9_1, hcz9_2, hfz9_0, hfz9_1, hfz9_2⟩ := zc3 BK101
   go_wp2_with (first | ((with_reducible refine gate_callee (f := 19) rfl ?_); refine goesL_ (some 19) rfl rfl Try.func19 (by kernel_rfl) rfl #[.agg #[.string a0_0, .slice A0_1 l0_1.length c0_1, .slice A0_2 l0_2.length c0_2]] rfl (by (try simp only [List.map_toArray, List.map_cons, List.map_nil]); first | done | rfl | (simp only [List.length_drop, List.length_take]; rfl)) ?_; (with_reducible refine (r09_Light.calls k a0_0 _ _ l0_1 _ _ l0_2 true _ (tG HR0_1 HB) HC0_1.out (tG HR0_2 HB) HC0_2.out A6.out).mono ?_); rintro e w10 ⟨rfl, hb⟩; refine ⟨_, rfl, ?_⟩; replace BK101 := tL BK101 hb; replace HB := tA HB hb; (try clear hb); (try clear hb2); (try clear hk); (try clear hi); obtain ⟨hcz11_0, hcz11_1, hcz11_2, hfz11_0, hfz11_1, hfz11_2⟩ := zc3 BK101) | (go_at_call 20; (with_reducible refine (r09_Valid.calls k a0_0 _ _ l0_1 _ _ l0_2 t103 _ (tG HR0_1 HB) HC0_1.out (tG HR0_2 HB) HC0_2.out A8.out).mono ?_); rintro e w12 ⟨rfl, hb⟩; replace BK101 := tL BK101 hb; replace HB := tA HB hb; (try clear hb); (try clear hb2); (try clear hk); (try clear hi)))
   go_meet
   case rel => exact ⟨_, (!t103), tU, H', ⟨by first | omega | exact Nat.le_refl _⟩, ⟨tK BK101⟩, ⟨tB⟩⟩
  replace c7 := Bool.eq_false_iff.mpr c7
  subst c7
  rw [if_neg (show ¬ (false = true) by decide)] at H
  have H' := Aside0.mk H
  clear H
  obtain ⟨hcz13_0, hcz13_1, hcz13_2, hfz13_0, hfz13_1, hfz13_2⟩ := zc3 BK101
  go_wp2_with (first | ((with_reducible refine gate_callee (f := 19) rfl ?_); refine goesL_ (some 19) rfl rfl Try.func19 (by kernel_rfl) rfl #[.agg #[.string a0_0, .slice A0_1 l0_1.length c0_1, .slice A0_2 l0_2.length c0_2]] rfl (by (try simp only [List.map_toArray, List.map_cons, List.map_nil]); first | done | rfl | (simp only [List.length_drop, List.length_take]; rfl)) ?_; (with_reducible refine (r09_Light.calls k a0_0 _ _ l0_1 _ _ l0_2 false _ (tG HR0_1 HB) HC0_1.out (tG HR0_2 HB) HC0_2.out A6.out).mono ?_); rintro e w14 ⟨rfl, hb⟩; refine ⟨_, rfl, ?_⟩; replace BK101 := tL BK101 hb; replace HB := tA HB hb; (try clear hb); (try clear hb2); (try clear hk); (try clear hi)))
  go_meet
  case rel => exact ⟨_, (true), tU, H', ⟨by first | omega | exact Nat.le_refl _⟩, ⟨tK BK101⟩, ⟨tB⟩⟩
 case rest =>
  clear HC4
  (try clear c1); (try clear p2); (try clear c5); (try clear c7); (try clear hcz11_0 hcz11_1 hcz11_2 hfz11_0 hfz11_1 hfz11_2); (try clear hcz13_0 hcz13_1 hcz13_2 hfz13_0 hfz13_1 hfz13_2); (try clear hcz9_0 hcz9_1 hcz9_2 hfz9_0 hfz9_1 hfz9_2)
  obtain ⟨kq, x25_3, rfl, HA, HJ3, BK101, HB⟩ := hcut
  cases kq with
  | zero => exact absurd HA.out (by simp [l16_WitnessRuns.j0])
  | succ kj3 =>
   have H := HA.out
   clear HA
   simp only [l16_WitnessRuns.j0] at H
   by_cases c15 : x25_3 = true
   ·subst c15
    rw [if_pos rfl] at H
    replace H := Option.bind_eq_some_iff.mp H
    obtain ⟨t104, A160, H⟩ := H
    (try dsimp only at H)
    have A16 := Aside0.mk A160
    clear A160
    obtain rfl := Option.some.inj H
    go_wp2_with (first | ((with_reducible refine gate_callee (f := 10) rfl ?_); refine goesL_ (some 26) rfl rfl Try.func10 (by kernel_rfl) rfl #[] rfl (by (try simp only [List.map_toArray, List.map_cons, List.map_nil]); first | done | rfl | (simp only [List.length_drop, List.length_take]; rfl)) ?_; (with_reducible refine (l16_alive.calls kj3  t104 _ A16.out).mono ?_); rintro e w17 ⟨rfl, hb⟩; refine ⟨_, rfl, ?_⟩; replace BK101 := tL BK101 hb; replace HB := tA HB hb; (try clear hb); (try clear hb2); (try clear hk); (try clear hi)))
    go_ret
    exact ⟨tE, tB⟩
   replace c15 := Bool.eq_false_iff.mpr c15
   subst c15
   rw [if_neg (show ¬ (false = true) by decide)] at H
   replace H := Option.bind_eq_some_iff.mp H
   obtain ⟨⟨t105, t108, t111, t112⟩, A180, H⟩ := H
   (try dsimp only at H)
   have A18 := Aside0.mk A180
   clear A180
   by_cases c19 : t112 = 0
   ·rw [if_pos c19] at H
    have c19b0 := beq_iff_eq.mpr c19
    have c19b1 := bne_eq_false_iff_eq.mpr c19
    clear c19
    replace H := Option.bind_eq_some_iff.mp H
    obtain ⟨t115, A200, H⟩ := H
    (try dsimp only at H)
    have A20 := Aside0.mk A200
    clear A200
    replace H := Option.bind_eq_some_iff.mp H
    obtain ⟨⟨t118, t121⟩, A210, H⟩ := H
    (try dsimp only at H)
    have A21 := Aside0.mk A210
    clear A210
    have HC22 := Aside0.mk H
    clear H
    obtain ⟨hcz23_0, hcz23_1, hcz23_2, hfz23_0, hfz23_1, hfz23_2⟩ := zc3 BK101
    go_upto_region 8 with (first | ((with_reducible refine gate_callee (f := 21) rfl ?_); refine goesL_ (some 29) rfl rfl Try.func21 (by kernel_rfl) rfl #[.agg #[.string a0_0, .slice A0_1 l0_1.length c0_1, .slice A0_2 l0_2.length c0_2], .int .i64 60] rfl (by (try simp only [List.map_toArray, List.map_cons, List.map_nil]); first | done | rfl | (simp only [List.length_drop, List.length_take]; rfl)) ?_; (with_reducible refine (r14_Explore.calls kj3 a0_0 _ _ l0_1 _ _ l0_2 60 t105 t108 t111 t112 _ (tG HR0_1 HB) HC0_1.out (tG HR0_2 HB) HC0_2.out A18.out).mono ?_); rintro e w24 ⟨v106, v109, rfl, ho0, ho1, hb⟩; refine ⟨_, rfl, ?_⟩; have HO107 := Aside0.mk (Kd.N_lower (Kd.N_mono (ok' := fun k_ => some k_ ≠ (v109 : Value).ownBlock ∧ k_ ≠ gb101) ho0 (fun k_ hk_ => ⟨hk_.2, (Kd.freshB (g := gb101) (o := .cells #[.string a0_0, .slice A0_1 l0_1.length c0_1, .slice A0_2 l0_2.length c0_2] 39 (0, 0)) (tK BK101) k_ hk_.1)⟩)) (below_size (tB))); have HO110 := Aside0.mk (Kd.R_lower (Kd.R_mono (ok' := fun k_ => True) ho1 (fun _ hk_ => trivial)) (below_size (tB))); replace BK101 := tL BK101 hb; replace HB := tA HB hb; (try clear hb); (try clear hb2); (try clear hk); (try clear hi); (try clear ho0); (try clear ho1)) | ((with_reducible refine gate_dst (N := 7) rfl ?_); (try (refine gate_guard (by rfl) ?_; dsimp only)); refine tBx 7 25 #[.slice none 0 0, .slice none 0 0, .bool false] ?_; intro gb113 hg w25 hbox hb; replace HO107 := Aside0.mk (Kd.N_below (Kd.N_elderB (tR HO107) gb113 (Nat.le_of_eq hg.symm)) hb); replace HO110 := Aside0.mk (Kd.R_below (tR HO110) hb); have BK113 := Aside0.mk (hbox); have GW113 := tW HB hg; have GE113 := tW HB hg; replace HB := tA HB hb; have NB101_113 := tNl BK101 hg; have NB113_101 := tNg BK101 hg; replace BK101 := tL BK101 hb; clear hb hbox hg; obtain ⟨Ao26, co26, eo26⟩ := Kd.N_slice HO107.out; subst eo26; have hnb27 := NB113_101.out; have hnc27 := NB101_113.out; obtain ⟨hcz28_0, hcz28_1, hcz28_2, hfz28_0, hfz28_1, hfz28_2⟩ := zc3 BK113; obtain ⟨Ao29, co29, eo29⟩ := Kd.R_slice HO110.out; subst eo29; obtain ⟨hcz30_0, hcz30_1, hcz30_2, hfz30_0, hfz30_1, hfz30_2⟩ := zc3 BK101) | ((with_reducible refine gate_callee (f := 22) rfl ?_); refine goesL_ (some 36) rfl rfl Try.func22 (by kernel_rfl) rfl #[.agg #[.string a0_0, .slice A0_1 l0_1.length c0_1, .slice A0_2 l0_2.length c0_2]] rfl (by (try simp only [List.map_toArray, List.map_cons, List.map_nil]); first | done | rfl | (simp only [List.length_drop, List.length_take]; rfl)) ?_; (with_reducible refine (r09_Initial.calls kj3 a0_0 _ _ l0_1 _ _ l0_2 t115 _ (Kd.C_below HR0_1.out (tB)) HC0_1.out (Kd.C_below HR0_2.out (tB)) HC0_2.out A20.out).mono ?_); rintro e w31 ⟨v116, rfl, ho0, hb⟩; refine ⟨_, rfl, ?_⟩; replace HO107 := Aside0.mk (Kd.N_elder' (by (with_reducible repeat (first | apply Kd.N_alloc | apply Kd.N_drewN | apply Kd.N_drew)); exact (Kd.N_mono (Kd.N_far (p := ⟨gb113, 2, none⟩) (Kd.N_far (p := ⟨gb113, 1, none⟩) (Kd.N_far (p := ⟨gb113, 0, none⟩) (Kd.N_mono HO107.out (fun k_ hk => (⟨hk, hk.2⟩ : _ ∧ k_ ≠ gb113))) (fun _ hk => hk.2) (.slice Ao26 t105.length co26)) (fun _ hk => hk.2) (.slice Ao29 t108.length co29)) (fun _ hk => hk.2) (.bool t111)) (fun _ h_ => h_.1))) (Kd.R_base ho0) hb); replace HO110 := Aside0.mk (Kd.R_below (by (with_reducible repeat (first | apply Kd.R_alloc | apply Kd.R_drewN | apply Kd.R_drew)); exact (Kd.R_mono (Kd.R_far (p := ⟨gb113, 2, none⟩) (Kd.R_far (p := ⟨gb113, 1, none⟩) (Kd.R_far (p := ⟨gb113, 0, none⟩) (Kd.R_types HO110.out BK113.out (by decide)) (fun _ hk => hk.2) (.slice Ao26 t105.length co26)) (fun _ hk => hk.2) (.slice Ao29 t108.length co29)) (fun _ hk => hk.2) (.bool t111)) (fun _ h_ => h_.1))) hb); have HO117 := Aside0.mk (Kd.R_lower ho0 (below_size (tB))); replace BK101 := Aside0.mk (blk_below (g := gb101) (o := .cells #[.string a0_0, .slice A0_1 l0_1.length c0_1, .slice A0_2 l0_2.length c0_2] 39 (0, 0)) (by (with_reducible repeat (first | refine blk_drewN ?_ _ | refine blk_drew ?_ | refine blk_alloc ?_ _)); refine blk_far ?_ NB101_113.out _; (with_reducible repeat (first | refine blk_drewN ?_ _ | refine blk_drew ?_ | refine blk_alloc ?_ _)); refine blk_far ?_ NB101_113.out _; (with_reducible repeat (first | refine blk_drewN ?_ _ | refine blk_drew ?_ | refine blk_alloc ?_ _)); refine blk_far ?_ NB101_113.out _; (with_reducible repeat (first | refine blk_drewN ?_ _ | refine blk_drew ?_ | refine blk_alloc ?_ _)); exact BK101.out) hb); replace BK113 := Aside0.mk (blk_below (g := gb113) (o := .cells #[.slice Ao26 t105.length co26, .slice Ao29 t108.length co29, .bool t111] 25 (0, 0)) (by (with_reducible repeat (first | refine blk_drewN ?_ _ | refine blk_drew ?_ | refine blk_alloc ?_ _)); refine blk_put (cs := #[.slice Ao26 t105.length co26, .slice Ao29 t108.length co29, .bool false]) ?_ 2 _ rfl; (with_reducible repeat (first | refine blk_drewN ?_ _ | refine blk_drew ?_ | refine blk_alloc ?_ _)); refine blk_put (cs := #[.slice Ao26 t105.length co26, .slice none 0 0, .bool false]) ?_ 1 _ rfl; (with_reducible repeat (first | refine blk_drewN ?_ _ | refine blk_drew ?_ | refine blk_alloc ?_ _)); refine blk_put (cs := #[.slice none 0 0, .slice none 0 0, .bool false]) ?_ 0 _ rfl; (with_reducible repeat (first | refine blk_drewN ?_ _ | refine blk_drew ?_ | refine blk_alloc ?_ _)); exact BK113.out) hb); replace HB := tA HB hb; (try clear hb); (try clear hb2); (try clear hk); (try clear hi); (try clear ho0); obtain ⟨hcz32_0, hcz32_1, hcz32_2, hfz32_0, hfz32_1, hfz32_2⟩ := zc3 BK113) | ((with_reducible refine gate_callee (f := 18) rfl ?_); refine goesL_ (some 40) rfl rfl Try.func18 (by kernel_rfl) rfl #[.agg #[.slice Ao26 t105.length co26, .slice Ao29 t108.length co29, .bool t111], .int .i64 a1] rfl (by (try simp only [List.map_toArray, List.map_cons, List.map_nil]); first | done | rfl | (simp only [List.length_drop, List.length_take]; rfl)) ?_; (with_reducible refine (witness_To.calls kj3 _ _ t105 _ _ t108 t111 a1 t118 t121 _ (tC (Kd.N_reads' HO107.out).2.2) ((Kd.N_reads' HO107.out).2.1) (tC (Kd.R_reads' HO110.out).2.2) ((Kd.R_reads' HO110.out).2.1) A21.out).mono ?_); rintro e w33 ⟨v119, rfl, ho0, hb⟩; refine ⟨_, rfl, ?_⟩; replace HO107 := Aside0.mk (Kd.N_elder' (tR HO107) (Kd.R_base ho0) hb); replace HO110 := Aside0.mk (Kd.R_below (tR HO110) hb); have HO120 := Aside0.mk (Kd.R_lower (Kd.R_new' ho0 (Kd.R_lt (tR HO117))) (below_size (tB))); replace HO117 := Aside0.mk (Kd.R_elder' (tR HO117) (Kd.R_base ho0) hb); replace BK101 := tL BK101 hb; replace BK113 := tL BK113 hb; replace HB := tA HB hb; (try clear hb); (try clear hb2); (try clear hk); (try clear hi); (try clear ho0)))
    (try simp only [Act.put, List.setIfInBounds_toArray, List.set_cons_zero, List.set_cons_succ])
    go_cut [53] (fun v53 wc => ∃ (kq : Nat) (x53_21 : Bool), v53 = .bool x53_21 ∧ Aside0 (l16_WitnessRuns.j1 kq a1 a2 t115 t118 t121 x53_21 a0_0 l0_1 l0_2 t105 t108 t111 = some r) ∧ Aside0 (kq ≤ kj3) ∧ Aside0 (Kd.R (Kd.int .i64) 3 wc w.heap.size (fun k_ => some k_ ≠ (v119 : Value).ownBlock) v116 t115) ∧ Aside0 (Kd.R (Kd.int .i64) 3 wc w.heap.size (fun k_ => some k_ ≠ (v116 : Value).ownBlock) v119 t118) ∧ Aside0 (Kd.N (Kd.slice 3 (Kd.int .i64)) 28 wc w.heap.size (fun k_ => some k_ ≠ (v116 : Value).ownBlock ∧ some k_ ≠ (v119 : Value).ownBlock ∧ some k_ ≠ ((.slice Ao29 t108.length co29) : Value).ownBlock ∧ k_ ≠ gb101 ∧ k_ ≠ gb113) (.slice Ao26 t105.length co26) t105) ∧ Aside0 (Kd.R k80 80 wc w.heap.size (fun _ => True) (.slice Ao29 t108.length co29) t108) ∧ Aside0 (wc.heap[gb101]? = some (.cells #[.string a0_0, (.slice A0_1 l0_1.length c0_1), (.slice A0_2 l0_2.length c0_2)] 39 (0, 0))) ∧ Aside0 (wc.heap[gb113]? = some (.cells #[(.slice Ao26 t105.length co26), (.slice Ao29 t108.length co29), .bool t111] 25 (0, 0))) ∧ Aside0 (Below w.heap.size w wc))
    case first =>
     have H := HC22.out
     clear HC22
     by_cases c34 : a1 ≥ 0
     ·rw [if_pos c34] at H
      have c34b0 := tdGe c34
      clear c34
      (first | rw [c34b0] | (simp only [i64_w, i32_w]; rw [c34b0]) | skip)
      have H' := Aside0.mk H
      clear H
      have hnb35 := NB113_101.out
      have hnc35 := NB101_113.out
      obtain ⟨hcz36_0, hcz36_1, hcz36_2, hfz36_0, hfz36_1, hfz36_2⟩ := zc3 BK113
      go_wp2
      go_meet
      case rel => exact ⟨_, ((t121 != (decide (a1 < (t105.length : Int))))), tU, H', ⟨by have := HJ3.out; first | omega | exact Nat.le_refl _⟩, ⟨by (with_reducible repeat (first | apply Kd.R_alloc | apply Kd.R_drewN | apply Kd.R_drew)); exact Kd.R_mono HO117.out (fun _ hk => hk.2)⟩, ⟨by (with_reducible repeat (first | apply Kd.R_alloc | apply Kd.R_drewN | apply Kd.R_drew)); exact Kd.R_mono HO120.out (fun _ hk => hk.2)⟩, ⟨by (with_reducible repeat (first | apply Kd.N_alloc | apply Kd.N_drewN | apply Kd.N_drew)); exact Kd.N_mono HO107.out (fun _ hk => ⟨hk.1.2, ⟨hk.2, ⟨hk.1.1.1.1, ⟨hk.1.1.1.2, hk.1.1.2⟩⟩⟩⟩)⟩, ⟨tR HO110⟩, ⟨tK BK101⟩, ⟨tK BK113⟩, ⟨tB⟩⟩
     rw [if_neg c34] at H
     have c34b0 := tdHe c34
     clear c34
     (first | rw [c34b0] | (simp only [i64_w, i32_w]; rw [c34b0]) | skip)
     have H' := Aside0.mk H
     clear H
     go_wp2
     go_meet
     case rel => exact ⟨_, ((t121 != false)), tU, H', ⟨by have := HJ3.out; first | omega | exact Nat.le_refl _⟩, ⟨by (with_reducible repeat (first | apply Kd.R_alloc | apply Kd.R_drewN | apply Kd.R_drew)); exact Kd.R_mono HO117.out (fun _ hk => hk.2)⟩, ⟨by (with_reducible repeat (first | apply Kd.R_alloc | apply Kd.R_drewN | apply Kd.R_drew)); exact Kd.R_mono HO120.out (fun _ hk => hk.2)⟩, ⟨by (with_reducible repeat (first | apply Kd.N_alloc | apply Kd.N_drewN | apply Kd.N_drew)); exact Kd.N_mono HO107.out (fun _ hk => ⟨hk.1.2, ⟨hk.2, ⟨hk.1.1.1.1, ⟨hk.1.1.1.2, hk.1.1.2⟩⟩⟩⟩)⟩, ⟨tR HO110⟩, ⟨tK BK101⟩, ⟨tK BK113⟩, ⟨tB⟩⟩
    case rest =>
     clear HC22
     (try clear c1); (try clear c2); (try clear p2); (try clear c3); (try clear c5); (try clear c7); (try clear c10); (try clear c15); (try clear c18); (try clear c19); (try clear c19b0); (try clear c19b1); (try clear c21); (try clear c22); (try clear c27); (try clear c34); (try clear c34b0); (try clear c35); (try clear hcz11_0 hcz11_1 hcz11_2 hfz11_0 hfz11_1 hfz11_2); (try clear hcz13_0 hcz13_1 hcz13_2 hfz13_0 hfz13_1 hfz13_2); (try clear hcz23_0 hcz23_1 hcz23_2 hfz23_0 hfz23_1 hfz23_2); (try clear hcz28_0 hcz28_1 hcz28_2 hfz28_0 hfz28_1 hfz28_2); (try clear hcz30_0 hcz30_1 hcz30_2 hfz30_0 hfz30_1 hfz30_2); (try clear hcz32_0 hcz32_1 hcz32_2 hfz32_0 hfz32_1 hfz32_2); (try clear hcz36_0 hcz36_1 hcz36_2 hfz36_0 hfz36_1 hfz36_2); (try clear hcz9_0 hcz9_1 hcz9_2 hfz9_0 hfz9_1 hfz9_2)
     obtain ⟨kq, x53_21, rfl, HA, HJ21, HO_9, HO_10, HO_114000, HO_114001, BK101, BK113, HB⟩ := hcut
     cases kq with
     | zero => exact absurd HA.out (by simp [l16_WitnessRuns.j1])
     | succ kj21 =>
      have H := HA.out
      clear HA
      simp only [l16_WitnessRuns.j1] at H
      by_cases c37 : x53_21 = true
      ·subst c37
       rw [if_pos rfl] at H
       obtain rfl := Option.some.inj H
       go_wp2
       go_ret
       exact ⟨tE, tB⟩
      replace c37 := Bool.eq_false_iff.mpr c37
      subst c37
      rw [if_neg (show ¬ (false = true) by decide)] at H
      have HC38 := Aside0.mk H
      clear H
      go_upto_if 54 with (fail)
      go_cut [] (fun wc => ∃ (kq : Nat), Aside0 (l16_WitnessRuns.j2 kq a2 t115 a0_0 l0_1 l0_2 t105 t108 t111 = some r) ∧ Aside0 (kq ≤ kj21) ∧ Aside0 (Kd.R (Kd.int .i64) 3 wc w.heap.size (fun _ => True) v116 t115) ∧ Aside0 (Kd.N (Kd.slice 3 (Kd.int .i64)) 28 wc w.heap.size (fun k_ => some k_ ≠ (v116 : Value).ownBlock ∧ some k_ ≠ ((.slice Ao29 t108.length co29) : Value).ownBlock ∧ k_ ≠ gb101 ∧ k_ ≠ gb113) (.slice Ao26 t105.length co26) t105) ∧ Aside0 (Kd.R k80 80 wc w.heap.size (fun _ => True) (.slice Ao29 t108.length co29) t108) ∧ Aside0 (wc.heap[gb101]? = some (.cells #[.string a0_0, (.slice A0_1 l0_1.length c0_1), (.slice A0_2 l0_2.length c0_2)] 39 (0, 0))) ∧ Aside0 (wc.heap[gb113]? = some (.cells #[(.slice Ao26 t105.length co26), (.slice Ao29 t108.length co29), .bool t111] 25 (0, 0))) ∧ Aside0 (Below w.heap.size w wc))
      case first =>
       have H := HC38.out
       clear HC38
       by_cases c39 : t121 = true
       ·subst c39
        rw [if_pos rfl] at H
        replace H := Option.bind_eq_some_iff.mp H
        obtain ⟨⟨t122, t125, t126⟩, A400, H⟩ := H
        (try dsimp only at H)
        have A40 := Aside0.mk A400
        clear A400
        by_cases c41 : (!(t125 == 0) || (!(t126 == 0))) = true
        ·rw [if_pos c41] at H
         have c41b0 : (!(t125 == 0) || (!(t126 == 0))) = true := c41
         clear c41
         (first | rw [c41b0] | (simp only [i64_w, i32_w]; rw [c41b0]) | skip)
         obtain rfl := Option.some.inj H
         have hnb42 := NB101_113.out
         have hnc42 := NB113_101.out
         obtain ⟨hcz43_0, hcz43_1, hcz43_2, hfz43_0, hfz43_1, hfz43_2⟩ := zc3 BK101
         obtain ⟨Ao44, co44, eo44⟩ := Kd.R_slice HO_9.out
         subst eo44
         obtain ⟨Ao45, co45, eo45⟩ := Kd.R_slice HO_10.out
         subst eo45
         go_wp2_with (first | ((with_reducible refine gate_callee (f := 23) rfl ?_); refine goesL_ (some 59) rfl rfl Try.func23 (by kernel_rfl) rfl #[.agg #[.string a0_0, .slice A0_1 l0_1.length c0_1, .slice A0_2 l0_2.length c0_2], .slice Ao44 t115.length co44, .slice Ao45 t118.length co45] rfl (by (try simp only [List.map_toArray, List.map_cons, List.map_nil]); first | done | rfl | (simp only [List.length_drop, List.length_take]; rfl)) ?_; (with_reducible refine (r11_Run.calls kj21 a0_0 _ _ l0_1 _ _ l0_2 _ _ t115 _ _ t118 t122 t125 t126 _ (tG HR0_1 HB) HC0_1.out (tG HR0_2 HB) HC0_2.out (tC (Kd.R_reads' HO_9.out).2.2) ((Kd.R_reads' HO_9.out).2.1) (tC (Kd.R_reads' HO_10.out).2.2) ((Kd.R_reads' HO_10.out).2.1) A40.out).mono ?_); rintro e w46 ⟨v123, rfl, ho0, hb⟩; refine ⟨_, rfl, ?_⟩; replace HO_114000 := Aside0.mk (Kd.N_elder' (tR HO_114000) (Kd.R_base ho0) hb); replace HO_114001 := Aside0.mk (Kd.R_below (tR HO_114001) hb); have HO124 := Aside0.mk (Kd.R_lower (Kd.R_new' (Kd.R_new' ho0 (Kd.R_lt (tR HO_9))) (Kd.R_lt (tR HO_10))) (below_size (tB))); replace HO_9 := Aside0.mk (Kd.R_elder' (tR HO_9) (Kd.R_base ho0) hb); replace HO_10 := Aside0.mk (Kd.R_elder' (tR HO_10) (Kd.R_base ho0) hb); replace BK101 := tL BK101 hb; replace BK113 := tL BK113 hb; replace HB := tA HB hb; (try clear hb); (try clear hb2); (try clear hk); (try clear hi); (try clear ho0)) | ((with_reducible refine gate_dst (N := 13) rfl ?_); (try (refine gate_guard (by rfl) ?_; dsimp only)); refine tBx 13 46 #[.int .i64 0, .int .i64 0] ?_; intro gb127 hg w47 hbox hb; replace HO_9 := Aside0.mk (Kd.R_below (tR HO_9) hb); replace HO_10 := Aside0.mk (Kd.R_below (tR HO_10) hb); replace HO_114000 := Aside0.mk (Kd.N_below (Kd.N_elderB (tR HO_114000) gb127 (Nat.le_of_eq hg.symm)) hb); replace HO_114001 := Aside0.mk (Kd.R_below (tR HO_114001) hb); replace HO124 := Aside0.mk (Kd.R_below (tR HO124) hb); have BK127 := Aside0.mk (hbox); have GW127 := tW HB hg; have GE127 := tW HB hg; replace HB := tA HB hb; have NB101_127 := tNl BK101 hg; have NB127_101 := tNg BK101 hg; replace BK101 := tL BK101 hb; have NB113_127 := tNl BK113 hg; have NB127_113 := tNg BK113 hg; replace BK113 := tL BK113 hb; clear hb hbox hg; have hnb48 := NB127_101.out; have hnc48 := NB101_127.out; have hnb49 := NB127_113.out; have hnc49 := NB113_127.out; obtain ⟨hcz50_0, hcz50_1, hfz50_0, hfz50_1⟩ := zc2 BK127))
         go_ret
         exact ⟨tE, tB⟩
        rw [if_neg c41] at H
        have c41b0 : (!(t125 == 0) || (!(t126 == 0))) = false := by simpa using c41
        clear c41
        (first | rw [c41b0] | (simp only [i64_w, i32_w]; rw [c41b0]) | skip)
        replace H := tF H
        obtain ⟨c51, H⟩ := H
        have c51b0 := decide_eq_true c51
        clear c51
        replace H := tF H
        obtain ⟨c52, H⟩ := H
        have c52b0 := decide_eq_true c52
        clear c52
        replace H := Option.bind_eq_some_iff.mp H
        obtain ⟨t129, A530, H⟩ := H
        (try dsimp only at H)
        have A53 := Aside0.mk A530
        clear A530
        by_cases c54 : t129 = true
        ·subst c54
         rw [if_pos rfl] at H
         have H' := Aside0.mk H
         clear H
         have hnb55 := NB101_113.out
         have hnc55 := NB113_101.out
         obtain ⟨hcz56_0, hcz56_1, hcz56_2, hfz56_0, hfz56_1, hfz56_2⟩ := zc3 BK101
         obtain ⟨Ao57, co57, eo57⟩ := Kd.R_slice HO_9.out
         subst eo57
         obtain ⟨Ao58, co58, eo58⟩ := Kd.R_slice HO_10.out
         subst eo58
         go_wp2_with (first | ((with_reducible refine gate_callee (f := 23) rfl ?_); refine goesL_ (some 59) rfl rfl Try.func23 (by kernel_rfl) rfl #[.agg #[.string a0_0, .slice A0_1 l0_1.length c0_1, .slice A0_2 l0_2.length c0_2], .slice Ao57 t115.length co57, .slice Ao58 t118.length co58] rfl (by (try simp only [List.map_toArray, List.map_cons, List.map_nil]); first | done | rfl | (simp only [List.length_drop, List.length_take]; rfl)) ?_; (with_reducible refine (r11_Run.calls kj21 a0_0 _ _ l0_1 _ _ l0_2 _ _ t115 _ _ t118 t122 t125 t126 _ (tG HR0_1 HB) HC0_1.out (tG HR0_2 HB) HC0_2.out (tC (Kd.R_reads' HO_9.out).2.2) ((Kd.R_reads' HO_9.out).2.1) (tC (Kd.R_reads' HO_10.out).2.2) ((Kd.R_reads' HO_10.out).2.1) A40.out).mono ?_); rintro e w59 ⟨v123, rfl, ho0, hb⟩; refine ⟨_, rfl, ?_⟩; replace HO_114000 := Aside0.mk (Kd.N_elder' (tR HO_114000) (Kd.R_base ho0) hb); replace HO_114001 := Aside0.mk (Kd.R_below (tR HO_114001) hb); have HO124 := Aside0.mk (Kd.R_lower (Kd.R_new' (Kd.R_new' ho0 (Kd.R_lt (tR HO_9))) (Kd.R_lt (tR HO_10))) (below_size (tB))); replace HO_9 := Aside0.mk (Kd.R_elder' (tR HO_9) (Kd.R_base ho0) hb); replace HO_10 := Aside0.mk (Kd.R_elder' (tR HO_10) (Kd.R_base ho0) hb); replace BK101 := tL BK101 hb; replace BK113 := tL BK113 hb; replace HB := tA HB hb; (try clear hb); (try clear hb2); (try clear hk); (try clear hi); (try clear ho0)) | ((with_reducible refine gate_dst (N := 13) rfl ?_); (try (refine gate_guard (by rfl) ?_; dsimp only)); refine tBx 13 46 #[.int .i64 0, .int .i64 0] ?_; intro gb127 hg w60 hbox hb; replace HO_9 := Aside0.mk (Kd.R_below (tR HO_9) hb); replace HO_10 := Aside0.mk (Kd.R_below (tR HO_10) hb); replace HO_114000 := Aside0.mk (Kd.N_below (Kd.N_elderB (tR HO_114000) gb127 (Nat.le_of_eq hg.symm)) hb); replace HO_114001 := Aside0.mk (Kd.R_below (tR HO_114001) hb); replace HO124 := Aside0.mk (Kd.R_below (tR HO124) hb); have BK127 := Aside0.mk (hbox); have GW127 := tW HB hg; have GE127 := tW HB hg; replace HB := tA HB hb; have NB101_127 := tNl BK101 hg; have NB127_101 := tNg BK101 hg; replace BK101 := tL BK101 hb; have NB113_127 := tNl BK113 hg; have NB127_113 := tNg BK113 hg; replace BK113 := tL BK113 hb; clear hb hbox hg; have hnb61 := NB127_101.out; have hnc61 := NB101_127.out; have hnb62 := NB127_113.out; have hnc62 := NB113_127.out; obtain ⟨hcz63_0, hcz63_1, hfz63_0, hfz63_1⟩ := zc2 BK127) | ((with_reducible refine gate_store (t := 46) (p := 13) rfl ?_); refine store_event (t := 46) (p := 13) (v := ?vo_w64) (w1 := ((w60.setCell ⟨gb127, 0, none⟩ (.int .i64 t125)).setCell ⟨gb127, 1, none⟩ (.int .i64 t126))) ?hg ?ho ?hn ?hr ?_; (case ho => rfl); (case hg => rfl); (case hn => rfl); (case hr => first | (go_simp; done) | (go_simp; rfl)); intro w64 hw; have n0_ : Aside0 (Kd.R (Kd.int .i64) 3 w64 w.heap.size (fun k_ => some k_ ≠ (.slice Ao58 t118.length co58 : Value).ownBlock ∧ some k_ ≠ (v123 : Value).ownBlock) (.slice Ao57 t115.length co57) t115) := ⟨(by rw [hw]; exact (by (with_reducible repeat (first | apply Kd.R_alloc | apply Kd.R_drewN | apply Kd.R_drew)); exact Kd.R_mono (Kd.R_far (p := ⟨gb127, 1, none⟩) (Kd.R_far (p := ⟨gb127, 0, none⟩) (Kd.R_types HO_9.out BK127.out (by decide)) (fun _ hk => hk.2) (.int .i64 t125)) (fun _ hk => hk.2) (.int .i64 t126)) (fun _ hk => ⟨hk.1.1, hk.1.2⟩)))⟩; have n1_ : Aside0 (Kd.R (Kd.int .i64) 3 w64 w.heap.size (fun k_ => some k_ ≠ (.slice Ao57 t115.length co57 : Value).ownBlock ∧ some k_ ≠ (v123 : Value).ownBlock) (.slice Ao58 t118.length co58) t118) := ⟨(by rw [hw]; exact (by (with_reducible repeat (first | apply Kd.R_alloc | apply Kd.R_drewN | apply Kd.R_drew)); exact Kd.R_mono (Kd.R_far (p := ⟨gb127, 1, none⟩) (Kd.R_far (p := ⟨gb127, 0, none⟩) (Kd.R_types HO_10.out BK127.out (by decide)) (fun _ hk => hk.2) (.int .i64 t125)) (fun _ hk => hk.2) (.int .i64 t126)) (fun _ hk => ⟨hk.1.1, hk.1.2⟩)))⟩; have n2_ : Aside0 (Kd.N (Kd.slice 3 (Kd.int .i64)) 28 w64 w.heap.size (fun k_ => some k_ ≠ (.slice Ao57 t115.length co57 : Value).ownBlock ∧ some k_ ≠ (.slice Ao58 t118.length co58 : Value).ownBlock ∧ some k_ ≠ (.slice Ao29 t108.length co29 : Value).ownBlock ∧ some k_ ≠ (v123 : Value).ownBlock ∧ k_ ≠ gb101 ∧ k_ ≠ gb113 ∧ k_ ≠ gb127) (.slice Ao26 t105.length co26) t105) := ⟨(by rw [hw]; exact (by (with_reducible repeat (first | apply Kd.N_alloc | apply Kd.N_drewN | apply Kd.N_drew)); exact Kd.N_mono (Kd.N_far (p := ⟨gb127, 1, none⟩) (Kd.N_far (p := ⟨gb127, 0, none⟩) (Kd.N_mono HO_114000.out (fun k_ hk => (⟨hk, hk.2⟩ : _ ∧ k_ ≠ gb127))) (fun _ hk => hk.2) (.int .i64 t125)) (fun _ hk => hk.2) (.int .i64 t126)) (fun _ hk => ⟨hk.1.1.1.1, ⟨hk.1.1.1.2.1, ⟨hk.1.1.1.2.2.1, ⟨hk.1.1.2, ⟨hk.1.1.1.2.2.2.1, ⟨hk.1.1.1.2.2.2.2, hk.1.2⟩⟩⟩⟩⟩⟩)))⟩; have n3_ : Aside0 (Kd.R k80 80 w64 w.heap.size (fun _ => True) (.slice Ao29 t108.length co29) t108) := ⟨(by rw [hw]; exact (by (with_reducible repeat (first | apply Kd.R_alloc | apply Kd.R_drewN | apply Kd.R_drew)); exact Kd.R_mono (Kd.R_far (p := ⟨gb127, 1, none⟩) (Kd.R_far (p := ⟨gb127, 0, none⟩) (Kd.R_types HO_114001.out BK127.out (by decide)) (fun _ hk => hk.2) (.int .i64 t125)) (fun _ hk => hk.2) (.int .i64 t126)) (fun _ hk => trivial)))⟩; have n4_ : Aside0 (Kd.R (Kd.int .i64) 3 w64 w.heap.size (fun k_ => some k_ ≠ (.slice Ao57 t115.length co57 : Value).ownBlock ∧ some k_ ≠ (.slice Ao58 t118.length co58 : Value).ownBlock) v123 t122) := ⟨(by rw [hw]; exact (by (with_reducible repeat (first | apply Kd.R_alloc | apply Kd.R_drewN | apply Kd.R_drew)); exact Kd.R_mono (Kd.R_far (p := ⟨gb127, 1, none⟩) (Kd.R_far (p := ⟨gb127, 0, none⟩) (Kd.R_types HO124.out BK127.out (by decide)) (fun _ hk => hk.2) (.int .i64 t125)) (fun _ hk => hk.2) (.int .i64 t126)) (fun _ hk => ⟨hk.1.1.2, hk.1.2⟩)))⟩; have n5_ : Aside0 (w64.heap[gb101]? = some (.cells #[.string a0_0, .slice A0_1 l0_1.length c0_1, .slice A0_2 l0_2.length c0_2] 39 (0, 0))) := ⟨(by rw [hw]; exact (by (with_reducible repeat (first | refine blk_drewN ?_ _ | refine blk_drew ?_ | refine blk_alloc ?_ _)); refine blk_far ?_ NB101_127.out _; (with_reducible repeat (first | refine blk_drewN ?_ _ | refine blk_drew ?_ | refine blk_alloc ?_ _)); refine blk_far ?_ NB101_127.out _; (with_reducible repeat (first | refine blk_drewN ?_ _ | refine blk_drew ?_ | refine blk_alloc ?_ _)); exact BK101.out))⟩; have n6_ : Aside0 (w64.heap[gb113]? = some (.cells #[.slice Ao26 t105.length co26, .slice Ao29 t108.length co29, .bool t111] 25 (0, 0))) := ⟨(by rw [hw]; exact (by (with_reducible repeat (first | refine blk_drewN ?_ _ | refine blk_drew ?_ | refine blk_alloc ?_ _)); refine blk_far ?_ NB113_127.out _; (with_reducible repeat (first | refine blk_drewN ?_ _ | refine blk_drew ?_ | refine blk_alloc ?_ _)); refine blk_far ?_ NB113_127.out _; (with_reducible repeat (first | refine blk_drewN ?_ _ | refine blk_drew ?_ | refine blk_alloc ?_ _)); exact BK113.out))⟩; have n7_ : Aside0 (w64.heap[gb127]? = some (.cells #[.int .i64 t125, .int .i64 t126] 46 (0, 0))) := ⟨(by rw [hw]; exact (by (with_reducible repeat (first | refine blk_drewN ?_ _ | refine blk_drew ?_ | refine blk_alloc ?_ _)); refine blk_put (cs := #[.int .i64 t125, .int .i64 0]) ?_ 1 _ rfl; (with_reducible repeat (first | refine blk_drewN ?_ _ | refine blk_drew ?_ | refine blk_alloc ?_ _)); refine blk_put (cs := #[.int .i64 0, .int .i64 0]) ?_ 0 _ rfl; (with_reducible repeat (first | refine blk_drewN ?_ _ | refine blk_drew ?_ | refine blk_alloc ?_ _)); exact BK127.out))⟩; have n8_ : Aside0 (Below w.heap.size w w64) := ⟨(by rw [hw]; exact (tB))⟩; clear hw; clear HO_9; clear HO_10; clear HO_114000; clear HO_114001; clear HO124; clear BK101; clear BK113; clear BK127; clear HB; have HO_9 := n0_; have HO_10 := n1_; have HO_114000 := n2_; have HO_114001 := n3_; have HO124 := n4_; have BK101 := n5_; have BK113 := n6_; have BK127 := n7_; have HB := n8_; clear n0_ n1_ n2_ n3_ n4_ n5_ n6_ n7_ n8_; obtain ⟨hcz65_0, hcz65_1, hfz65_0, hfz65_1⟩ := zc2 BK127; obtain ⟨hcz66_0, hcz66_1, hcz66_2, hfz66_0, hfz66_1, hfz66_2⟩ := zc3 BK113; have p128 : 0 ≤ (a1 : Int) := tD; have q128 : a1 < (t105.length : Int) := tD; obtain ⟨ad128, A128_0, c128_0, e128, hx128_0, hl128_0, hi128_0⟩ := at_L3 (Kd.N_reads' HO_114000.out).2.2 a1 p128 q128; cases e128; obtain ⟨ce128, hce128, hMe128, hcc128⟩ := Kd.N_get HO_114000.out [] a1 p128 (by first | exact q128 | exact tD | (have e_ := (Kd.N_reads' HO_114000.out).1; omega)); obtain ⟨ua128_0, uc128_0, rfl, ul128_0, ge128_0⟩ := Kd.FK_slice_open hMe128; have hv128_0 := hcc128 0 _ rfl; rw [Nat.add_zero, show ((Kd.slice 3 (Kd.int .i64))).sz = 1 from rfl, Nat.mul_one] at hv128_0; replace hv128_0 := Option.some.inj (hv128_0.symm.trans hx128_0); injection hv128_0 with hva_ hvn_ hvc_; rw [hva_] at ge128_0; rw [hvc_] at ul128_0; have HL128_0 := Aside0.mk (show Kd.V (Kd.int .i64) 3 _ w.heap.size _ _ (rd_L3 t105 a1) from Kd.V_mk ul128_0 ge128_0); clear hva_ hvn_ hvc_ ge128_0 ul128_0; clear hcc128 hce128; have HR128_0 := Aside0.mk hi128_0; have HC128_0 := Aside0.mk hl128_0; clear hi128_0 hl128_0; replace p128 := eq_true p128; replace q128 := eq_true q128; obtain ⟨Ao67, co67, eo67⟩ := Kd.R_slice HO124.out; subst eo67) | (go_at_call 13; (with_reducible refine (r04_Same.calls kj21 _ _ t122 _ _ (rd_L3 t105 a1) true _ ?side1 ?side2 ?side3 ?side4 A53.out).mono ?_); (case side1 => exact tC (Kd.R_reads' HO124.out).2.2); (case side2 => exact (Kd.R_reads' HO124.out).2.1); (case side3 => repeat (first | exact (by repeat (first | (with_reducible exact HR128_0.out) | (with_reducible refine Kd.C_alloc ?_ _) | (with_reducible refine Kd.C_drewN ?_ _) | (with_reducible refine Kd.C_drew ?_) | exact HR128_0.out)) | (with_reducible refine Kd.C_alloc ?_ _) | (with_reducible refine Kd.C_drewN ?_ _) | (with_reducible refine Kd.C_drew ?_))); (case side4 => exact HC128_0.out); rintro e w' ⟨rfl, ⟨nd, rfl⟩⟩))
         go_meet
         case rel => exact ⟨_, H', ⟨by have := HJ3.out; have := HJ21.out; first | omega | exact Nat.le_refl _⟩, ⟨by (with_reducible repeat (first | apply Kd.R_alloc | apply Kd.R_drewN | apply Kd.R_drew)); exact Kd.R_mono HO_9.out (fun _ hk => trivial)⟩, ⟨by (with_reducible repeat (first | apply Kd.N_alloc | apply Kd.N_drewN | apply Kd.N_drew)); exact Kd.N_mono HO_114000.out (fun _ hk => ⟨hk.1, ⟨hk.2.2.1, ⟨hk.2.2.2.2.1, hk.2.2.2.2.2.1⟩⟩⟩)⟩, ⟨tR HO_114001⟩, ⟨tK BK101⟩, ⟨tK BK113⟩, ⟨tB⟩⟩
        replace c54 := Bool.eq_false_iff.mpr c54
        subst c54
        rw [if_neg (show ¬ (false = true) by decide)] at H
        obtain rfl := Option.some.inj H
        have hnb68 := NB101_113.out
        have hnc68 := NB113_101.out
        obtain ⟨hcz69_0, hcz69_1, hcz69_2, hfz69_0, hfz69_1, hfz69_2⟩ := zc3 BK101
        obtain ⟨Ao70, co70, eo70⟩ := Kd.R_slice HO_9.out
        subst eo70
        obtain ⟨Ao71, co71, eo71⟩ := Kd.R_slice HO_10.out
        subst eo71
        go_wp2_with (first | ((with_reducible refine gate_callee (f := 23) rfl ?_); refine goesL_ (some 59) rfl rfl Try.func23 (by kernel_rfl) rfl #[.agg #[.string a0_0, .slice A0_1 l0_1.length c0_1, .slice A0_2 l0_2.length c0_2], .slice Ao70 t115.length co70, .slice Ao71 t118.length co71] rfl (by (try simp only [List.map_toArray, List.map_cons, List.map_nil]); first | done | rfl | (simp only [List.length_drop, List.length_take]; rfl)) ?_; (with_reducible refine (r11_Run.calls kj21 a0_0 _ _ l0_1 _ _ l0_2 _ _ t115 _ _ t118 t122 t125 t126 _ (tG HR0_1 HB) HC0_1.out (tG HR0_2 HB) HC0_2.out (tC (Kd.R_reads' HO_9.out).2.2) ((Kd.R_reads' HO_9.out).2.1) (tC (Kd.R_reads' HO_10.out).2.2) ((Kd.R_reads' HO_10.out).2.1) A40.out).mono ?_); rintro e w72 ⟨v123, rfl, ho0, hb⟩; refine ⟨_, rfl, ?_⟩; replace HO_114000 := Aside0.mk (Kd.N_elder' (tR HO_114000) (Kd.R_base ho0) hb); replace HO_114001 := Aside0.mk (Kd.R_below (tR HO_114001) hb); have HO124 := Aside0.mk (Kd.R_lower (Kd.R_new' (Kd.R_new' ho0 (Kd.R_lt (tR HO_9))) (Kd.R_lt (tR HO_10))) (below_size (tB))); replace HO_9 := Aside0.mk (Kd.R_elder' (tR HO_9) (Kd.R_base ho0) hb); replace HO_10 := Aside0.mk (Kd.R_elder' (tR HO_10) (Kd.R_base ho0) hb); replace BK101 := tL BK101 hb; replace BK113 := tL BK113 hb; replace HB := tA HB hb; (try clear hb); (try clear hb2); (try clear hk); (try clear hi); (try clear ho0)) | ((with_reducible refine gate_dst (N := 13) rfl ?_); (try (refine gate_guard (by rfl) ?_; dsimp only)); refine tBx 13 46 #[.int .i64 0, .int .i64 0] ?_; intro gb127 hg w73 hbox hb; replace HO_9 := Aside0.mk (Kd.R_below (tR HO_9) hb); replace HO_10 := Aside0.mk (Kd.R_below (tR HO_10) hb); replace HO_114000 := Aside0.mk (Kd.N_below (Kd.N_elderB (tR HO_114000) gb127 (Nat.le_of_eq hg.symm)) hb); replace HO_114001 := Aside0.mk (Kd.R_below (tR HO_114001) hb); replace HO124 := Aside0.mk (Kd.R_below (tR HO124) hb); have BK127 := Aside0.mk (hbox); have GW127 := tW HB hg; have GE127 := tW HB hg; replace HB := tA HB hb; have NB101_127 := tNl BK101 hg; have NB127_101 := tNg BK101 hg; replace BK101 := tL BK101 hb; have NB113_127 := tNl BK113 hg; have NB127_113 := tNg BK113 hg; replace BK113 := tL BK113 hb; clear hb hbox hg; have hnb74 := NB127_101.out; have hnc74 := NB101_127.out; have hnb75 := NB127_113.out; have hnc75 := NB113_127.out; obtain ⟨hcz76_0, hcz76_1, hfz76_0, hfz76_1⟩ := zc2 BK127) | ((with_reducible refine gate_store (t := 46) (p := 13) rfl ?_); refine store_event (t := 46) (p := 13) (v := ?vo_w77) (w1 := ((w73.setCell ⟨gb127, 0, none⟩ (.int .i64 t125)).setCell ⟨gb127, 1, none⟩ (.int .i64 t126))) ?hg ?ho ?hn ?hr ?_; (case ho => rfl); (case hg => rfl); (case hn => rfl); (case hr => first | (go_simp; done) | (go_simp; rfl)); intro w77 hw; have n0_ : Aside0 (Kd.R (Kd.int .i64) 3 w77 w.heap.size (fun k_ => some k_ ≠ (.slice Ao71 t118.length co71 : Value).ownBlock ∧ some k_ ≠ (v123 : Value).ownBlock) (.slice Ao70 t115.length co70) t115) := ⟨(by rw [hw]; exact (by (with_reducible repeat (first | apply Kd.R_alloc | apply Kd.R_drewN | apply Kd.R_drew)); exact Kd.R_mono (Kd.R_far (p := ⟨gb127, 1, none⟩) (Kd.R_far (p := ⟨gb127, 0, none⟩) (Kd.R_types HO_9.out BK127.out (by decide)) (fun _ hk => hk.2) (.int .i64 t125)) (fun _ hk => hk.2) (.int .i64 t126)) (fun _ hk => ⟨hk.1.1, hk.1.2⟩)))⟩; have n1_ : Aside0 (Kd.R (Kd.int .i64) 3 w77 w.heap.size (fun k_ => some k_ ≠ (.slice Ao70 t115.length co70 : Value).ownBlock ∧ some k_ ≠ (v123 : Value).ownBlock) (.slice Ao71 t118.length co71) t118) := ⟨(by rw [hw]; exact (by (with_reducible repeat (first | apply Kd.R_alloc | apply Kd.R_drewN | apply Kd.R_drew)); exact Kd.R_mono (Kd.R_far (p := ⟨gb127, 1, none⟩) (Kd.R_far (p := ⟨gb127, 0, none⟩) (Kd.R_types HO_10.out BK127.out (by decide)) (fun _ hk => hk.2) (.int .i64 t125)) (fun _ hk => hk.2) (.int .i64 t126)) (fun _ hk => ⟨hk.1.1, hk.1.2⟩)))⟩; have n2_ : Aside0 (Kd.N (Kd.slice 3 (Kd.int .i64)) 28 w77 w.heap.size (fun k_ => some k_ ≠ (.slice Ao70 t115.length co70 : Value).ownBlock ∧ some k_ ≠ (.slice Ao71 t118.length co71 : Value).ownBlock ∧ some k_ ≠ (.slice Ao29 t108.length co29 : Value).ownBlock ∧ some k_ ≠ (v123 : Value).ownBlock ∧ k_ ≠ gb101 ∧ k_ ≠ gb113 ∧ k_ ≠ gb127) (.slice Ao26 t105.length co26) t105) := ⟨(by rw [hw]; exact (by (with_reducible repeat (first | apply Kd.N_alloc | apply Kd.N_drewN | apply Kd.N_drew)); exact Kd.N_mono (Kd.N_far (p := ⟨gb127, 1, none⟩) (Kd.N_far (p := ⟨gb127, 0, none⟩) (Kd.N_mono HO_114000.out (fun k_ hk => (⟨hk, hk.2⟩ : _ ∧ k_ ≠ gb127))) (fun _ hk => hk.2) (.int .i64 t125)) (fun _ hk => hk.2) (.int .i64 t126)) (fun _ hk => ⟨hk.1.1.1.1, ⟨hk.1.1.1.2.1, ⟨hk.1.1.1.2.2.1, ⟨hk.1.1.2, ⟨hk.1.1.1.2.2.2.1, ⟨hk.1.1.1.2.2.2.2, hk.1.2⟩⟩⟩⟩⟩⟩)))⟩; have n3_ : Aside0 (Kd.R k80 80 w77 w.heap.size (fun _ => True) (.slice Ao29 t108.length co29) t108) := ⟨(by rw [hw]; exact (by (with_reducible repeat (first | apply Kd.R_alloc | apply Kd.R_drewN | apply Kd.R_drew)); exact Kd.R_mono (Kd.R_far (p := ⟨gb127, 1, none⟩) (Kd.R_far (p := ⟨gb127, 0, none⟩) (Kd.R_types HO_114001.out BK127.out (by decide)) (fun _ hk => hk.2) (.int .i64 t125)) (fun _ hk => hk.2) (.int .i64 t126)) (fun _ hk => trivial)))⟩; have n4_ : Aside0 (Kd.R (Kd.int .i64) 3 w77 w.heap.size (fun k_ => some k_ ≠ (.slice Ao70 t115.length co70 : Value).ownBlock ∧ some k_ ≠ (.slice Ao71 t118.length co71 : Value).ownBlock) v123 t122) := ⟨(by rw [hw]; exact (by (with_reducible repeat (first | apply Kd.R_alloc | apply Kd.R_drewN | apply Kd.R_drew)); exact Kd.R_mono (Kd.R_far (p := ⟨gb127, 1, none⟩) (Kd.R_far (p := ⟨gb127, 0, none⟩) (Kd.R_types HO124.out BK127.out (by decide)) (fun _ hk => hk.2) (.int .i64 t125)) (fun _ hk => hk.2) (.int .i64 t126)) (fun _ hk => ⟨hk.1.1.2, hk.1.2⟩)))⟩; have n5_ : Aside0 (w77.heap[gb101]? = some (.cells #[.string a0_0, .slice A0_1 l0_1.length c0_1, .slice A0_2 l0_2.length c0_2] 39 (0, 0))) := ⟨(by rw [hw]; exact (by (with_reducible repeat (first | refine blk_drewN ?_ _ | refine blk_drew ?_ | refine blk_alloc ?_ _)); refine blk_far ?_ NB101_127.out _; (with_reducible repeat (first | refine blk_drewN ?_ _ | refine blk_drew ?_ | refine blk_alloc ?_ _)); refine blk_far ?_ NB101_127.out _; (with_reducible repeat (first | refine blk_drewN ?_ _ | refine blk_drew ?_ | refine blk_alloc ?_ _)); exact BK101.out))⟩; have n6_ : Aside0 (w77.heap[gb113]? = some (.cells #[.slice Ao26 t105.length co26, .slice Ao29 t108.length co29, .bool t111] 25 (0, 0))) := ⟨(by rw [hw]; exact (by (with_reducible repeat (first | refine blk_drewN ?_ _ | refine blk_drew ?_ | refine blk_alloc ?_ _)); refine blk_far ?_ NB113_127.out _; (with_reducible repeat (first | refine blk_drewN ?_ _ | refine blk_drew ?_ | refine blk_alloc ?_ _)); refine blk_far ?_ NB113_127.out _; (with_reducible repeat (first | refine blk_drewN ?_ _ | refine blk_drew ?_ | refine blk_alloc ?_ _)); exact BK113.out))⟩; have n7_ : Aside0 (w77.heap[gb127]? = some (.cells #[.int .i64 t125, .int .i64 t126] 46 (0, 0))) := ⟨(by rw [hw]; exact (by (with_reducible repeat (first | refine blk_drewN ?_ _ | refine blk_drew ?_ | refine blk_alloc ?_ _)); refine blk_put (cs := #[.int .i64 t125, .int .i64 0]) ?_ 1 _ rfl; (with_reducible repeat (first | refine blk_drewN ?_ _ | refine blk_drew ?_ | refine blk_alloc ?_ _)); refine blk_put (cs := #[.int .i64 0, .int .i64 0]) ?_ 0 _ rfl; (with_reducible repeat (first | refine blk_drewN ?_ _ | refine blk_drew ?_ | refine blk_alloc ?_ _)); exact BK127.out))⟩; have n8_ : Aside0 (Below w.heap.size w w77) := ⟨(by rw [hw]; exact (tB))⟩; clear hw; clear HO_9; clear HO_10; clear HO_114000; clear HO_114001; clear HO124; clear BK101; clear BK113; clear BK127; clear HB; have HO_9 := n0_; have HO_10 := n1_; have HO_114000 := n2_; have HO_114001 := n3_; have HO124 := n4_; have BK101 := n5_; have BK113 := n6_; have BK127 := n7_; have HB := n8_; clear n0_ n1_ n2_ n3_ n4_ n5_ n6_ n7_ n8_; obtain ⟨hcz78_0, hcz78_1, hfz78_0, hfz78_1⟩ := zc2 BK127; obtain ⟨hcz79_0, hcz79_1, hcz79_2, hfz79_0, hfz79_1, hfz79_2⟩ := zc3 BK113; have p128 : 0 ≤ (a1 : Int) := tD; have q128 : a1 < (t105.length : Int) := tD; obtain ⟨ad128, A128_0, c128_0, e128, hx128_0, hl128_0, hi128_0⟩ := at_L3 (Kd.N_reads' HO_114000.out).2.2 a1 p128 q128; cases e128; obtain ⟨ce128, hce128, hMe128, hcc128⟩ := Kd.N_get HO_114000.out [] a1 p128 (by first | exact q128 | exact tD | (have e_ := (Kd.N_reads' HO_114000.out).1; omega)); obtain ⟨ua128_0, uc128_0, rfl, ul128_0, ge128_0⟩ := Kd.FK_slice_open hMe128; have hv128_0 := hcc128 0 _ rfl; rw [Nat.add_zero, show ((Kd.slice 3 (Kd.int .i64))).sz = 1 from rfl, Nat.mul_one] at hv128_0; replace hv128_0 := Option.some.inj (hv128_0.symm.trans hx128_0); injection hv128_0 with hva_ hvn_ hvc_; rw [hva_] at ge128_0; rw [hvc_] at ul128_0; have HL128_0 := Aside0.mk (show Kd.V (Kd.int .i64) 3 _ w.heap.size _ _ (rd_L3 t105 a1) from Kd.V_mk ul128_0 ge128_0); clear hva_ hvn_ hvc_ ge128_0 ul128_0; clear hcc128 hce128; have HR128_0 := Aside0.mk hi128_0; have HC128_0 := Aside0.mk hl128_0; clear hi128_0 hl128_0; replace p128 := eq_true p128; replace q128 := eq_true q128; obtain ⟨Ao80, co80, eo80⟩ := Kd.R_slice HO124.out; subst eo80) | (go_at_call 13; (with_reducible refine (r04_Same.calls kj21 _ _ t122 _ _ (rd_L3 t105 a1) false _ ?side1 ?side2 ?side3 ?side4 A53.out).mono ?_); (case side1 => exact tC (Kd.R_reads' HO124.out).2.2); (case side2 => exact (Kd.R_reads' HO124.out).2.1); (case side3 => repeat (first | exact (by repeat (first | (with_reducible exact HR128_0.out) | (with_reducible refine Kd.C_alloc ?_ _) | (with_reducible refine Kd.C_drewN ?_ _) | (with_reducible refine Kd.C_drew ?_) | exact HR128_0.out)) | (with_reducible refine Kd.C_alloc ?_ _) | (with_reducible refine Kd.C_drewN ?_ _) | (with_reducible refine Kd.C_drew ?_))); (case side4 => exact HC128_0.out); rintro e w' ⟨rfl, ⟨nd, rfl⟩⟩))
        go_ret
        exact ⟨tE, tB⟩
       replace c39 := Bool.eq_false_iff.mpr c39
       subst c39
       rw [if_neg (show ¬ (false = true) by decide)] at H
       have H' := Aside0.mk H
       clear H
       go_wp2
       go_meet
       case rel => exact ⟨_, H', ⟨by have := HJ3.out; have := HJ21.out; first | omega | exact Nat.le_refl _⟩, ⟨by (with_reducible repeat (first | apply Kd.R_alloc | apply Kd.R_drewN | apply Kd.R_drew)); exact Kd.R_mono HO_9.out (fun _ hk => trivial)⟩, ⟨by (with_reducible repeat (first | apply Kd.N_alloc | apply Kd.N_drewN | apply Kd.N_drew)); exact Kd.N_mono HO_114000.out (fun _ hk => ⟨hk.1, ⟨hk.2.2.1, ⟨hk.2.2.2.1, hk.2.2.2.2⟩⟩⟩)⟩, ⟨tR HO_114001⟩, ⟨tK BK101⟩, ⟨tK BK113⟩, ⟨tB⟩⟩
      case rest =>
       clear HC38
       (try clear c1); (try clear p1); (try clear q1); (try clear hx1); (try clear c2); (try clear p2); (try clear c3); (try clear c4); (try clear c5); (try clear c6); (try clear c7); (try clear c10); (try clear c12); (try clear p12); (try clear q12); (try clear hx12); (try clear c15); (try clear c18); (try clear c19); (try clear c19b0); (try clear c19b1); (try clear c21); (try clear c22); (try clear c23); (try clear c27); (try clear c34); (try clear c34b0); (try clear c35); (try clear c37); (try clear c39); (try clear c41); (try clear c41b0); (try clear c42); (try clear c48); (try clear c49); (try clear c51); (try clear c51b0); (try clear c52); (try clear c52b0); (try clear c54); (try clear c55); (try clear c61); (try clear c62); (try clear c68); (try clear c74); (try clear c75); (try clear hcz11_0 hcz11_1 hcz11_2 hfz11_0 hfz11_1 hfz11_2); (try clear hcz13_0 hcz13_1 hcz13_2 hfz13_0 hfz13_1 hfz13_2); (try clear hcz23_0 hcz23_1 hcz23_2 hfz23_0 hfz23_1 hfz23_2); (try clear hcz28_0 hcz28_1 hcz28_2 hfz28_0 hfz28_1 hfz28_2); (try clear hcz30_0 hcz30_1 hcz30_2 hfz30_0 hfz30_1 hfz30_2); (try clear hcz32_0 hcz32_1 hcz32_2 hfz32_0 hfz32_1 hfz32_2); (try clear hcz36_0 hcz36_1 hcz36_2 hfz36_0 hfz36_1 hfz36_2); (try clear hcz43_0 hcz43_1 hcz43_2 hfz43_0 hfz43_1 hfz43_2); (try clear hcz50_0 hcz50_1 hfz50_0 hfz50_1); (try clear hcz56_0 hcz56_1 hcz56_2 hfz56_0 hfz56_1 hfz56_2); (try clear hcz63_0 hcz63_1 hfz63_0 hfz63_1); (try clear hcz65_0 hcz65_1 hfz65_0 hfz65_1); (try clear hcz66_0 hcz66_1 hcz66_2 hfz66_0 hfz66_1 hfz66_2); (try clear hcz69_0 hcz69_1 hcz69_2 hfz69_0 hfz69_1 hfz69_2); (try clear hcz76_0 hcz76_1 hfz76_0 hfz76_1); (try clear hcz78_0 hcz78_1 hfz78_0 hfz78_1); (try clear hcz79_0 hcz79_1 hcz79_2 hfz79_0 hfz79_1 hfz79_2); (try clear hcz9_0 hcz9_1 hcz9_2 hfz9_0 hfz9_1 hfz9_2); (try clear hx128_0); (try clear p128); (try clear q128)
       obtain ⟨kq, HA, HJ37, HO_9, HO_114000, HO_114001, BK101, BK113, HB⟩ := hcut
       cases kq with
       | zero => exact absurd HA.out (by simp [l16_WitnessRuns.j2])
       | succ kj37 =>
        have H := HA.out
        clear HA
        simp only [l16_WitnessRuns.j2] at H
        replace H := Option.bind_eq_some_iff.mp H
        obtain ⟨⟨t130, t133⟩, A810, H⟩ := H
        (try dsimp only at H)
        have A81 := Aside0.mk A810
        clear A810
        have HC82 := Aside0.mk H
        clear H
        have hnb83 := NB113_101.out
        have hnc83 := NB101_113.out
        obtain ⟨hcz84_0, hcz84_1, hcz84_2, hfz84_0, hfz84_1, hfz84_2⟩ := zc3 BK113
        go_upto_region 15 with (first | ((with_reducible refine gate_callee (f := 11) rfl ?_); refine goesL_ (some 77) rfl rfl Try.func11 (by kernel_rfl) rfl #[.agg #[.slice Ao26 t105.length co26, .slice Ao29 t108.length co29, .bool t111]] rfl (by (try simp only [List.map_toArray, List.map_cons, List.map_nil]); first | done | rfl | (simp only [List.length_drop, List.length_take]; rfl)) ?_; (with_reducible refine (witness_Dead.calls kj37 _ _ t105 _ _ t108 t111 t130 t133 _ (tC (Kd.N_reads' HO_114000.out).2.2) ((Kd.N_reads' HO_114000.out).2.1) (tC (Kd.R_reads' HO_114001.out).2.2) ((Kd.R_reads' HO_114001.out).2.1) A81.out).mono ?_); rintro e w85 ⟨v131, rfl, ho0, hb⟩; refine ⟨_, rfl, ?_⟩; replace HO_114000 := Aside0.mk (Kd.N_elder' (tR HO_114000) (Kd.R_base ho0) hb); replace HO_114001 := Aside0.mk (Kd.R_below (tR HO_114001) hb); have HO132 := Aside0.mk (Kd.R_lower (Kd.R_new' ho0 (Kd.R_lt (tR HO_9))) (below_size (tB))); replace HO_9 := Aside0.mk (Kd.R_elder' (tR HO_9) (Kd.R_base ho0) hb); replace BK101 := tL BK101 hb; replace BK113 := tL BK113 hb; replace HB := tA HB hb; (try clear hb); (try clear hb2); (try clear hk); (try clear hi); (try clear ho0)))
        (try simp only [Act.put, List.setIfInBounds_toArray, List.set_cons_zero, List.set_cons_succ])
        go_cut [84] (fun v84 wc => ∃ (kq : Nat) (x84_81 : Bool), v84 = .bool x84_81 ∧ Aside0 (l16_WitnessRuns.j3 kq a2 t115 t130 x84_81 a0_0 l0_1 l0_2 t105 t108 t111 = some r) ∧ Aside0 (kq ≤ kj37) ∧ Aside0 (Kd.R (Kd.int .i64) 3 wc w.heap.size (fun k_ => some k_ ≠ (v131 : Value).ownBlock) v116 t115) ∧ Aside0 (Kd.R (Kd.int .i64) 3 wc w.heap.size (fun k_ => some k_ ≠ (v116 : Value).ownBlock) v131 t130) ∧ Aside0 (Kd.N (Kd.slice 3 (Kd.int .i64)) 28 wc w.heap.size (fun k_ => some k_ ≠ (v116 : Value).ownBlock ∧ some k_ ≠ (v131 : Value).ownBlock ∧ some k_ ≠ ((.slice Ao29 t108.length co29) : Value).ownBlock ∧ k_ ≠ gb101 ∧ k_ ≠ gb113) (.slice Ao26 t105.length co26) t105) ∧ Aside0 (Kd.R k80 80 wc w.heap.size (fun _ => True) (.slice Ao29 t108.length co29) t108) ∧ Aside0 (wc.heap[gb101]? = some (.cells #[.string a0_0, (.slice A0_1 l0_1.length c0_1), (.slice A0_2 l0_2.length c0_2)] 39 (0, 0))) ∧ Aside0 (wc.heap[gb113]? = some (.cells #[(.slice Ao26 t105.length co26), (.slice Ao29 t108.length co29), .bool t111] 25 (0, 0))) ∧ Aside0 (Below w.heap.size w wc))
        case first =>
         have H := HC82.out
         clear HC82
         by_cases c86 : t133 = true
         ·subst c86
          rw [if_pos rfl] at H
          have H' := Aside0.mk H
          clear H
          have hnb87 := NB113_101.out
          have hnc87 := NB101_113.out
          obtain ⟨hcz88_0, hcz88_1, hcz88_2, hfz88_0, hfz88_1, hfz88_2⟩ := zc3 BK113
          go_wp2
          go_meet
          case rel => exact ⟨_, (t111), tU, H', ⟨by have := HJ3.out; have := HJ21.out; have := HJ37.out; first | omega | exact Nat.le_refl _⟩, ⟨by (with_reducible repeat (first | apply Kd.R_alloc | apply Kd.R_drewN | apply Kd.R_drew)); exact Kd.R_mono HO_9.out (fun _ hk => hk.2)⟩, ⟨by (with_reducible repeat (first | apply Kd.R_alloc | apply Kd.R_drewN | apply Kd.R_drew)); exact Kd.R_mono HO132.out (fun _ hk => hk.2)⟩, ⟨by (with_reducible repeat (first | apply Kd.N_alloc | apply Kd.N_drewN | apply Kd.N_drew)); exact Kd.N_mono HO_114000.out (fun _ hk => ⟨hk.1.1, ⟨hk.2, ⟨hk.1.2.1, ⟨hk.1.2.2.1, hk.1.2.2.2⟩⟩⟩⟩)⟩, ⟨tR HO_114001⟩, ⟨tK BK101⟩, ⟨tK BK113⟩, ⟨tB⟩⟩
         replace c86 := Bool.eq_false_iff.mpr c86
         subst c86
         rw [if_neg (show ¬ (false = true) by decide)] at H
         have H' := Aside0.mk H
         clear H
         go_wp2
         go_meet
         case rel => exact ⟨_, (false), tU, H', ⟨by have := HJ3.out; have := HJ21.out; have := HJ37.out; first | omega | exact Nat.le_refl _⟩, ⟨by (with_reducible repeat (first | apply Kd.R_alloc | apply Kd.R_drewN | apply Kd.R_drew)); exact Kd.R_mono HO_9.out (fun _ hk => hk.2)⟩, ⟨by (with_reducible repeat (first | apply Kd.R_alloc | apply Kd.R_drewN | apply Kd.R_drew)); exact Kd.R_mono HO132.out (fun _ hk => hk.2)⟩, ⟨by (with_reducible repeat (first | apply Kd.N_alloc | apply Kd.N_drewN | apply Kd.N_drew)); exact Kd.N_mono HO_114000.out (fun _ hk => ⟨hk.1.1, ⟨hk.2, ⟨hk.1.2.1, ⟨hk.1.2.2.1, hk.1.2.2.2⟩⟩⟩⟩)⟩, ⟨tR HO_114001⟩, ⟨tK BK101⟩, ⟨tK BK113⟩, ⟨tB⟩⟩
        case rest =>
         clear HC82
         (try clear c1); (try clear p1); (try clear q1); (try clear hx1); (try clear c2); (try clear p2); (try clear c3); (try clear c4); (try clear c5); (try clear c6); (try clear c7); (try clear c8); (try clear c10); (try clear c11); (try clear c12); (try clear p12); (try clear q12); (try clear hx12); (try clear c15); (try clear c18); (try clear c19); (try clear c19b0); (try clear c19b1); (try clear c21); (try clear c22); (try clear c23); (try clear c27); (try clear c34); (try clear c34b0); (try clear c35); (try clear c37); (try clear c39); (try clear c41); (try clear c41b0); (try clear c42); (try clear c48); (try clear c49); (try clear c51); (try clear c51b0); (try clear c52); (try clear c52b0); (try clear c54); (try clear c55); (try clear c61); (try clear c62); (try clear c68); (try clear c74); (try clear c75); (try clear c83); (try clear c86); (try clear c87); (try clear hcz11_0 hcz11_1 hcz11_2 hfz11_0 hfz11_1 hfz11_2); (try clear hcz13_0 hcz13_1 hcz13_2 hfz13_0 hfz13_1 hfz13_2); (try clear hcz23_0 hcz23_1 hcz23_2 hfz23_0 hfz23_1 hfz23_2); (try clear hcz28_0 hcz28_1 hcz28_2 hfz28_0 hfz28_1 hfz28_2); (try clear hcz30_0 hcz30_1 hcz30_2 hfz30_0 hfz30_1 hfz30_2); (try clear hcz32_0 hcz32_1 hcz32_2 hfz32_0 hfz32_1 hfz32_2); (try clear hcz36_0 hcz36_1 hcz36_2 hfz36_0 hfz36_1 hfz36_2); (try clear hcz43_0 hcz43_1 hcz43_2 hfz43_0 hfz43_1 hfz43_2); (try clear hcz50_0 hcz50_1 hfz50_0 hfz50_1); (try clear hcz56_0 hcz56_1 hcz56_2 hfz56_0 hfz56_1 hfz56_2); (try clear hcz63_0 hcz63_1 hfz63_0 hfz63_1); (try clear hcz65_0 hcz65_1 hfz65_0 hfz65_1); (try clear hcz66_0 hcz66_1 hcz66_2 hfz66_0 hfz66_1 hfz66_2); (try clear hcz69_0 hcz69_1 hcz69_2 hfz69_0 hfz69_1 hfz69_2); (try clear hcz76_0 hcz76_1 hfz76_0 hfz76_1); (try clear hcz78_0 hcz78_1 hfz78_0 hfz78_1); (try clear hcz79_0 hcz79_1 hcz79_2 hfz79_0 hfz79_1 hfz79_2); (try clear hcz84_0 hcz84_1 hcz84_2 hfz84_0 hfz84_1 hfz84_2); (try clear hcz88_0 hcz88_1 hcz88_2 hfz88_0 hfz88_1 hfz88_2); (try clear hcz9_0 hcz9_1 hcz9_2 hfz9_0 hfz9_1 hfz9_2); (try clear hx128_0); (try clear p128); (try clear q128)
         obtain ⟨kq, x84_81, rfl, HA, HJ81, HO_9, HO_10, HO_114000, HO_114001, BK101, BK113, HB⟩ := hcut
         cases kq with
         | zero => exact absurd HA.out (by simp [l16_WitnessRuns.j3])
         | succ kj81 =>
          have H := HA.out
          clear HA
          simp only [l16_WitnessRuns.j3] at H
          have HC89 := Aside0.mk H
          clear H
          go_upto_if 84 with (fail)
          go_cut [] (fun wc => ∃ (kq : Nat), Aside0 (l16_WitnessRuns.j4 kq a2 t115 a0_0 l0_1 l0_2 t105 t108 t111 = some r) ∧ Aside0 (kq ≤ kj81) ∧ Aside0 (Kd.R (Kd.int .i64) 3 wc w.heap.size (fun _ => True) v116 t115) ∧ Aside0 (Kd.N (Kd.slice 3 (Kd.int .i64)) 28 wc w.heap.size (fun k_ => some k_ ≠ (v116 : Value).ownBlock ∧ some k_ ≠ ((.slice Ao29 t108.length co29) : Value).ownBlock ∧ k_ ≠ gb101 ∧ k_ ≠ gb113) (.slice Ao26 t105.length co26) t105) ∧ Aside0 (Kd.R k80 80 wc w.heap.size (fun _ => True) (.slice Ao29 t108.length co29) t108) ∧ Aside0 (wc.heap[gb101]? = some (.cells #[.string a0_0, (.slice A0_1 l0_1.length c0_1), (.slice A0_2 l0_2.length c0_2)] 39 (0, 0))) ∧ Aside0 (wc.heap[gb113]? = some (.cells #[(.slice Ao26 t105.length co26), (.slice Ao29 t108.length co29), .bool t111] 25 (0, 0))) ∧ Aside0 (Below w.heap.size w wc))
          case first =>
           have H := HC89.out
           clear HC89
           by_cases c90 : x84_81 = true
           ·subst c90
            rw [if_pos rfl] at H
            replace H := Option.bind_eq_some_iff.mp H
            obtain ⟨⟨t134, t137, t138⟩, A910, H⟩ := H
            (try dsimp only at H)
            have A91 := Aside0.mk A910
            clear A910
            by_cases c92 : (!(t137 == 0) || (!(t138 == 0))) = true
            ·rw [if_pos c92] at H
             have c92b0 : (!(t137 == 0) || (!(t138 == 0))) = true := c92
             clear c92
             (first | rw [c92b0] | (simp only [i64_w, i32_w]; rw [c92b0]) | skip)
             obtain rfl := Option.some.inj H
             have hnb93 := NB101_113.out
             have hnc93 := NB113_101.out
             obtain ⟨hcz94_0, hcz94_1, hcz94_2, hfz94_0, hfz94_1, hfz94_2⟩ := zc3 BK101
             obtain ⟨Ao95, co95, eo95⟩ := Kd.R_slice HO_9.out
             subst eo95
             obtain ⟨Ao96, co96, eo96⟩ := Kd.R_slice HO_10.out
             subst eo96
             go_wp2_with (first | ((with_reducible refine gate_callee (f := 23) rfl ?_); refine goesL_ (some 89) rfl rfl Try.func23 (by kernel_rfl) rfl #[.agg #[.string a0_0, .slice A0_1 l0_1.length c0_1, .slice A0_2 l0_2.length c0_2], .slice Ao95 t115.length co95, .slice Ao96 t130.length co96] rfl (by (try simp only [List.map_toArray, List.map_cons, List.map_nil]); first | done | rfl | (simp only [List.length_drop, List.length_take]; rfl)) ?_; (with_reducible refine (r11_Run.calls kj81 a0_0 _ _ l0_1 _ _ l0_2 _ _ t115 _ _ t130 t134 t137 t138 _ (tG HR0_1 HB) HC0_1.out (tG HR0_2 HB) HC0_2.out (tC (Kd.R_reads' HO_9.out).2.2) ((Kd.R_reads' HO_9.out).2.1) (tC (Kd.R_reads' HO_10.out).2.2) ((Kd.R_reads' HO_10.out).2.1) A91.out).mono ?_); rintro e w97 ⟨v135, rfl, ho0, hb⟩; refine ⟨_, rfl, ?_⟩; replace HO_114000 := Aside0.mk (Kd.N_elder' (tR HO_114000) (Kd.R_base ho0) hb); replace HO_114001 := Aside0.mk (Kd.R_below (tR HO_114001) hb); have HO136 := Aside0.mk (Kd.R_lower (Kd.R_new' (Kd.R_new' ho0 (Kd.R_lt (tR HO_9))) (Kd.R_lt (tR HO_10))) (below_size (tB))); replace HO_9 := Aside0.mk (Kd.R_elder' (tR HO_9) (Kd.R_base ho0) hb); replace HO_10 := Aside0.mk (Kd.R_elder' (tR HO_10) (Kd.R_base ho0) hb); replace BK101 := tL BK101 hb; replace BK113 := tL BK113 hb; replace HB := tA HB hb; (try clear hb); (try clear hb2); (try clear hk); (try clear hi); (try clear ho0)) | ((with_reducible refine gate_dst (N := 15) rfl ?_); (try (refine gate_guard (by rfl) ?_; dsimp only)); refine tBx 15 46 #[.int .i64 0, .int .i64 0] ?_; intro gb139 hg w98 hbox hb; replace HO_9 := Aside0.mk (Kd.R_below (tR HO_9) hb); replace HO_10 := Aside0.mk (Kd.R_below (tR HO_10) hb); replace HO_114000 := Aside0.mk (Kd.N_below (Kd.N_elderB (tR HO_114000) gb139 (Nat.le_of_eq hg.symm)) hb); replace HO_114001 := Aside0.mk (Kd.R_below (tR HO_114001) hb); replace HO136 := Aside0.mk (Kd.R_below (tR HO136) hb); have BK139 := Aside0.mk (hbox); have GW139 := tW HB hg; have GE139 := tW HB hg; replace HB := tA HB hb; have NB101_139 := tNl BK101 hg; have NB139_101 := tNg BK101 hg; replace BK101 := tL BK101 hb; have NB113_139 := tNl BK113 hg; have NB139_113 := tNg BK113 hg; replace BK113 := tL BK113 hb; clear hb hbox hg; have hnb99 := NB139_101.out; have hnc99 := NB101_139.out; have hnb100 := NB139_113.out; have hnc100 := NB113_139.out; obtain ⟨hcz101_0, hcz101_1, hfz101_0, hfz101_1⟩ := zc2 BK139))
             go_ret
             exact ⟨tE, tB⟩
            rw [if_neg c92] at H
            have c92b0 : (!(t137 == 0) || (!(t138 == 0))) = false := by simpa using c92
            clear c92
            (first | rw [c92b0] | (simp only [i64_w, i32_w]; rw [c92b0]) | skip)
            replace H := Option.bind_eq_some_iff.mp H
            obtain ⟨t140, A1020, H⟩ := H
            (try dsimp only at H)
            have A102 := Aside0.mk A1020
            clear A1020
            by_cases c103 : t140 = true
            ·subst c103
             rw [if_pos rfl] at H
             have H' := Aside0.mk H
             clear H
             have hnb104 := NB101_113.out
             have hnc104 := NB113_101.out
             obtain ⟨hcz105_0, hcz105_1, hcz105_2, hfz105_0, hfz105_1, hfz105_2⟩ := zc3 BK101
             obtain ⟨Ao106, co106, eo106⟩ := Kd.R_slice HO_9.out
             subst eo106
             obtain ⟨Ao107, co107, eo107⟩ := Kd.R_slice HO_10.out
             subst eo107
             go_wp2_with (first | ((with_reducible refine gate_callee (f := 23) rfl ?_); refine goesL_ (some 89) rfl rfl Try.func23 (by kernel_rfl) rfl #[.agg #[.string a0_0, .slice A0_1 l0_1.length c0_1, .slice A0_2 l0_2.length c0_2], .slice Ao106 t115.length co106, .slice Ao107 t130.length co107] rfl (by (try simp only [List.map_toArray, List.map_cons, List.map_nil]); first | done | rfl | (simp only [List.length_drop, List.length_take]; rfl)) ?_; (with_reducible refine (r11_Run.calls kj81 a0_0 _ _ l0_1 _ _ l0_2 _ _ t115 _ _ t130 t134 t137 t138 _ (tG HR0_1 HB) HC0_1.out (tG HR0_2 HB) HC0_2.out (tC (Kd.R_reads' HO_9.out).2.2) ((Kd.R_reads' HO_9.out).2.1) (tC (Kd.R_reads' HO_10.out).2.2) ((Kd.R_reads' HO_10.out).2.1) A91.out).mono ?_); rintro e w108 ⟨v135, rfl, ho0, hb⟩; refine ⟨_, rfl, ?_⟩; replace HO_114000 := Aside0.mk (Kd.N_elder' (tR HO_114000) (Kd.R_base ho0) hb); replace HO_114001 := Aside0.mk (Kd.R_below (tR HO_114001) hb); have HO136 := Aside0.mk (Kd.R_lower (Kd.R_new' (Kd.R_new' ho0 (Kd.R_lt (tR HO_9))) (Kd.R_lt (tR HO_10))) (below_size (tB))); replace HO_9 := Aside0.mk (Kd.R_elder' (tR HO_9) (Kd.R_base ho0) hb); replace HO_10 := Aside0.mk (Kd.R_elder' (tR HO_10) (Kd.R_base ho0) hb); replace BK101 := tL BK101 hb; replace BK113 := tL BK113 hb; replace HB := tA HB hb; (try clear hb); (try clear hb2); (try clear hk); (try clear hi); (try clear ho0)) | ((with_reducible refine gate_dst (N := 15) rfl ?_); (try (refine gate_guard (by rfl) ?_; dsimp only)); refine tBx 15 46 #[.int .i64 0, .int .i64 0] ?_; intro gb139 hg w109 hbox hb; replace HO_9 := Aside0.mk (Kd.R_below (tR HO_9) hb); replace HO_10 := Aside0.mk (Kd.R_below (tR HO_10) hb); replace HO_114000 := Aside0.mk (Kd.N_below (Kd.N_elderB (tR HO_114000) gb139 (Nat.le_of_eq hg.symm)) hb); replace HO_114001 := Aside0.mk (Kd.R_below (tR HO_114001) hb); replace HO136 := Aside0.mk (Kd.R_below (tR HO136) hb); have BK139 := Aside0.mk (hbox); have GW139 := tW HB hg; have GE139 := tW HB hg; replace HB := tA HB hb; have NB101_139 := tNl BK101 hg; have NB139_101 := tNg BK101 hg; replace BK101 := tL BK101 hb; have NB113_139 := tNl BK113 hg; have NB139_113 := tNg BK113 hg; replace BK113 := tL BK113 hb; clear hb hbox hg; have hnb110 := NB139_101.out; have hnc110 := NB101_139.out; have hnb111 := NB139_113.out; have hnc111 := NB113_139.out; obtain ⟨hcz112_0, hcz112_1, hfz112_0, hfz112_1⟩ := zc2 BK139; obtain ⟨hcz113_0, hcz113_1, hcz113_2, hfz113_0, hfz113_1, hfz113_2⟩ := zc3 BK101; obtain ⟨Ao114, co114, eo114⟩ := Kd.R_slice HO136.out; subst eo114) | (go_at_call 24; (with_reducible refine (r11_Dead.calls kj81 a0_0 _ _ l0_1 _ _ l0_2 _ _ t134 true _ ?side1 ?side2 ?side3 ?side4 ?side5 ?side6 A102.out).mono ?_); (case side1 => exact Kd.C_below HR0_1.out (tB)); (case side2 => exact HC0_1.out); (case side3 => exact Kd.C_below HR0_2.out (tB)); (case side4 => exact HC0_2.out); (case side5 => refine (Kd.R_reads' (e := 3) (base := w.heap.size) (ok := fun k_ => ((True ∧ some k_ ≠ (.slice Ao106 t115.length co106 : Value).ownBlock) ∧ some k_ ≠ (.slice Ao107 t130.length co107 : Value).ownBlock)) (n := t134.length) (c := co114) ?_).2.2; exact (by (with_reducible repeat (first | apply Kd.R_alloc | apply Kd.R_drewN | apply Kd.R_drew)); exact (Kd.R_mono (Kd.R_far (p := ⟨gb139, 1, none⟩) (Kd.R_far (p := ⟨gb139, 0, none⟩) (Kd.R_types HO136.out BK139.out (by decide)) (fun _ hk => hk.2) (.int .i64 t137)) (fun _ hk => hk.2) (.int .i64 t138)) (fun _ h_ => h_.1)))); (case side6 => exact (Kd.R_reads' HO136.out).2.1); rintro e w115 ⟨rfl, hb⟩; replace HO_9 := Aside0.mk (Kd.R_below (by (with_reducible repeat (first | apply Kd.R_alloc | apply Kd.R_drewN | apply Kd.R_drew)); exact (Kd.R_mono (Kd.R_far (p := ⟨gb139, 1, none⟩) (Kd.R_far (p := ⟨gb139, 0, none⟩) (Kd.R_types HO_9.out BK139.out (by decide)) (fun _ hk => hk.2) (.int .i64 t137)) (fun _ hk => hk.2) (.int .i64 t138)) (fun _ h_ => h_.1))) hb); replace HO_10 := Aside0.mk (Kd.R_below (by (with_reducible repeat (first | apply Kd.R_alloc | apply Kd.R_drewN | apply Kd.R_drew)); exact (Kd.R_mono (Kd.R_far (p := ⟨gb139, 1, none⟩) (Kd.R_far (p := ⟨gb139, 0, none⟩) (Kd.R_types HO_10.out BK139.out (by decide)) (fun _ hk => hk.2) (.int .i64 t137)) (fun _ hk => hk.2) (.int .i64 t138)) (fun _ h_ => h_.1))) hb); replace HO_114000 := Aside0.mk (Kd.N_below (by (with_reducible repeat (first | apply Kd.N_alloc | apply Kd.N_drewN | apply Kd.N_drew)); exact (Kd.N_mono (Kd.N_far (p := ⟨gb139, 1, none⟩) (Kd.N_far (p := ⟨gb139, 0, none⟩) (Kd.N_mono HO_114000.out (fun k_ hk => (⟨hk, hk.2⟩ : _ ∧ k_ ≠ gb139))) (fun _ hk => hk.2) (.int .i64 t137)) (fun _ hk => hk.2) (.int .i64 t138)) (fun _ h_ => h_.1))) hb); replace HO_114001 := Aside0.mk (Kd.R_below (by (with_reducible repeat (first | apply Kd.R_alloc | apply Kd.R_drewN | apply Kd.R_drew)); exact (Kd.R_mono (Kd.R_far (p := ⟨gb139, 1, none⟩) (Kd.R_far (p := ⟨gb139, 0, none⟩) (Kd.R_types HO_114001.out BK139.out (by decide)) (fun _ hk => hk.2) (.int .i64 t137)) (fun _ hk => hk.2) (.int .i64 t138)) (fun _ h_ => h_.1))) hb); replace HO136 := Aside0.mk (Kd.R_below (by (with_reducible repeat (first | apply Kd.R_alloc | apply Kd.R_drewN | apply Kd.R_drew)); exact (Kd.R_mono (Kd.R_far (p := ⟨gb139, 1, none⟩) (Kd.R_far (p := ⟨gb139, 0, none⟩) (Kd.R_types HO136.out BK139.out (by decide)) (fun _ hk => hk.2) (.int .i64 t137)) (fun _ hk => hk.2) (.int .i64 t138)) (fun _ h_ => h_.1))) hb); replace BK101 := Aside0.mk (blk_below (g := gb101) (o := .cells #[.string a0_0, .slice A0_1 l0_1.length c0_1, .slice A0_2 l0_2.length c0_2] 39 (0, 0)) (by (with_reducible repeat (first | refine blk_drewN ?_ _ | refine blk_drew ?_ | refine blk_alloc ?_ _)); refine blk_far ?_ NB101_139.out _; (with_reducible repeat (first | refine blk_drewN ?_ _ | refine blk_drew ?_ | refine blk_alloc ?_ _)); refine blk_far ?_ NB101_139.out _; (with_reducible repeat (first | refine blk_drewN ?_ _ | refine blk_drew ?_ | refine blk_alloc ?_ _)); exact BK101.out) hb); replace BK113 := Aside0.mk (blk_below (g := gb113) (o := .cells #[.slice Ao26 t105.length co26, .slice Ao29 t108.length co29, .bool t111] 25 (0, 0)) (by (with_reducible repeat (first | refine blk_drewN ?_ _ | refine blk_drew ?_ | refine blk_alloc ?_ _)); refine blk_far ?_ NB113_139.out _; (with_reducible repeat (first | refine blk_drewN ?_ _ | refine blk_drew ?_ | refine blk_alloc ?_ _)); refine blk_far ?_ NB113_139.out _; (with_reducible repeat (first | refine blk_drewN ?_ _ | refine blk_drew ?_ | refine blk_alloc ?_ _)); exact BK113.out) hb); replace BK139 := Aside0.mk (blk_below (g := gb139) (o := .cells #[.int .i64 t137, .int .i64 t138] 46 (0, 0)) (by (with_reducible repeat (first | refine blk_drewN ?_ _ | refine blk_drew ?_ | refine blk_alloc ?_ _)); refine blk_put (cs := #[.int .i64 t137, .int .i64 0]) ?_ 1 _ rfl; (with_reducible repeat (first | refine blk_drewN ?_ _ | refine blk_drew ?_ | refine blk_alloc ?_ _)); refine blk_put (cs := #[.int .i64 0, .int .i64 0]) ?_ 0 _ rfl; (with_reducible repeat (first | refine blk_drewN ?_ _ | refine blk_drew ?_ | refine blk_alloc ?_ _)); exact BK139.out) hb); replace HB := tA HB hb; (try clear hb); (try clear hb2); (try clear hk); (try clear hi)))
             go_meet
             case rel => exact ⟨_, H', ⟨by have := HJ3.out; have := HJ21.out; have := HJ37.out; have := HJ81.out; first | omega | exact Nat.le_refl _⟩, ⟨by (with_reducible repeat (first | apply Kd.R_alloc | apply Kd.R_drewN | apply Kd.R_drew)); exact Kd.R_mono HO_9.out (fun _ hk => trivial)⟩, ⟨by (with_reducible repeat (first | apply Kd.N_alloc | apply Kd.N_drewN | apply Kd.N_drew)); exact Kd.N_mono HO_114000.out (fun _ hk => ⟨hk.1.1.1, ⟨hk.1.1.2.2.1, ⟨hk.1.1.2.2.2.1, hk.1.1.2.2.2.2⟩⟩⟩)⟩, ⟨tR HO_114001⟩, ⟨tK BK101⟩, ⟨tK BK113⟩, ⟨tB⟩⟩
            replace c103 := Bool.eq_false_iff.mpr c103
            subst c103
            rw [if_neg (show ¬ (false = true) by decide)] at H
            obtain rfl := Option.some.inj H
            have hnb116 := NB101_113.out
            have hnc116 := NB113_101.out
            obtain ⟨hcz117_0, hcz117_1, hcz117_2, hfz117_0, hfz117_1, hfz117_2⟩ := zc3 BK101
            obtain ⟨Ao118, co118, eo118⟩ := Kd.R_slice HO_9.out
            subst eo118
            obtain ⟨Ao119, co119, eo119⟩ := Kd.R_slice HO_10.out
            subst eo119
            go_wp2_with (first | ((with_reducible refine gate_callee (f := 23) rfl ?_); refine goesL_ (some 89) rfl rfl Try.func23 (by kernel_rfl) rfl #[.agg #[.string a0_0, .slice A0_1 l0_1.length c0_1, .slice A0_2 l0_2.length c0_2], .slice Ao118 t115.length co118, .slice Ao119 t130.length co119] rfl (by (try simp only [List.map_toArray, List.map_cons, List.map_nil]); first | done | rfl | (simp only [List.length_drop, List.length_take]; rfl)) ?_; (with_reducible refine (r11_Run.calls kj81 a0_0 _ _ l0_1 _ _ l0_2 _ _ t115 _ _ t130 t134 t137 t138 _ (tG HR0_1 HB) HC0_1.out (tG HR0_2 HB) HC0_2.out (tC (Kd.R_reads' HO_9.out).2.2) ((Kd.R_reads' HO_9.out).2.1) (tC (Kd.R_reads' HO_10.out).2.2) ((Kd.R_reads' HO_10.out).2.1) A91.out).mono ?_); rintro e w120 ⟨v135, rfl, ho0, hb⟩; refine ⟨_, rfl, ?_⟩; replace HO_114000 := Aside0.mk (Kd.N_elder' (tR HO_114000) (Kd.R_base ho0) hb); replace HO_114001 := Aside0.mk (Kd.R_below (tR HO_114001) hb); have HO136 := Aside0.mk (Kd.R_lower (Kd.R_new' (Kd.R_new' ho0 (Kd.R_lt (tR HO_9))) (Kd.R_lt (tR HO_10))) (below_size (tB))); replace HO_9 := Aside0.mk (Kd.R_elder' (tR HO_9) (Kd.R_base ho0) hb); replace HO_10 := Aside0.mk (Kd.R_elder' (tR HO_10) (Kd.R_base ho0) hb); replace BK101 := tL BK101 hb; replace BK113 := tL BK113 hb; replace HB := tA HB hb; (try clear hb); (try clear hb2); (try clear hk); (try clear hi); (try clear ho0)) | ((with_reducible refine gate_dst (N := 15) rfl ?_); (try (refine gate_guard (by rfl) ?_; dsimp only)); refine tBx 15 46 #[.int .i64 0, .int .i64 0] ?_; intro gb139 hg w121 hbox hb; replace HO_9 := Aside0.mk (Kd.R_below (tR HO_9) hb); replace HO_10 := Aside0.mk (Kd.R_below (tR HO_10) hb); replace HO_114000 := Aside0.mk (Kd.N_below (Kd.N_elderB (tR HO_114000) gb139 (Nat.le_of_eq hg.symm)) hb); replace HO_114001 := Aside0.mk (Kd.R_below (tR HO_114001) hb); replace HO136 := Aside0.mk (Kd.R_below (tR HO136) hb); have BK139 := Aside0.mk (hbox); have GW139 := tW HB hg; have GE139 := tW HB hg; replace HB := tA HB hb; have NB101_139 := tNl BK101 hg; have NB139_101 := tNg BK101 hg; replace BK101 := tL BK101 hb; have NB113_139 := tNl BK113 hg; have NB139_113 := tNg BK113 hg; replace BK113 := tL BK113 hb; clear hb hbox hg; have hnb122 := NB139_101.out; have hnc122 := NB101_139.out; have hnb123 := NB139_113.out; have hnc123 := NB113_139.out; obtain ⟨hcz124_0, hcz124_1, hfz124_0, hfz124_1⟩ := zc2 BK139; obtain ⟨hcz125_0, hcz125_1, hcz125_2, hfz125_0, hfz125_1, hfz125_2⟩ := zc3 BK101; obtain ⟨Ao126, co126, eo126⟩ := Kd.R_slice HO136.out; subst eo126) | (go_at_call 24; (with_reducible refine (r11_Dead.calls kj81 a0_0 _ _ l0_1 _ _ l0_2 _ _ t134 false _ ?side1 ?side2 ?side3 ?side4 ?side5 ?side6 A102.out).mono ?_); (case side1 => exact Kd.C_below HR0_1.out (tB)); (case side2 => exact HC0_1.out); (case side3 => exact Kd.C_below HR0_2.out (tB)); (case side4 => exact HC0_2.out); (case side5 => refine (Kd.R_reads' (e := 3) (base := w.heap.size) (ok := fun k_ => ((True ∧ some k_ ≠ (.slice Ao118 t115.length co118 : Value).ownBlock) ∧ some k_ ≠ (.slice Ao119 t130.length co119 : Value).ownBlock)) (n := t134.length) (c := co126) ?_).2.2; exact (by (with_reducible repeat (first | apply Kd.R_alloc | apply Kd.R_drewN | apply Kd.R_drew)); exact (Kd.R_mono (Kd.R_far (p := ⟨gb139, 1, none⟩) (Kd.R_far (p := ⟨gb139, 0, none⟩) (Kd.R_types HO136.out BK139.out (by decide)) (fun _ hk => hk.2) (.int .i64 t137)) (fun _ hk => hk.2) (.int .i64 t138)) (fun _ h_ => h_.1)))); (case side6 => exact (Kd.R_reads' HO136.out).2.1); rintro e w127 ⟨rfl, hb⟩; replace HO_9 := Aside0.mk (Kd.R_below (by (with_reducible repeat (first | apply Kd.R_alloc | apply Kd.R_drewN | apply Kd.R_drew)); exact (Kd.R_mono (Kd.R_far (p := ⟨gb139, 1, none⟩) (Kd.R_far (p := ⟨gb139, 0, none⟩) (Kd.R_types HO_9.out BK139.out (by decide)) (fun _ hk => hk.2) (.int .i64 t137)) (fun _ hk => hk.2) (.int .i64 t138)) (fun _ h_ => h_.1))) hb); replace HO_10 := Aside0.mk (Kd.R_below (by (with_reducible repeat (first | apply Kd.R_alloc | apply Kd.R_drewN | apply Kd.R_drew)); exact (Kd.R_mono (Kd.R_far (p := ⟨gb139, 1, none⟩) (Kd.R_far (p := ⟨gb139, 0, none⟩) (Kd.R_types HO_10.out BK139.out (by decide)) (fun _ hk => hk.2) (.int .i64 t137)) (fun _ hk => hk.2) (.int .i64 t138)) (fun _ h_ => h_.1))) hb); replace HO_114000 := Aside0.mk (Kd.N_below (by (with_reducible repeat (first | apply Kd.N_alloc | apply Kd.N_drewN | apply Kd.N_drew)); exact (Kd.N_mono (Kd.N_far (p := ⟨gb139, 1, none⟩) (Kd.N_far (p := ⟨gb139, 0, none⟩) (Kd.N_mono HO_114000.out (fun k_ hk => (⟨hk, hk.2⟩ : _ ∧ k_ ≠ gb139))) (fun _ hk => hk.2) (.int .i64 t137)) (fun _ hk => hk.2) (.int .i64 t138)) (fun _ h_ => h_.1))) hb); replace HO_114001 := Aside0.mk (Kd.R_below (by (with_reducible repeat (first | apply Kd.R_alloc | apply Kd.R_drewN | apply Kd.R_drew)); exact (Kd.R_mono (Kd.R_far (p := ⟨gb139, 1, none⟩) (Kd.R_far (p := ⟨gb139, 0, none⟩) (Kd.R_types HO_114001.out BK139.out (by decide)) (fun _ hk => hk.2) (.int .i64 t137)) (fun _ hk => hk.2) (.int .i64 t138)) (fun _ h_ => h_.1))) hb); replace HO136 := Aside0.mk (Kd.R_below (by (with_reducible repeat (first | apply Kd.R_alloc | apply Kd.R_drewN | apply Kd.R_drew)); exact (Kd.R_mono (Kd.R_far (p := ⟨gb139, 1, none⟩) (Kd.R_far (p := ⟨gb139, 0, none⟩) (Kd.R_types HO136.out BK139.out (by decide)) (fun _ hk => hk.2) (.int .i64 t137)) (fun _ hk => hk.2) (.int .i64 t138)) (fun _ h_ => h_.1))) hb); replace BK101 := Aside0.mk (blk_below (g := gb101) (o := .cells #[.string a0_0, .slice A0_1 l0_1.length c0_1, .slice A0_2 l0_2.length c0_2] 39 (0, 0)) (by (with_reducible repeat (first | refine blk_drewN ?_ _ | refine blk_drew ?_ | refine blk_alloc ?_ _)); refine blk_far ?_ NB101_139.out _; (with_reducible repeat (first | refine blk_drewN ?_ _ | refine blk_drew ?_ | refine blk_alloc ?_ _)); refine blk_far ?_ NB101_139.out _; (with_reducible repeat (first | refine blk_drewN ?_ _ | refine blk_drew ?_ | refine blk_alloc ?_ _)); exact BK101.out) hb); replace BK113 := Aside0.mk (blk_below (g := gb113) (o := .cells #[.slice Ao26 t105.length co26, .slice Ao29 t108.length co29, .bool t111] 25 (0, 0)) (by (with_reducible repeat (first | refine blk_drewN ?_ _ | refine blk_drew ?_ | refine blk_alloc ?_ _)); refine blk_far ?_ NB113_139.out _; (with_reducible repeat (first | refine blk_drewN ?_ _ | refine blk_drew ?_ | refine blk_alloc ?_ _)); refine blk_far ?_ NB113_139.out _; (with_reducible repeat (first | refine blk_drewN ?_ _ | refine blk_drew ?_ | refine blk_alloc ?_ _)); exact BK113.out) hb); replace BK139 := Aside0.mk (blk_below (g := gb139) (o := .cells #[.int .i64 t137, .int .i64 t138] 46 (0, 0)) (by (with_reducible repeat (first | refine blk_drewN ?_ _ | refine blk_drew ?_ | refine blk_alloc ?_ _)); refine blk_put (cs := #[.int .i64 t137, .int .i64 0]) ?_ 1 _ rfl; (with_reducible repeat (first | refine blk_drewN ?_ _ | refine blk_drew ?_ | refine blk_alloc ?_ _)); refine blk_put (cs := #[.int .i64 0, .int .i64 0]) ?_ 0 _ rfl; (with_reducible repeat (first | refine blk_drewN ?_ _ | refine blk_drew ?_ | refine blk_alloc ?_ _)); exact BK139.out) hb); replace HB := tA HB hb; (try clear hb); (try clear hb2); (try clear hk); (try clear hi)))
            go_ret
            exact ⟨tE, tB⟩
           replace c90 := Bool.eq_false_iff.mpr c90
           subst c90
           rw [if_neg (show ¬ (false = true) by decide)] at H
           have H' := Aside0.mk H
           clear H
           go_wp2
           go_meet
           case rel => exact ⟨_, H', ⟨by have := HJ3.out; have := HJ21.out; have := HJ37.out; have := HJ81.out; first | omega | exact Nat.le_refl _⟩, ⟨by (with_reducible repeat (first | apply Kd.R_alloc | apply Kd.R_drewN | apply Kd.R_drew)); exact Kd.R_mono HO_9.out (fun _ hk => trivial)⟩, ⟨by (with_reducible repeat (first | apply Kd.N_alloc | apply Kd.N_drewN | apply Kd.N_drew)); exact Kd.N_mono HO_114000.out (fun _ hk => ⟨hk.1, ⟨hk.2.2.1, ⟨hk.2.2.2.1, hk.2.2.2.2⟩⟩⟩)⟩, ⟨tR HO_114001⟩, ⟨tK BK101⟩, ⟨tK BK113⟩, ⟨tB⟩⟩
          case rest =>
           clear HC89
           (try clear c1); (try clear p1); (try clear q1); (try clear hx1); (try clear c2); (try clear p2); (try clear c3); (try clear c4); (try clear c5); (try clear c6); (try clear c7); (try clear c8); (try clear c9); (try clear c10); (try clear c11); (try clear c12); (try clear p12); (try clear q12); (try clear hx12); (try clear c15); (try clear c18); (try clear c19); (try clear c19b0); (try clear c19b1); (try clear c21); (try clear c22); (try clear c23); (try clear c27); (try clear c34); (try clear c34b0); (try clear c35); (try clear c37); (try clear c39); (try clear c41); (try clear c41b0); (try clear c42); (try clear c48); (try clear c49); (try clear c51); (try clear c51b0); (try clear c52); (try clear c52b0); (try clear c54); (try clear c55); (try clear c61); (try clear c62); (try clear c68); (try clear c74); (try clear c75); (try clear c83); (try clear c86); (try clear c87); (try clear c90); (try clear c92); (try clear c92b0); (try clear c93); (try clear c99); (try clear c100); (try clear c103); (try clear c104); (try clear c110); (try clear c111); (try clear c116); (try clear c122); (try clear c123); (try clear hcz101_0 hcz101_1 hfz101_0 hfz101_1); (try clear hcz105_0 hcz105_1 hcz105_2 hfz105_0 hfz105_1 hfz105_2); (try clear hcz112_0 hcz112_1 hfz112_0 hfz112_1); (try clear hcz113_0 hcz113_1 hcz113_2 hfz113_0 hfz113_1 hfz113_2); (try clear hcz117_0 hcz117_1 hcz117_2 hfz117_0 hfz117_1 hfz117_2); (try clear hcz11_0 hcz11_1 hcz11_2 hfz11_0 hfz11_1 hfz11_2); (try clear hcz124_0 hcz124_1 hfz124_0 hfz124_1); (try clear hcz125_0 hcz125_1 hcz125_2 hfz125_0 hfz125_1 hfz125_2); (try clear hcz13_0 hcz13_1 hcz13_2 hfz13_0 hfz13_1 hfz13_2); (try clear hcz23_0 hcz23_1 hcz23_2 hfz23_0 hfz23_1 hfz23_2); (try clear hcz28_0 hcz28_1 hcz28_2 hfz28_0 hfz28_1 hfz28_2); (try clear hcz30_0 hcz30_1 hcz30_2 hfz30_0 hfz30_1 hfz30_2); (try clear hcz32_0 hcz32_1 hcz32_2 hfz32_0 hfz32_1 hfz32_2); (try clear hcz36_0 hcz36_1 hcz36_2 hfz36_0 hfz36_1 hfz36_2); (try clear hcz43_0 hcz43_1 hcz43_2 hfz43_0 hfz43_1 hfz43_2); (try clear hcz50_0 hcz50_1 hfz50_0 hfz50_1); (try clear hcz56_0 hcz56_1 hcz56_2 hfz56_0 hfz56_1 hfz56_2); (try clear hcz63_0 hcz63_1 hfz63_0 hfz63_1); (try clear hcz65_0 hcz65_1 hfz65_0 hfz65_1); (try clear hcz66_0 hcz66_1 hcz66_2 hfz66_0 hfz66_1 hfz66_2); (try clear hcz69_0 hcz69_1 hcz69_2 hfz69_0 hfz69_1 hfz69_2); (try clear hcz76_0 hcz76_1 hfz76_0 hfz76_1); (try clear hcz78_0 hcz78_1 hfz78_0 hfz78_1); (try clear hcz79_0 hcz79_1 hcz79_2 hfz79_0 hfz79_1 hfz79_2); (try clear hcz84_0 hcz84_1 hcz84_2 hfz84_0 hfz84_1 hfz84_2); (try clear hcz88_0 hcz88_1 hcz88_2 hfz88_0 hfz88_1 hfz88_2); (try clear hcz94_0 hcz94_1 hcz94_2 hfz94_0 hfz94_1 hfz94_2); (try clear hcz9_0 hcz9_1 hcz9_2 hfz9_0 hfz9_1 hfz9_2); (try clear hx128_0); (try clear p128); (try clear q128)
           obtain ⟨kq, HA, HJ88, HO_9, HO_114000, HO_114001, BK101, BK113, HB⟩ := hcut
           cases kq with
           | zero => exact absurd HA.out (by simp [l16_WitnessRuns.j4])
           | succ kj88 =>
            have H := HA.out
            clear HA
            simp only [l16_WitnessRuns.j4] at H
            replace H := Option.bind_eq_some_iff.mp H
            obtain ⟨⟨t141, t144⟩, A1280, H⟩ := H
            (try dsimp only at H)
            have A128 := Aside0.mk A1280
            clear A1280
            by_cases c129 : t144 = true
            ·subst c129
             rw [if_pos rfl] at H
             replace H := Option.bind_eq_some_iff.mp H
             obtain ⟨⟨t145, t148, t149⟩, A1300, H⟩ := H
             (try dsimp only at H)
             have A130 := Aside0.mk A1300
             clear A1300
             by_cases c131 : (!(t148 == 0) || (!(t149 == 0))) = true
             ·rw [if_pos c131] at H
              have c131b0 : (!(t148 == 0) || (!(t149 == 0))) = true := c131
              clear c131
              obtain rfl := Option.some.inj H
              have hnb132 := NB113_101.out
              have hnc132 := NB101_113.out
              obtain ⟨hcz133_0, hcz133_1, hcz133_2, hfz133_0, hfz133_1, hfz133_2⟩ := zc3 BK113
              go_wp2_with (first | ((with_reducible refine gate_callee (f := 25) rfl ?_); refine goesL_ (some 104) rfl rfl Try.func25 (by kernel_rfl) rfl #[.agg #[.slice Ao26 t105.length co26, .slice Ao29 t108.length co29, .bool t111], .int .i64 a2] rfl (by (try simp only [List.map_toArray, List.map_cons, List.map_nil]); first | done | rfl | (simp only [List.length_drop, List.length_take]; rfl)) ?_; (with_reducible refine (witness_Fires.calls kj88 _ _ t105 _ _ t108 t111 a2 t141 true _ (tC (Kd.N_reads' HO_114000.out).2.2) ((Kd.N_reads' HO_114000.out).2.1) (tC (Kd.R_reads' HO_114001.out).2.2) ((Kd.R_reads' HO_114001.out).2.1) A128.out).mono ?_); rintro e w134 ⟨v142, rfl, ho0, hb⟩; refine ⟨_, rfl, ?_⟩; replace HO_114000 := Aside0.mk (Kd.N_elder' (tR HO_114000) (Kd.R_base ho0) hb); replace HO_114001 := Aside0.mk (Kd.R_below (tR HO_114001) hb); have HO143 := Aside0.mk (Kd.R_lower (Kd.R_new' ho0 (Kd.R_lt (tR HO_9))) (below_size (tB))); replace HO_9 := Aside0.mk (Kd.R_elder' (tR HO_9) (Kd.R_base ho0) hb); replace BK101 := tL BK101 hb; replace BK113 := tL BK113 hb; replace HB := tA HB hb; (try clear hb); (try clear hb2); (try clear hk); (try clear hi); (try clear ho0); obtain ⟨hcz135_0, hcz135_1, hcz135_2, hfz135_0, hfz135_1, hfz135_2⟩ := zc3 BK101; obtain ⟨Ao136, co136, eo136⟩ := Kd.R_slice HO_9.out; subst eo136; obtain ⟨Ao137, co137, eo137⟩ := Kd.R_slice HO143.out; subst eo137) | ((with_reducible refine gate_callee (f := 23) rfl ?_); refine goesL_ (some 112) rfl rfl Try.func23 (by kernel_rfl) rfl #[.agg #[.string a0_0, .slice A0_1 l0_1.length c0_1, .slice A0_2 l0_2.length c0_2], .slice Ao136 t115.length co136, .slice Ao137 t141.length co137] rfl (by (try simp only [List.map_toArray, List.map_cons, List.map_nil]); first | done | rfl | (simp only [List.length_drop, List.length_take]; rfl)) ?_; (with_reducible refine (r11_Run.calls kj88 a0_0 _ _ l0_1 _ _ l0_2 _ _ t115 _ _ t141 t145 t148 t149 _ (tG HR0_1 HB) HC0_1.out (tG HR0_2 HB) HC0_2.out (tC (Kd.R_reads' HO_9.out).2.2) ((Kd.R_reads' HO_9.out).2.1) (tC (Kd.R_reads' HO143.out).2.2) ((Kd.R_reads' HO143.out).2.1) A130.out).mono ?_); rintro e w138 ⟨v146, rfl, ho0, hb⟩; refine ⟨_, rfl, ?_⟩; replace HO_114000 := Aside0.mk (Kd.N_elder' (tR HO_114000) (Kd.R_base ho0) hb); replace HO_114001 := Aside0.mk (Kd.R_below (tR HO_114001) hb); have HO147 := Aside0.mk (Kd.R_lower (Kd.R_new' (Kd.R_new' ho0 (Kd.R_lt (tR HO_9))) (Kd.R_lt (tR HO143))) (below_size (tB))); replace HO_9 := Aside0.mk (Kd.R_elder' (tR HO_9) (Kd.R_base ho0) hb); replace HO143 := Aside0.mk (Kd.R_elder' (tR HO143) (Kd.R_base ho0) hb); replace BK101 := tL BK101 hb; replace BK113 := tL BK113 hb; replace HB := tA HB hb; (try clear hb); (try clear hb2); (try clear hk); (try clear hi); (try clear ho0)) | ((with_reducible refine gate_dst (N := 17) rfl ?_); (try (refine gate_guard (by rfl) ?_; dsimp only)); refine tBx 17 46 #[.int .i64 0, .int .i64 0] ?_; intro gb150 hg w139 hbox hb; replace HO_9 := Aside0.mk (Kd.R_below (tR HO_9) hb); replace HO_114000 := Aside0.mk (Kd.N_below (Kd.N_elderB (tR HO_114000) gb150 (Nat.le_of_eq hg.symm)) hb); replace HO_114001 := Aside0.mk (Kd.R_below (tR HO_114001) hb); replace HO143 := Aside0.mk (Kd.R_below (tR HO143) hb); replace HO147 := Aside0.mk (Kd.R_below (tR HO147) hb); have BK150 := Aside0.mk (hbox); have GW150 := tW HB hg; have GE150 := tW HB hg; replace HB := tA HB hb; have NB101_150 := tNl BK101 hg; have NB150_101 := tNg BK101 hg; replace BK101 := tL BK101 hb; have NB113_150 := tNl BK113 hg; have NB150_113 := tNg BK113 hg; replace BK113 := tL BK113 hb; clear hb hbox hg; have hnb140 := NB150_101.out; have hnc140 := NB101_150.out; have hnb141 := NB150_113.out; have hnc141 := NB113_150.out; obtain ⟨hcz142_0, hcz142_1, hfz142_0, hfz142_1⟩ := zc2 BK150))
              go_ret
              exact ⟨tE, tB⟩
             rw [if_neg c131] at H
             have c131b0 : (!(t148 == 0) || (!(t149 == 0))) = false := by simpa using c131
             clear c131
             by_cases c143 : (t141.length : Int) = 0
             ·rw [if_pos c143] at H
              have c143b0 := beq_iff_eq.mpr c143
              have c143b1 := bne_eq_false_iff_eq.mpr c143
              clear c143
              obtain rfl := Option.some.inj H
              have hnb144 := NB113_101.out
              have hnc144 := NB101_113.out
              obtain ⟨hcz145_0, hcz145_1, hcz145_2, hfz145_0, hfz145_1, hfz145_2⟩ := zc3 BK113
              go_wp2_with (first | ((with_reducible refine gate_callee (f := 25) rfl ?_); refine goesL_ (some 104) rfl rfl Try.func25 (by kernel_rfl) rfl #[.agg #[.slice Ao26 t105.length co26, .slice Ao29 t108.length co29, .bool t111], .int .i64 a2] rfl (by (try simp only [List.map_toArray, List.map_cons, List.map_nil]); first | done | rfl | (simp only [List.length_drop, List.length_take]; rfl)) ?_; (with_reducible refine (witness_Fires.calls kj88 _ _ t105 _ _ t108 t111 a2 t141 true _ (tC (Kd.N_reads' HO_114000.out).2.2) ((Kd.N_reads' HO_114000.out).2.1) (tC (Kd.R_reads' HO_114001.out).2.2) ((Kd.R_reads' HO_114001.out).2.1) A128.out).mono ?_); rintro e w146 ⟨v142, rfl, ho0, hb⟩; refine ⟨_, rfl, ?_⟩; replace HO_114000 := Aside0.mk (Kd.N_elder' (tR HO_114000) (Kd.R_base ho0) hb); replace HO_114001 := Aside0.mk (Kd.R_below (tR HO_114001) hb); have HO143 := Aside0.mk (Kd.R_lower (Kd.R_new' ho0 (Kd.R_lt (tR HO_9))) (below_size (tB))); replace HO_9 := Aside0.mk (Kd.R_elder' (tR HO_9) (Kd.R_base ho0) hb); replace BK101 := tL BK101 hb; replace BK113 := tL BK113 hb; replace HB := tA HB hb; (try clear hb); (try clear hb2); (try clear hk); (try clear hi); (try clear ho0); obtain ⟨hcz147_0, hcz147_1, hcz147_2, hfz147_0, hfz147_1, hfz147_2⟩ := zc3 BK101; obtain ⟨Ao148, co148, eo148⟩ := Kd.R_slice HO_9.out; subst eo148; obtain ⟨Ao149, co149, eo149⟩ := Kd.R_slice HO143.out; subst eo149) | ((with_reducible refine gate_callee (f := 23) rfl ?_); refine goesL_ (some 112) rfl rfl Try.func23 (by kernel_rfl) rfl #[.agg #[.string a0_0, .slice A0_1 l0_1.length c0_1, .slice A0_2 l0_2.length c0_2], .slice Ao148 t115.length co148, .slice Ao149 t141.length co149] rfl (by (try simp only [List.map_toArray, List.map_cons, List.map_nil]); first | done | rfl | (simp only [List.length_drop, List.length_take]; rfl)) ?_; (with_reducible refine (r11_Run.calls kj88 a0_0 _ _ l0_1 _ _ l0_2 _ _ t115 _ _ t141 t145 t148 t149 _ (tG HR0_1 HB) HC0_1.out (tG HR0_2 HB) HC0_2.out (tC (Kd.R_reads' HO_9.out).2.2) ((Kd.R_reads' HO_9.out).2.1) (tC (Kd.R_reads' HO143.out).2.2) ((Kd.R_reads' HO143.out).2.1) A130.out).mono ?_); rintro e w150 ⟨v146, rfl, ho0, hb⟩; refine ⟨_, rfl, ?_⟩; replace HO_114000 := Aside0.mk (Kd.N_elder' (tR HO_114000) (Kd.R_base ho0) hb); replace HO_114001 := Aside0.mk (Kd.R_below (tR HO_114001) hb); have HO147 := Aside0.mk (Kd.R_lower (Kd.R_new' (Kd.R_new' ho0 (Kd.R_lt (tR HO_9))) (Kd.R_lt (tR HO143))) (below_size (tB))); replace HO_9 := Aside0.mk (Kd.R_elder' (tR HO_9) (Kd.R_base ho0) hb); replace HO143 := Aside0.mk (Kd.R_elder' (tR HO143) (Kd.R_base ho0) hb); replace BK101 := tL BK101 hb; replace BK113 := tL BK113 hb; replace HB := tA HB hb; (try clear hb); (try clear hb2); (try clear hk); (try clear hi); (try clear ho0)) | ((with_reducible refine gate_dst (N := 17) rfl ?_); (try (refine gate_guard (by rfl) ?_; dsimp only)); refine tBx 17 46 #[.int .i64 0, .int .i64 0] ?_; intro gb150 hg w151 hbox hb; replace HO_9 := Aside0.mk (Kd.R_below (tR HO_9) hb); replace HO_114000 := Aside0.mk (Kd.N_below (Kd.N_elderB (tR HO_114000) gb150 (Nat.le_of_eq hg.symm)) hb); replace HO_114001 := Aside0.mk (Kd.R_below (tR HO_114001) hb); replace HO143 := Aside0.mk (Kd.R_below (tR HO143) hb); replace HO147 := Aside0.mk (Kd.R_below (tR HO147) hb); have BK150 := Aside0.mk (hbox); have GW150 := tW HB hg; have GE150 := tW HB hg; replace HB := tA HB hb; have NB101_150 := tNl BK101 hg; have NB150_101 := tNg BK101 hg; replace BK101 := tL BK101 hb; have NB113_150 := tNl BK113 hg; have NB150_113 := tNg BK113 hg; replace BK113 := tL BK113 hb; clear hb hbox hg; have hnb152 := NB150_101.out; have hnc152 := NB101_150.out; have hnb153 := NB150_113.out; have hnc153 := NB113_150.out; obtain ⟨hcz154_0, hcz154_1, hfz154_0, hfz154_1⟩ := zc2 BK150))
              go_ret
              exact ⟨tE, tB⟩
             rw [if_neg c143] at H
             have c143b0 := beq_eq_false_iff_ne.mpr c143
             have c143b1 := bne_iff_ne.mpr c143
             have c143b2 : ¬ (t141 = []) := fun h_ => c143 (by rw [h_]; rfl)
             obtain ⟨ji155, hji155⟩ : ∃ j_ : Int, (wrap64 ((t141.length : Int) - 1)) = j_ := ⟨_, rfl⟩
             replace H : (if 0 ≤ (ji155) then (if (ji155) < (t141.length : Int) then (if (rd t141 (ji155)) = a2 then ((l16_alive.f kj88).bind fun t152 => (some t152)) else (some false)) else (none)) else (none)) = some r := by first | (rw [hji155] at H; exact H) | (simp only [hji155] at H ⊢; exact H)
             (try rw [hji155] at A128)
             (try rw [hji155] at A130)
             have hji155w : (IntKind.i64.wrap ((t141.length : Int) - 1)) = ji155 := (i64_w _).trans hji155
             replace H := tF H
             obtain ⟨c156, H⟩ := H
             have c156b0 := decide_eq_true c156
             clear c156
             replace H := tF H
             obtain ⟨c157, H⟩ := H
             have c157b0 := decide_eq_true c157
             clear c157
             by_cases c158 : (rd t141 (ji155)) = a2
             ·rw [if_pos c158] at H
              have c158b0 := beq_iff_eq.mpr c158
              have c158b1 := bne_eq_false_iff_eq.mpr c158
              clear c158
              replace H := Option.bind_eq_some_iff.mp H
              obtain ⟨t152, A1590, H⟩ := H
              (try dsimp only at H)
              have A159 := Aside0.mk A1590
              clear A1590
              obtain rfl := Option.some.inj H
              have hnb160 := NB113_101.out
              have hnc160 := NB101_113.out
              obtain ⟨hcz161_0, hcz161_1, hcz161_2, hfz161_0, hfz161_1, hfz161_2⟩ := zc3 BK113
              go_wp2_with (first | ((with_reducible refine gate_callee (f := 25) rfl ?_); refine goesL_ (some 104) rfl rfl Try.func25 (by kernel_rfl) rfl #[.agg #[.slice Ao26 t105.length co26, .slice Ao29 t108.length co29, .bool t111], .int .i64 a2] rfl (by (try simp only [List.map_toArray, List.map_cons, List.map_nil]); first | done | rfl | (simp only [List.length_drop, List.length_take]; rfl)) ?_; (with_reducible refine (witness_Fires.calls kj88 _ _ t105 _ _ t108 t111 a2 t141 true _ (tC (Kd.N_reads' HO_114000.out).2.2) ((Kd.N_reads' HO_114000.out).2.1) (tC (Kd.R_reads' HO_114001.out).2.2) ((Kd.R_reads' HO_114001.out).2.1) A128.out).mono ?_); rintro e w162 ⟨v142, rfl, ho0, hb⟩; refine ⟨_, rfl, ?_⟩; replace HO_114000 := Aside0.mk (Kd.N_elder' (tR HO_114000) (Kd.R_base ho0) hb); replace HO_114001 := Aside0.mk (Kd.R_below (tR HO_114001) hb); have HO143 := Aside0.mk (Kd.R_lower (Kd.R_new' ho0 (Kd.R_lt (tR HO_9))) (below_size (tB))); replace HO_9 := Aside0.mk (Kd.R_elder' (tR HO_9) (Kd.R_base ho0) hb); replace BK101 := tL BK101 hb; replace BK113 := tL BK113 hb; replace HB := tA HB hb; (try clear hb); (try clear hb2); (try clear hk); (try clear hi); (try clear ho0); obtain ⟨hcz163_0, hcz163_1, hcz163_2, hfz163_0, hfz163_1, hfz163_2⟩ := zc3 BK101; obtain ⟨Ao164, co164, eo164⟩ := Kd.R_slice HO_9.out; subst eo164; obtain ⟨Ao165, co165, eo165⟩ := Kd.R_slice HO143.out; subst eo165) | ((with_reducible refine gate_callee (f := 23) rfl ?_); refine goesL_ (some 112) rfl rfl Try.func23 (by kernel_rfl) rfl #[.agg #[.string a0_0, .slice A0_1 l0_1.length c0_1, .slice A0_2 l0_2.length c0_2], .slice Ao164 t115.length co164, .slice Ao165 t141.length co165] rfl (by (try simp only [List.map_toArray, List.map_cons, List.map_nil]); first | done | rfl | (simp only [List.length_drop, List.length_take]; rfl)) ?_; (with_reducible refine (r11_Run.calls kj88 a0_0 _ _ l0_1 _ _ l0_2 _ _ t115 _ _ t141 t145 t148 t149 _ (tG HR0_1 HB) HC0_1.out (tG HR0_2 HB) HC0_2.out (tC (Kd.R_reads' HO_9.out).2.2) ((Kd.R_reads' HO_9.out).2.1) (tC (Kd.R_reads' HO143.out).2.2) ((Kd.R_reads' HO143.out).2.1) A130.out).mono ?_); rintro e w166 ⟨v146, rfl, ho0, hb⟩; refine ⟨_, rfl, ?_⟩; replace HO_114000 := Aside0.mk (Kd.N_elder' (tR HO_114000) (Kd.R_base ho0) hb); replace HO_114001 := Aside0.mk (Kd.R_below (tR HO_114001) hb); have HO147 := Aside0.mk (Kd.R_lower (Kd.R_new' (Kd.R_new' ho0 (Kd.R_lt (tR HO_9))) (Kd.R_lt (tR HO143))) (below_size (tB))); replace HO_9 := Aside0.mk (Kd.R_elder' (tR HO_9) (Kd.R_base ho0) hb); replace HO143 := Aside0.mk (Kd.R_elder' (tR HO143) (Kd.R_base ho0) hb); replace BK101 := tL BK101 hb; replace BK113 := tL BK113 hb; replace HB := tA HB hb; (try clear hb); (try clear hb2); (try clear hk); (try clear hi); (try clear ho0)) | ((with_reducible refine gate_dst (N := 17) rfl ?_); (try (refine gate_guard (by rfl) ?_; dsimp only)); refine tBx 17 46 #[.int .i64 0, .int .i64 0] ?_; intro gb150 hg w167 hbox hb; replace HO_9 := Aside0.mk (Kd.R_below (tR HO_9) hb); replace HO_114000 := Aside0.mk (Kd.N_below (Kd.N_elderB (tR HO_114000) gb150 (Nat.le_of_eq hg.symm)) hb); replace HO_114001 := Aside0.mk (Kd.R_below (tR HO_114001) hb); replace HO143 := Aside0.mk (Kd.R_below (tR HO143) hb); replace HO147 := Aside0.mk (Kd.R_below (tR HO147) hb); have BK150 := Aside0.mk (hbox); have GW150 := tW HB hg; have GE150 := tW HB hg; replace HB := tA HB hb; have NB101_150 := tNl BK101 hg; have NB150_101 := tNg BK101 hg; replace BK101 := tL BK101 hb; have NB113_150 := tNl BK113 hg; have NB150_113 := tNg BK113 hg; replace BK113 := tL BK113 hb; clear hb hbox hg; have hnb168 := NB150_101.out; have hnc168 := NB101_150.out; have hnb169 := NB150_113.out; have hnc169 := NB113_150.out; obtain ⟨hcz170_0, hcz170_1, hfz170_0, hfz170_1⟩ := zc2 BK150; have p151 : 0 ≤ ((ji155) : Int) := tD; have q151 : (ji155) < (t141.length : Int) := tD; obtain ⟨ad151, e151, hx151_0⟩ := Kd.at_int (Kd.R_reads' HO143.out).2.2 (ji155) p151 q151; cases e151; have hn151_0 : ad151.block ≠ gb150 := Kd.own_blk (Kd.R_ne HO143.out BK150.out (by decide)); have hn151_1 : ad151.block ≠ gb150 := Kd.own_blk (Kd.R_ne HO143.out BK150.out (by decide)); replace hx151_0 := (cell_far (p := ⟨gb150, 0, none⟩) (by first | (rw [add_block]; exact hn151_0) | (show (Addr.add _ _).block ≠ _; rw [add_block]; exact hn151_0) | exact hn151_0) (.int .i64 t148)).trans hx151_0; replace hx151_0 := (cell_far (p := ⟨gb150, 1, none⟩) (by first | (rw [add_block]; exact hn151_1) | (show (Addr.add _ _).block ≠ _; rw [add_block]; exact hn151_1) | exact hn151_1) (.int .i64 t149)).trans hx151_0; clear hn151_0; clear hn151_1; replace p151 := eq_true p151; replace q151 := eq_true q151) | ((with_reducible refine gate_callee (f := 10) rfl ?_); refine goesL_ (some 133) rfl rfl Try.func10 (by kernel_rfl) rfl #[] rfl (by (try simp only [List.map_toArray, List.map_cons, List.map_nil]); first | done | rfl | (simp only [List.length_drop, List.length_take]; rfl)) ?_; (with_reducible refine (l16_alive.calls kj88  t152 _ A159.out).mono ?_); rintro e w171 ⟨rfl, hb⟩; refine ⟨_, rfl, ?_⟩; replace HO_9 := Aside0.mk (Kd.R_below (by (with_reducible repeat (first | apply Kd.R_alloc | apply Kd.R_drewN | apply Kd.R_drew)); exact (Kd.R_mono (Kd.R_far (p := ⟨gb150, 1, none⟩) (Kd.R_far (p := ⟨gb150, 0, none⟩) (Kd.R_types HO_9.out BK150.out (by decide)) (fun _ hk => hk.2) (.int .i64 t148)) (fun _ hk => hk.2) (.int .i64 t149)) (fun _ h_ => h_.1))) hb); replace HO_114000 := Aside0.mk (Kd.N_below (by (with_reducible repeat (first | apply Kd.N_alloc | apply Kd.N_drewN | apply Kd.N_drew)); exact (Kd.N_mono (Kd.N_far (p := ⟨gb150, 1, none⟩) (Kd.N_far (p := ⟨gb150, 0, none⟩) (Kd.N_mono HO_114000.out (fun k_ hk => (⟨hk, hk.2⟩ : _ ∧ k_ ≠ gb150))) (fun _ hk => hk.2) (.int .i64 t148)) (fun _ hk => hk.2) (.int .i64 t149)) (fun _ h_ => h_.1))) hb); replace HO_114001 := Aside0.mk (Kd.R_below (by (with_reducible repeat (first | apply Kd.R_alloc | apply Kd.R_drewN | apply Kd.R_drew)); exact (Kd.R_mono (Kd.R_far (p := ⟨gb150, 1, none⟩) (Kd.R_far (p := ⟨gb150, 0, none⟩) (Kd.R_types HO_114001.out BK150.out (by decide)) (fun _ hk => hk.2) (.int .i64 t148)) (fun _ hk => hk.2) (.int .i64 t149)) (fun _ h_ => h_.1))) hb); replace HO143 := Aside0.mk (Kd.R_below (by (with_reducible repeat (first | apply Kd.R_alloc | apply Kd.R_drewN | apply Kd.R_drew)); exact (Kd.R_mono (Kd.R_far (p := ⟨gb150, 1, none⟩) (Kd.R_far (p := ⟨gb150, 0, none⟩) (Kd.R_types HO143.out BK150.out (by decide)) (fun _ hk => hk.2) (.int .i64 t148)) (fun _ hk => hk.2) (.int .i64 t149)) (fun _ h_ => h_.1))) hb); replace HO147 := Aside0.mk (Kd.R_below (by (with_reducible repeat (first | apply Kd.R_alloc | apply Kd.R_drewN | apply Kd.R_drew)); exact (Kd.R_mono (Kd.R_far (p := ⟨gb150, 1, none⟩) (Kd.R_far (p := ⟨gb150, 0, none⟩) (Kd.R_types HO147.out BK150.out (by decide)) (fun _ hk => hk.2) (.int .i64 t148)) (fun _ hk => hk.2) (.int .i64 t149)) (fun _ h_ => h_.1))) hb); replace BK101 := Aside0.mk (blk_below (g := gb101) (o := .cells #[.string a0_0, .slice A0_1 l0_1.length c0_1, .slice A0_2 l0_2.length c0_2] 39 (0, 0)) (by (with_reducible repeat (first | refine blk_drewN ?_ _ | refine blk_drew ?_ | refine blk_alloc ?_ _)); refine blk_far ?_ NB101_150.out _; (with_reducible repeat (first | refine blk_drewN ?_ _ | refine blk_drew ?_ | refine blk_alloc ?_ _)); refine blk_far ?_ NB101_150.out _; (with_reducible repeat (first | refine blk_drewN ?_ _ | refine blk_drew ?_ | refine blk_alloc ?_ _)); exact BK101.out) hb); replace BK113 := Aside0.mk (blk_below (g := gb113) (o := .cells #[.slice Ao26 t105.length co26, .slice Ao29 t108.length co29, .bool t111] 25 (0, 0)) (by (with_reducible repeat (first | refine blk_drewN ?_ _ | refine blk_drew ?_ | refine blk_alloc ?_ _)); refine blk_far ?_ NB113_150.out _; (with_reducible repeat (first | refine blk_drewN ?_ _ | refine blk_drew ?_ | refine blk_alloc ?_ _)); refine blk_far ?_ NB113_150.out _; (with_reducible repeat (first | refine blk_drewN ?_ _ | refine blk_drew ?_ | refine blk_alloc ?_ _)); exact BK113.out) hb); replace BK150 := Aside0.mk (blk_below (g := gb150) (o := .cells #[.int .i64 t148, .int .i64 t149] 46 (0, 0)) (by (with_reducible repeat (first | refine blk_drewN ?_ _ | refine blk_drew ?_ | refine blk_alloc ?_ _)); refine blk_put (cs := #[.int .i64 t148, .int .i64 0]) ?_ 1 _ rfl; (with_reducible repeat (first | refine blk_drewN ?_ _ | refine blk_drew ?_ | refine blk_alloc ?_ _)); refine blk_put (cs := #[.int .i64 0, .int .i64 0]) ?_ 0 _ rfl; (with_reducible repeat (first | refine blk_drewN ?_ _ | refine blk_drew ?_ | refine blk_alloc ?_ _)); exact BK150.out) hb); replace HB := tA HB hb; (try clear hb); (try clear hb2); (try clear hk); (try clear hi)))
              go_ret
              exact ⟨by first | rfl | (simp [errW_none, errW_some] <;> rfl) | (simp only [← hji155]; first | rfl | (simp [errW_none, errW_some] <;> rfl)) | (simp [*, errW_none, errW_some] <;> rfl), tB⟩
             rw [if_neg c158] at H
             have c158b0 := beq_eq_false_iff_ne.mpr c158
             have c158b1 := bne_iff_ne.mpr c158
             obtain rfl := Option.some.inj H
             have hnb172 := NB113_101.out
             have hnc172 := NB101_113.out
             obtain ⟨hcz173_0, hcz173_1, hcz173_2, hfz173_0, hfz173_1, hfz173_2⟩ := zc3 BK113
             go_wp2_with (first | ((with_reducible refine gate_callee (f := 25) rfl ?_); refine goesL_ (some 104) rfl rfl Try.func25 (by kernel_rfl) rfl #[.agg #[.slice Ao26 t105.length co26, .slice Ao29 t108.length co29, .bool t111], .int .i64 a2] rfl (by (try simp only [List.map_toArray, List.map_cons, List.map_nil]); first | done | rfl | (simp only [List.length_drop, List.length_take]; rfl)) ?_; (with_reducible refine (witness_Fires.calls kj88 _ _ t105 _ _ t108 t111 a2 t141 true _ (tC (Kd.N_reads' HO_114000.out).2.2) ((Kd.N_reads' HO_114000.out).2.1) (tC (Kd.R_reads' HO_114001.out).2.2) ((Kd.R_reads' HO_114001.out).2.1) A128.out).mono ?_); rintro e w174 ⟨v142, rfl, ho0, hb⟩; refine ⟨_, rfl, ?_⟩; replace HO_114000 := Aside0.mk (Kd.N_elder' (tR HO_114000) (Kd.R_base ho0) hb); replace HO_114001 := Aside0.mk (Kd.R_below (tR HO_114001) hb); have HO143 := Aside0.mk (Kd.R_lower (Kd.R_new' ho0 (Kd.R_lt (tR HO_9))) (below_size (tB))); replace HO_9 := Aside0.mk (Kd.R_elder' (tR HO_9) (Kd.R_base ho0) hb); replace BK101 := tL BK101 hb; replace BK113 := tL BK113 hb; replace HB := tA HB hb; (try clear hb); (try clear hb2); (try clear hk); (try clear hi); (try clear ho0); obtain ⟨hcz175_0, hcz175_1, hcz175_2, hfz175_0, hfz175_1, hfz175_2⟩ := zc3 BK101; obtain ⟨Ao176, co176, eo176⟩ := Kd.R_slice HO_9.out; subst eo176; obtain ⟨Ao177, co177, eo177⟩ := Kd.R_slice HO143.out; subst eo177) | ((with_reducible refine gate_callee (f := 23) rfl ?_); refine goesL_ (some 112) rfl rfl Try.func23 (by kernel_rfl) rfl #[.agg #[.string a0_0, .slice A0_1 l0_1.length c0_1, .slice A0_2 l0_2.length c0_2], .slice Ao176 t115.length co176, .slice Ao177 t141.length co177] rfl (by (try simp only [List.map_toArray, List.map_cons, List.map_nil]); first | done | rfl | (simp only [List.length_drop, List.length_take]; rfl)) ?_; (with_reducible refine (r11_Run.calls kj88 a0_0 _ _ l0_1 _ _ l0_2 _ _ t115 _ _ t141 t145 t148 t149 _ (tG HR0_1 HB) HC0_1.out (tG HR0_2 HB) HC0_2.out (tC (Kd.R_reads' HO_9.out).2.2) ((Kd.R_reads' HO_9.out).2.1) (tC (Kd.R_reads' HO143.out).2.2) ((Kd.R_reads' HO143.out).2.1) A130.out).mono ?_); rintro e w178 ⟨v146, rfl, ho0, hb⟩; refine ⟨_, rfl, ?_⟩; replace HO_114000 := Aside0.mk (Kd.N_elder' (tR HO_114000) (Kd.R_base ho0) hb); replace HO_114001 := Aside0.mk (Kd.R_below (tR HO_114001) hb); have HO147 := Aside0.mk (Kd.R_lower (Kd.R_new' (Kd.R_new' ho0 (Kd.R_lt (tR HO_9))) (Kd.R_lt (tR HO143))) (below_size (tB))); replace HO_9 := Aside0.mk (Kd.R_elder' (tR HO_9) (Kd.R_base ho0) hb); replace HO143 := Aside0.mk (Kd.R_elder' (tR HO143) (Kd.R_base ho0) hb); replace BK101 := tL BK101 hb; replace BK113 := tL BK113 hb; replace HB := tA HB hb; (try clear hb); (try clear hb2); (try clear hk); (try clear hi); (try clear ho0)) | ((with_reducible refine gate_dst (N := 17) rfl ?_); (try (refine gate_guard (by rfl) ?_; dsimp only)); refine tBx 17 46 #[.int .i64 0, .int .i64 0] ?_; intro gb150 hg w179 hbox hb; replace HO_9 := Aside0.mk (Kd.R_below (tR HO_9) hb); replace HO_114000 := Aside0.mk (Kd.N_below (Kd.N_elderB (tR HO_114000) gb150 (Nat.le_of_eq hg.symm)) hb); replace HO_114001 := Aside0.mk (Kd.R_below (tR HO_114001) hb); replace HO143 := Aside0.mk (Kd.R_below (tR HO143) hb); replace HO147 := Aside0.mk (Kd.R_below (tR HO147) hb); have BK150 := Aside0.mk (hbox); have GW150 := tW HB hg; have GE150 := tW HB hg; replace HB := tA HB hb; have NB101_150 := tNl BK101 hg; have NB150_101 := tNg BK101 hg; replace BK101 := tL BK101 hb; have NB113_150 := tNl BK113 hg; have NB150_113 := tNg BK113 hg; replace BK113 := tL BK113 hb; clear hb hbox hg; have hnb180 := NB150_101.out; have hnc180 := NB101_150.out; have hnb181 := NB150_113.out; have hnc181 := NB113_150.out; obtain ⟨hcz182_0, hcz182_1, hfz182_0, hfz182_1⟩ := zc2 BK150; have p151 : 0 ≤ ((ji155) : Int) := tD; have q151 : (ji155) < (t141.length : Int) := tD; obtain ⟨ad151, e151, hx151_0⟩ := Kd.at_int (Kd.R_reads' HO143.out).2.2 (ji155) p151 q151; cases e151; have hn151_0 : ad151.block ≠ gb150 := Kd.own_blk (Kd.R_ne HO143.out BK150.out (by decide)); have hn151_1 : ad151.block ≠ gb150 := Kd.own_blk (Kd.R_ne HO143.out BK150.out (by decide)); replace hx151_0 := (cell_far (p := ⟨gb150, 0, none⟩) (by first | (rw [add_block]; exact hn151_0) | (show (Addr.add _ _).block ≠ _; rw [add_block]; exact hn151_0) | exact hn151_0) (.int .i64 t148)).trans hx151_0; replace hx151_0 := (cell_far (p := ⟨gb150, 1, none⟩) (by first | (rw [add_block]; exact hn151_1) | (show (Addr.add _ _).block ≠ _; rw [add_block]; exact hn151_1) | exact hn151_1) (.int .i64 t149)).trans hx151_0; clear hn151_0; clear hn151_1; replace p151 := eq_true p151; replace q151 := eq_true q151))
             go_ret
             exact ⟨by first | rfl | (simp [errW_none, errW_some] <;> rfl) | (simp only [← hji155]; first | rfl | (simp [errW_none, errW_some] <;> rfl)) | (simp [*, errW_none, errW_some] <;> rfl), tB⟩
            replace c129 := Bool.eq_false_iff.mpr c129
            subst c129
            rw [if_neg (show ¬ (false = true) by decide)] at H
            replace H := Option.bind_eq_some_iff.mp H
            obtain ⟨t153, A1830, H⟩ := H
            (try dsimp only at H)
            have A183 := Aside0.mk A1830
            clear A1830
            obtain rfl := Option.some.inj H
            have hnb184 := NB113_101.out
            have hnc184 := NB101_113.out
            obtain ⟨hcz185_0, hcz185_1, hcz185_2, hfz185_0, hfz185_1, hfz185_2⟩ := zc3 BK113
            go_wp2_with (first | ((with_reducible refine gate_callee (f := 25) rfl ?_); refine goesL_ (some 104) rfl rfl Try.func25 (by kernel_rfl) rfl #[.agg #[.slice Ao26 t105.length co26, .slice Ao29 t108.length co29, .bool t111], .int .i64 a2] rfl (by (try simp only [List.map_toArray, List.map_cons, List.map_nil]); first | done | rfl | (simp only [List.length_drop, List.length_take]; rfl)) ?_; (with_reducible refine (witness_Fires.calls kj88 _ _ t105 _ _ t108 t111 a2 t141 false _ (tC (Kd.N_reads' HO_114000.out).2.2) ((Kd.N_reads' HO_114000.out).2.1) (tC (Kd.R_reads' HO_114001.out).2.2) ((Kd.R_reads' HO_114001.out).2.1) A128.out).mono ?_); rintro e w186 ⟨v142, rfl, ho0, hb⟩; refine ⟨_, rfl, ?_⟩; replace HO_114000 := Aside0.mk (Kd.N_elder' (tR HO_114000) (Kd.R_base ho0) hb); replace HO_114001 := Aside0.mk (Kd.R_below (tR HO_114001) hb); have HO143 := Aside0.mk (Kd.R_lower (Kd.R_new' ho0 (Kd.R_lt (tR HO_9))) (below_size (tB))); replace HO_9 := Aside0.mk (Kd.R_elder' (tR HO_9) (Kd.R_base ho0) hb); replace BK101 := tL BK101 hb; replace BK113 := tL BK113 hb; replace HB := tA HB hb; (try clear hb); (try clear hb2); (try clear hk); (try clear hi); (try clear ho0)) | ((with_reducible refine gate_callee (f := 10) rfl ?_); refine goesL_ (some 133) rfl rfl Try.func10 (by kernel_rfl) rfl #[] rfl (by (try simp only [List.map_toArray, List.map_cons, List.map_nil]); first | done | rfl | (simp only [List.length_drop, List.length_take]; rfl)) ?_; (with_reducible refine (l16_alive.calls kj88  t153 _ A183.out).mono ?_); rintro e w187 ⟨rfl, hb⟩; refine ⟨_, rfl, ?_⟩; replace HO_9 := Aside0.mk (Kd.R_below (tR HO_9) hb); replace HO_114000 := Aside0.mk (Kd.N_below (tR HO_114000) hb); replace HO_114001 := Aside0.mk (Kd.R_below (tR HO_114001) hb); replace HO143 := Aside0.mk (Kd.R_below (tR HO143) hb); replace BK101 := tL BK101 hb; replace BK113 := tL BK113 hb; replace HB := tA HB hb; (try clear hb); (try clear hb2); (try clear hk); (try clear hi)))
            go_ret
            exact ⟨tE, tB⟩
   rw [if_neg c19] at H
   have c19b0 := beq_eq_false_iff_ne.mpr c19
   have c19b1 := bne_iff_ne.mpr c19
   replace H := Option.bind_eq_some_iff.mp H
   obtain ⟨t114, A1880, H⟩ := H
   (try dsimp only at H)
   have A188 := Aside0.mk A1880
   clear A1880
   obtain rfl := Option.some.inj H
   obtain ⟨hcz189_0, hcz189_1, hcz189_2, hfz189_0, hfz189_1, hfz189_2⟩ := zc3 BK101
   go_wp2_with (first | ((with_reducible refine gate_callee (f := 21) rfl ?_); refine goesL_ (some 29) rfl rfl Try.func21 (by kernel_rfl) rfl #[.agg #[.string a0_0, .slice A0_1 l0_1.length c0_1, .slice A0_2 l0_2.length c0_2], .int .i64 60] rfl (by (try simp only [List.map_toArray, List.map_cons, List.map_nil]); first | done | rfl | (simp only [List.length_drop, List.length_take]; rfl)) ?_; (with_reducible refine (r14_Explore.calls kj3 a0_0 _ _ l0_1 _ _ l0_2 60 t105 t108 t111 t112 _ (tG HR0_1 HB) HC0_1.out (tG HR0_2 HB) HC0_2.out A18.out).mono ?_); rintro e w190 ⟨v106, v109, rfl, ho0, ho1, hb⟩; refine ⟨_, rfl, ?_⟩; have HO107 := Aside0.mk (Kd.N_lower (Kd.N_mono (ok' := fun k_ => some k_ ≠ (v109 : Value).ownBlock ∧ k_ ≠ gb101) ho0 (fun k_ hk_ => ⟨hk_.2, (Kd.freshB (g := gb101) (o := .cells #[.string a0_0, .slice A0_1 l0_1.length c0_1, .slice A0_2 l0_2.length c0_2] 39 (0, 0)) (tK BK101) k_ hk_.1)⟩)) (below_size (tB))); have HO110 := Aside0.mk (Kd.R_lower (Kd.R_mono (ok' := fun k_ => True) ho1 (fun _ hk_ => trivial)) (below_size (tB))); replace BK101 := tL BK101 hb; replace HB := tA HB hb; (try clear hb); (try clear hb2); (try clear hk); (try clear hi); (try clear ho0); (try clear ho1)) | ((with_reducible refine gate_dst (N := 7) rfl ?_); (try (refine gate_guard (by rfl) ?_; dsimp only)); refine tBx 7 25 #[.slice none 0 0, .slice none 0 0, .bool false] ?_; intro gb113 hg w191 hbox hb; replace HO107 := Aside0.mk (Kd.N_below (Kd.N_elderB (tR HO107) gb113 (Nat.le_of_eq hg.symm)) hb); replace HO110 := Aside0.mk (Kd.R_below (tR HO110) hb); have BK113 := Aside0.mk (hbox); have GW113 := tW HB hg; have GE113 := tW HB hg; replace HB := tA HB hb; have NB101_113 := tNl BK101 hg; have NB113_101 := tNg BK101 hg; replace BK101 := tL BK101 hb; clear hb hbox hg; obtain ⟨Ao192, co192, eo192⟩ := Kd.N_slice HO107.out; subst eo192; have hnb193 := NB113_101.out; have hnc193 := NB101_113.out; obtain ⟨hcz194_0, hcz194_1, hcz194_2, hfz194_0, hfz194_1, hfz194_2⟩ := zc3 BK113; obtain ⟨Ao195, co195, eo195⟩ := Kd.R_slice HO110.out; subst eo195) | ((with_reducible refine gate_callee (f := 10) rfl ?_); refine goesL_ (some 34) rfl rfl Try.func10 (by kernel_rfl) rfl #[] rfl (by (try simp only [List.map_toArray, List.map_cons, List.map_nil]); first | done | rfl | (simp only [List.length_drop, List.length_take]; rfl)) ?_; (with_reducible refine (l16_alive.calls kj3  t114 _ A188.out).mono ?_); rintro e w196 ⟨rfl, hb⟩; refine ⟨_, rfl, ?_⟩; replace HO107 := Aside0.mk (Kd.N_below (by (with_reducible repeat (first | apply Kd.N_alloc | apply Kd.N_drewN | apply Kd.N_drew)); exact (Kd.N_mono (Kd.N_far (p := ⟨gb113, 2, none⟩) (Kd.N_far (p := ⟨gb113, 1, none⟩) (Kd.N_far (p := ⟨gb113, 0, none⟩) (Kd.N_mono HO107.out (fun k_ hk => (⟨hk, hk.2⟩ : _ ∧ k_ ≠ gb113))) (fun _ hk => hk.2) (.slice Ao192 t105.length co192)) (fun _ hk => hk.2) (.slice Ao195 t108.length co195)) (fun _ hk => hk.2) (.bool t111)) (fun _ h_ => h_.1))) hb); replace HO110 := Aside0.mk (Kd.R_below (by (with_reducible repeat (first | apply Kd.R_alloc | apply Kd.R_drewN | apply Kd.R_drew)); exact (Kd.R_mono (Kd.R_far (p := ⟨gb113, 2, none⟩) (Kd.R_far (p := ⟨gb113, 1, none⟩) (Kd.R_far (p := ⟨gb113, 0, none⟩) (Kd.R_types HO110.out BK113.out (by decide)) (fun _ hk => hk.2) (.slice Ao192 t105.length co192)) (fun _ hk => hk.2) (.slice Ao195 t108.length co195)) (fun _ hk => hk.2) (.bool t111)) (fun _ h_ => h_.1))) hb); replace BK101 := Aside0.mk (blk_below (g := gb101) (o := .cells #[.string a0_0, .slice A0_1 l0_1.length c0_1, .slice A0_2 l0_2.length c0_2] 39 (0, 0)) (by (with_reducible repeat (first | refine blk_drewN ?_ _ | refine blk_drew ?_ | refine blk_alloc ?_ _)); refine blk_far ?_ NB101_113.out _; (with_reducible repeat (first | refine blk_drewN ?_ _ | refine blk_drew ?_ | refine blk_alloc ?_ _)); refine blk_far ?_ NB101_113.out _; (with_reducible repeat (first | refine blk_drewN ?_ _ | refine blk_drew ?_ | refine blk_alloc ?_ _)); refine blk_far ?_ NB101_113.out _; (with_reducible repeat (first | refine blk_drewN ?_ _ | refine blk_drew ?_ | refine blk_alloc ?_ _)); exact BK101.out) hb); replace BK113 := Aside0.mk (blk_below (g := gb113) (o := .cells #[.slice Ao192 t105.length co192, .slice Ao195 t108.length co195, .bool t111] 25 (0, 0)) (by (with_reducible repeat (first | refine blk_drewN ?_ _ | refine blk_drew ?_ | refine blk_alloc ?_ _)); refine blk_put (cs := #[.slice Ao192 t105.length co192, .slice Ao195 t108.length co195, .bool false]) ?_ 2 _ rfl; (with_reducible repeat (first | refine blk_drewN ?_ _ | refine blk_drew ?_ | refine blk_alloc ?_ _)); refine blk_put (cs := #[.slice Ao192 t105.length co192, .slice none 0 0, .bool false]) ?_ 1 _ rfl; (with_reducible repeat (first | refine blk_drewN ?_ _ | refine blk_drew ?_ | refine blk_alloc ?_ _)); refine blk_put (cs := #[.slice none 0 0, .slice none 0 0, .bool false]) ?_ 0 _ rfl; (with_reducible repeat (first | refine blk_drewN ?_ _ | refine blk_drew ?_ | refine blk_alloc ?_ _)); exact BK113.out) hb); replace HB := tA HB hb; (try clear hb); (try clear hb2); (try clear hk); (try clear hi)))
   go_ret
   exact ⟨tE, tB⟩
end Go.Proofs.Ytfnjbgggmddgpaa.Q
end
section
set_option linter.unusedVariables false
set_option linter.unusedSimpArgs false
namespace Go.Proofs.Ytfnjbgggmddgpaa.Q
open Go.RowKit Go.Proofs.Fn Go.Proofs.YtfnjbgggmddgpaaW.PrintWords Go.Proofs.YtfnjbgggmddgpaaW.PrintMore Go.Proofs.Gr
theorem rd_get {xs : List Int} {i : Nat} (h : i < xs.length) : rd xs (i : Int) = xs[i] := by simp [rd, h]
theorem rd93 {xs : List S93} {i : Nat} (h : i < xs.length) : rd_T93 xs (i : Int) = xs[i] := by simp [rd_T93, h]
theorem rd74 {xs : List S74} {i : Nat} (h : i < xs.length) : rd_T74 xs (i : Int) = xs[i] := by simp [rd_T74, h]
theorem rd71 {xs : List S71} {i : Nat} (h : i < xs.length) : rd_T71 xs (i : Int) = xs[i] := by simp [rd_T71, h]
theorem rdL3 {xs : List (List Int)} {i : Nat} (h : i < xs.length) : rd_L3 xs (i : Int) = xs[i] := by simp [rd_L3, h]
def wt (l : List S93) (p : Int) : Int := match l with
  | [] => 0
  | a :: l => if a.f0 = p then a.f1 else wt l p
theorem weight_ev (l : List S93) (p : Int) (hl : l.length ≤ 1000000) : Evn (fun k => r11_weight.f k l p) (wt l p) := by
  have key : ∀ (m i : Nat), i + m = l.length → Evn (fun k => r11_weight.l0 k l p (i : Int)) (wt (l.drop i) p) := by
    intro m
    induction m with
    | zero =>
      intro i hi
      refine Evn.succ ?_
      simp only [r11_weight.l0]
      refine Evn.neg (by omega) ?_
      rw [List.drop_of_length_le (by omega)]
      exact Evn.const _
    | succ m ih =>
      intro i hi
      have hil : i < l.length := by omega
      refine Evn.succ ?_
      simp only [r11_weight.l0, wrap_succ (show i < 9223372036854775807 by omega), rd93 hil]
      refine Evn.pos (by omega) (Evn.pos (by omega) ?_)
      rw [List.drop_eq_getElem_cons hil, wt]
      by_cases c : l[i].f0 = p
      · rw [if_pos c]; exact Evn.pos c (Evn.const _)
      · rw [if_neg c]; exact Evn.neg c (ih (i + 1) (by omega))
  exact key l.length 0 (by omega)
theorem wt_bound {l : List S93} (h : ∀ a ∈ l, 1 ≤ a.f1 ∧ a.f1 ≤ 99) (p : Int) : 0 ≤ wt l p ∧ wt l p ≤ 99 := by
  induction l with
  | nil => simp [wt]
  | cons a l ih =>
    rw [wt]
    have h1 := h a List.mem_cons_self
    split
    · omega
    · exact ih (fun b hb => h b (List.mem_cons_of_mem _ hb))
theorem same2_ev (a b : List Int) (ha : a.length ≤ 1000000) : Evn (fun k => r04_Same.f k a b) (decide (a = b)) := by
  unfold r04_Same.f
  by_cases hl : a.length = b.length
  · refine Evn.pos (by omega) ?_
    have key : ∀ (m i : Nat), i + m = a.length → Evn (fun k => r04_Same.l0 k a b (i : Int)) (decide (a.drop i = b.drop i)) := by
      intro m
      induction m with
      | zero =>
        intro i hi
        refine Evn.succ ?_
        simp only [r04_Same.l0]
        refine Evn.neg (by omega) ?_
        rw [List.drop_of_length_le (by omega), List.drop_of_length_le (by omega)]
        exact Evn.const _
      | succ m ih =>
        intro i hi
        have h1 : i < a.length := by omega
        have h2 : i < b.length := by omega
        refine Evn.succ ?_
        simp only [r04_Same.l0, wrap_succ (show i < 9223372036854775807 by omega), rd_get h1, rd_get h2]
        refine Evn.pos (by omega) (Evn.pos (by omega) (Evn.pos (by omega) ?_))
        rw [List.drop_eq_getElem_cons h1, List.drop_eq_getElem_cons h2]
        by_cases c : a[i] = b[i]
        · have := ih (i + 1) (by omega)
          refine Evn.pos c ?_
          rw [show decide (a[i] :: a.drop (i + 1) = b[i] :: b.drop (i + 1)) = decide (a.drop (i + 1) = b.drop (i + 1)) by rw [c]; congr 1; rw [List.cons.injEq]; simp only [true_and]]
          exact this
        · refine Evn.neg c ?_
          have : decide (a[i] :: a.drop (i + 1) = b[i] :: b.drop (i + 1)) = false := by
            rw [decide_eq_false_iff_not, List.cons.injEq]; exact fun h => c h.1
          rw [this]
          exact Evn.const _
    exact key a.length 0 (by omega)
  · refine Evn.neg (by omega) ?_
    have : decide (a = b) = false := by
      rw [decide_eq_false_iff_not]; intro h; exact hl (by rw [h])
    rw [this]
    exact Evn.const _
theorem find_dp (L : List (List Int)) (m : List Int) (hL : L.length ≤ 1000000) (hr : ∀ x ∈ L, x.length ≤ 1000000) :
    Dp (fun k => r14_Find.f k L m) (fun r => (r = -1 ∧ m ∉ L) ∨ ∃ i : Nat, r = (i : Int) ∧ L[i]? = some m) := by
  have key : ∀ (n i : Nat), i + n = L.length → Dp (fun k => r14_Find.l0 k L m (i : Int)) (fun r => (r = -1 ∧ m ∉ L.drop i) ∨ ∃ i : Nat, r = (i : Int) ∧ L[i]? = some m) := by
    intro n
    induction n with
    | zero =>
      intro i hi
      refine Dp.succ ?_
      simp only [r14_Find.l0]
      refine Dp.neg (by omega) (Dp.const (.inl ⟨rfl, ?_⟩))
      rw [List.drop_of_length_le (by omega)]; simp
    | succ n ih =>
      intro i hi
      have hil : i < L.length := by omega
      refine Dp.succ ?_
      simp only [r14_Find.l0, wrap_succ (show i < 9223372036854775807 by omega), rdL3 hil]
      refine Dp.pos (by omega) (Dp.pos (by omega) ?_)
      refine Dp.bind (same2_ev L[i] m (hr _ (List.getElem_mem _))).dp (fun a _ ha => ?_)
      subst ha
      by_cases c : L[i] = m
      · refine Dp.pos (by simpa using c) (Dp.const (.inr ⟨i, rfl, ?_⟩))
        rw [List.getElem?_eq_getElem hil, c]
      · refine Dp.neg (by simpa using c) ((ih (i + 1) (by omega)).imp ?_)
        rintro r (⟨h1, h2⟩ | h)
        · refine .inl ⟨h1, ?_⟩
          rw [List.drop_eq_getElem_cons hil, List.mem_cons, not_or]
          exact ⟨fun e => c e.symm, h2⟩
        · exact .inr h
  exact key L.length 0 (by omega)
def VM (n : Nat) (m : List Int) : Prop := m.length = n ∧ ∀ x ∈ m, 0 ≤ x ∧ x ≤ 1048576
theorem valid_ev {n : Nat} {m : List Int} (h : VM n m) (hn : n ≤ 1000000) : Evn (fun k => r04_Valid.f k m (n : Int)) true := by
  obtain ⟨h1, h2⟩ := h
  have key : ∀ (j i : Nat), i + j = m.length → Evn (fun k => r04_Valid.l0 k m (n : Int) (i : Int)) true := by
    intro j
    induction j with
    | zero =>
      intro i hi
      refine Evn.succ ?_
      simp only [r04_Valid.l0, h1]
      refine Evn.neg (by omega) ?_
      rw [show ((n : Int) == (n : Int)) = true by simp]
      exact Evn.const _
    | succ j ih =>
      intro i hi
      have hil : i < m.length := by omega
      have h3 := h2 _ (List.getElem_mem hil)
      refine Evn.succ ?_
      simp only [r04_Valid.l0, wrap_succ (show i < 9223372036854775807 by omega), rd_get hil]
      refine Evn.pos (by omega) (Evn.pos (by omega) (Evn.neg (by omega) (Evn.neg (by omega) (ih (i + 1) (by omega)))))
  exact key m.length 0 (by omega)
theorem copy_ev (m : List Int) (hm : m.length ≤ 1000000) : Evn (fun k => r04_Copy.f k m) m := by
  have key : ∀ (j i : Nat), i + j = m.length → Evn (fun k => r04_Copy.l0 k m (m.take i) (i : Int)) m := by
    intro j
    induction j with
    | zero =>
      intro i hi
      refine Evn.succ ?_
      simp only [r04_Copy.l0]
      refine Evn.neg (by omega) ?_
      rw [List.take_of_length_le (by omega)]
      exact Evn.const _
    | succ j ih =>
      intro i hi
      have hil : i < m.length := by omega
      refine Evn.succ ?_
      simp only [r04_Copy.l0, wrap_succ (show i < 9223372036854775807 by omega), rd_get hil]
      refine Evn.pos (by omega) (Evn.pos (by omega) (Evn.pos (by simp; omega) ?_))
      have := ih (i + 1) (by omega)
      rwa [List.take_succ_eq_append_getElem hil] at this
  exact key m.length 0 (by omega)
theorem has_ev {l : List Int} {t : Int} (h : t ∈ l) (hl : l.length ≤ 1000000) : Evn (fun k => r11_has.f k l t) true := by
  have key : ∀ (j i : Nat), i + j = l.length → t ∈ l.drop i → Evn (fun k => r11_has.l0 k l t (i : Int)) true := by
    intro j
    induction j with
    | zero =>
      intro i hi h
      rw [List.drop_of_length_le (by omega)] at h; cases h
    | succ j ih =>
      intro i hi h
      have hil : i < l.length := by omega
      rw [List.drop_eq_getElem_cons hil] at h
      refine Evn.succ ?_
      simp only [r11_has.l0, wrap_succ (show i < 9223372036854775807 by omega), rd_get hil]
      refine Evn.pos (by omega) (Evn.pos (by omega) ?_)
      by_cases c : l[i] = t
      · exact Evn.pos c (Evn.const _)
      · refine Evn.neg c (ih (i + 1) (by omega) ?_)
        rcases List.mem_cons.1 h with h | h
        · exact absurd h.symm c
        · exact h
  exact key l.length 0 (by omega) (by simpa using h)
def Arcs (l : List S93) : Prop := l.length ≤ 1000 ∧ ∀ a ∈ l, 1 ≤ a.f1 ∧ a.f1 ≤ 99
structure OkN (P : List S71) (T : List S74) : Prop where
  np : 1 ≤ P.length ∧ P.length ≤ 24
  nt : T.length ≤ 24
  ini : ∀ x ∈ P, 0 ≤ x.f1 ∧ x.f1 ≤ 1048576
  arcs : ∀ t ∈ T, Arcs t.f1 ∧ Arcs t.f2 ∧ Arcs t.f3
def RdyP (P : List S71) (t : S74) (m : List Int) : Prop := ∀ p : Nat, p < P.length → wt t.f1 (p : Int) ≤ rd m (p : Int)
theorem VM.get {n : Nat} {m : List Int} (h : VM n m) {i : Nat} (hi : i < n) : 0 ≤ rd m (i : Int) ∧ rd m (i : Int) ≤ 1048576 := by
  have hil : i < m.length := by rw [h.1]; exact hi
  rw [rd_get hil]
  exact h.2 _ (List.getElem_mem hil)
theorem ready_dp (a0 : ByteArray) {P : List S71} {T : List S74} (hN : OkN P T) {m : List Int} (hm : VM P.length m) {t : Nat} (ht : t < T.length) :
    Dp (fun k => r11_Ready.f k a0 P T m (t : Int)) (fun r => r = true → RdyP P T[t] m) := by
  unfold r11_Ready.f
  refine Dp.pos (by omega) (Dp.pos (by omega) ?_)
  rw [rd74 ht]
  have hA := hN.arcs _ (List.getElem_mem ht)
  revert hA
  generalize T[t] = x
  intro hA
  have key : ∀ (j i : Nat), i + j = P.length → Dp (fun k => r11_Ready.l0 k m (i : Int) a0 P T x.f0 x.f1 x.f2 x.f3 x.f4) (fun r => r = true → ∀ p : Nat, i ≤ p → p < P.length → wt x.f1 (p : Int) ≤ rd m (p : Int)) := by
    intro j
    induction j with
    | zero =>
      intro i hi
      refine Dp.succ ?_
      simp only [r11_Ready.l0]
      exact Dp.neg (by omega) (Dp.const (fun _ p h1 h2 => by omega))
    | succ j ih =>
      intro i hi
      have hnp := hN.np
      have hml := hm.1
      have again : ¬ rd m (i : Int) < wt x.f1 (i : Int) → Dp (fun k => r11_Ready.l0 k m ((i + 1 : Nat) : Int) a0 P T x.f0 x.f1 x.f2 x.f3 x.f4) (fun r => r = true → ∀ p : Nat, i ≤ p → p < P.length → wt x.f1 (p : Int) ≤ rd m (p : Int)) := by
        intro hc
        refine (ih (i + 1) (by omega)).imp (fun r h hr p h1 h2 => ?_)
        by_cases e : p = i
        · subst e; omega
        · exact h hr p (by omega) h2
      refine Dp.succ ?_
      simp only [r11_Ready.l0, wrap_succ (show i < 9223372036854775807 by omega)]
      refine Dp.pos (by omega) (Dp.bind (weight_ev x.f3 i (by have := hA.2.2.1; omega)).dp (fun w3 _ hw3 => ?_))
      refine Dp.pos (by omega) (Dp.pos (by omega) (Dp.bind (weight_ev x.f1 i (by have := hA.1.1; omega)).dp (fun w1 _ hw1 => Dp.bind (weight_ev x.f2 i (by have := hA.2.1.1; omega)).dp (fun w2 _ hw2 => Dp.bind (weight_ev x.f1 i (by have := hA.1.1; omega)).dp (fun w4 _ hw4 => ?_)))))
      subst hw4
      have no : ∀ {c : Prop} [Decidable c] {A : Nat → Option Bool} , (¬ c → Dp A (fun r => r = true → ∀ p : Nat, i ≤ p → p < P.length → wt x.f1 (p : Int) ≤ rd m (p : Int))) → Dp (fun k => if c then some false else A k) (fun r => r = true → ∀ p : Nat, i ≤ p → p < P.length → wt x.f1 (p : Int) ≤ rd m (p : Int)) :=
        fun h => Dp.ite (fun _ => Dp.const (fun h => by cases h)) h
      refine no (fun hc => ?_)
      refine Dp.ite (fun _ => no (fun _ => Dp.ite (fun _ => no (fun _ => again hc)) (fun _ => again hc))) (fun _ => Dp.ite (fun _ => no (fun _ => again hc)) (fun _ => again hc))
  exact (key P.length 0 (by omega)).imp (fun r h hr p hp => h hr p (by omega) hp)
def MayL (P : List S71) (T : List S74) (m : List Int) (r : List Int) : Prop := r.length ≤ T.length ∧ ∀ t ∈ r, ∃ j : Nat, t = (j : Int) ∧ ∃ h : j < T.length, RdyP P T[j] m
theorem fires_dp (a0 : ByteArray) {P : List S71} {T : List S74} (hN : OkN P T) {m : List Int} (hm : VM P.length m) :
    Dp (fun k => r11_Fires.f k a0 P T m) (MayL P T m) := by
  unfold r11_Fires.f
  have hnt := hN.nt
  have inner : ∀ (R : List Int) (most : Int), MayL P T m R → ∀ (j i : Nat) (out : List Int), i + j = R.length → out.length ≤ i → (∀ t ∈ out, t ∈ R) → Dp (fun k => r11_Fires.l1 k R most out (i : Int) a0 P T) (MayL P T m) := by
    intro R most hR j
    have hRl := hR.1
    induction j with
    | zero =>
      intro i out hi ho hs
      refine Dp.succ ?_
      simp only [r11_Fires.l1]
      exact Dp.neg (by omega) (Dp.const ⟨by omega, fun t ht => hR.2 t (hs t ht)⟩)
    | succ j ih =>
      intro i out hi ho hs
      have hil : i < R.length := by omega
      obtain ⟨q, hq, hq2, _⟩ := hR.2 _ (List.getElem_mem hil)
      refine Dp.succ ?_
      simp only [r11_Fires.l1, wrap_succ (show i < 9223372036854775807 by omega), rd_get hil]
      refine Dp.pos (by omega) (Dp.pos (by omega) (Dp.pos (by omega) (Dp.pos (by omega) (Dp.ite (fun _ => Dp.pos (by omega) ?_) (fun _ => ?_)))))
      · refine ih (i + 1) _ (by omega) (by simp; omega) (fun t ht => ?_)
        rcases List.mem_append.1 ht with h | h
        · exact hs t h
        · rw [List.mem_singleton.1 h]; exact List.getElem_mem hil
      · exact ih (i + 1) out (by omega) (by omega) hs
  have outer : ∀ (j i : Nat) (R : List Int) (most : Int), i + j = T.length → R.length ≤ i → (∀ t ∈ R, ∃ j : Nat, t = (j : Int) ∧ ∃ h : j < T.length, RdyP P T[j] m) → Dp (fun k => r11_Fires.l0 k m R most (i : Int) a0 P T) (MayL P T m) := by
    intro j
    induction j with
    | zero =>
      intro i R most hi hR hs
      refine Dp.succ ?_
      simp only [r11_Fires.l0]
      exact Dp.neg (by omega) (inner R most ⟨by omega, hs⟩ R.length 0 [] (by omega) (by simp) (by simp))
    | succ j ih =>
      intro i R most hi hR hs
      have hil : i < T.length := by omega
      refine Dp.succ ?_
      simp only [r11_Fires.l0, wrap_succ (show i < 9223372036854775807 by omega)]
      refine Dp.pos (by omega) (Dp.bind (ready_dp a0 hN hm hil) (fun b _ hb => Dp.ite (fun c => Dp.pos (by omega) (Dp.pos (by omega) ?_)) (fun c => ?_)))
      · refine ih (i + 1) _ _ (by omega) (by simp; omega) (fun t ht => ?_)
        rcases List.mem_append.1 ht with h | h
        · exact hs t h
        · exact ⟨i, List.mem_singleton.1 h, hil, hb c⟩
      · exact ih (i + 1) R most (by omega) (by omega) hs
  exact outer T.length 0 [] 0 (by omega) (by simp) (by simp)
theorem after_dp (a0 : ByteArray) {P : List S71} {T : List S74} (hN : OkN P T) {m : List Int} (hm : VM P.length m) {t : Nat} (ht : t < T.length) :
    Dp (fun k => r11_After.f k a0 P T m (t : Int)) (fun r => r.2 = true → RdyP P T[t] m → VM P.length r.1) := by
  unfold r11_After.f
  have hA := hN.arcs _ (List.getElem_mem ht)
  have hnp := hN.np
  have hml := hm.1
  have key : ∀ (j i : Nat) (out : List Int), i + j = P.length → out.length = i → (RdyP P T[t] m → ∀ x ∈ out, 0 ≤ x ∧ x ≤ 1048576) → Dp (fun k => r11_After.l0 k m (t : Int) out (i : Int) a0 P T) (fun r => r.2 = true → RdyP P T[t] m → VM P.length r.1) := by
    intro j
    induction j with
    | zero =>
      intro i out hi ho hs
      refine Dp.succ ?_
      simp only [r11_After.l0]
      exact Dp.neg (by omega) (Dp.const (fun _ hr => ⟨by simp only; omega, hs hr⟩))
    | succ j ih =>
      intro i out hi ho hs
      have hip : i < P.length := by omega
      have hx := hm.get hip
      have b1 := wt_bound hA.1.2 (i : Int)
      have b2 := wt_bound hA.2.1.2 (i : Int)
      refine Dp.succ ?_
      simp only [r11_After.l0, wrap_succ (show i < 9223372036854775807 by omega), rd74 ht]
      refine Dp.pos (by omega) (Dp.pos (by omega) (Dp.pos (by omega) (Dp.pos (by omega) (Dp.pos (by omega) (Dp.bind (weight_ev _ i (by have := hA.1.1; omega)).dp (fun w1 _ hw1 => Dp.bind (weight_ev _ i (by have := hA.2.1.1; omega)).dp (fun w2 _ hw2 => ?_)))))))
      subst hw1
      subst hw2
      have e1 : wrap64 (rd m (i : Int) - wt T[t].f1 (i : Int)) = rd m (i : Int) - wt T[t].f1 (i : Int) := by unfold wrap64; omega
      have e2 : wrap64 (rd m (i : Int) - wt T[t].f1 (i : Int) + wt T[t].f2 (i : Int)) = rd m (i : Int) - wt T[t].f1 (i : Int) + wt T[t].f2 (i : Int) := by unfold wrap64; omega
      rw [e1, e2]
      refine Dp.ite (fun _ => Dp.const (fun h => by cases h)) (fun c => Dp.pos (by omega) ?_)
      refine ih (i + 1) _ (by omega) (by simp [ho]) (fun hr x hx2 => ?_)
      rcases List.mem_append.1 hx2 with h | h
      · exact hs hr x h
      · rw [List.mem_singleton.1 h]
        have := hr i hip
        omega
  exact key P.length 0 [] (by omega) rfl (fun _ x hx => by cases hx)
structure Short (n : Nat) (P : List S71) (T : List S74) : Prop where
  np : P.length ≤ n
  nt : T.length ≤ n
  arcs : ∀ t ∈ T, t.f1.length ≤ n ∧ t.f2.length ≤ n ∧ t.f3.length ≤ n
theorem small_dp (a0 : ByteArray) (P : List S71) (T : List S74) : Dp (fun k => r09_Small.f k a0 P T) (fun r => r.2.2.2 = true → Short 26 P T) := by
  have no : ∀ {c : Prop} [Decidable c] {A : Nat → Option (ByteArray × List S71 × List S74 × Bool)}, (¬ c → Dp A (fun r => r.2.2.2 = true → Short 26 P T)) → Dp (fun k => if c then some ((⟨#[]⟩ : ByteArray), ([] : List (S71)), ([] : List (S74)), false) else A k) (fun r => r.2.2.2 = true → Short 26 P T) :=
    fun h => Dp.ite (fun _ => Dp.const (fun h => by cases h)) h
  have two : P.length ≤ 26 → T.length ≤ 26 → ∀ (j i : Nat), i + j = T.length → (∀ q : Nat, q < i → ∀ h : q < T.length, T[q].f1.length ≤ 26 ∧ T[q].f2.length ≤ 26 ∧ T[q].f3.length ≤ 26) → Dp (fun k => r09_Small.l1 k (i : Int) a0 P T) (fun r => r.2.2.2 = true → Short 26 P T) := by
    intro hp ht j
    induction j with
    | zero =>
      intro i hi hs
      refine Dp.succ ?_
      simp only [r09_Small.l1]
      refine Dp.neg (by omega) (Dp.const (fun _ => ⟨hp, ht, fun t htt => ?_⟩))
      obtain ⟨q, hq, rfl⟩ := List.mem_iff_getElem.1 htt
      exact hs q (by omega) hq
    | succ j ih =>
      intro i hi hs
      have hil : i < T.length := by omega
      refine Dp.succ ?_
      simp only [r09_Small.l1, wrap_succ (show i < 9223372036854775807 by omega), rd74 hil]
      refine Dp.pos (by omega) (Dp.pos (by omega) (no (fun _ => no (fun c1 => no (fun c2 => no (fun c3 => ih (i + 1) (by omega) (fun q hq h => ?_)))))))
      by_cases e : q = i
      · subst e; omega
      · exact hs q (by omega) h
  have one : P.length ≤ 26 → T.length ≤ 26 → ∀ (j i : Nat), i + j = P.length → Dp (fun k => r09_Small.l0 k (i : Int) a0 P T) (fun r => r.2.2.2 = true → Short 26 P T) := by
    intro hp ht j
    induction j with
    | zero =>
      intro i hi
      refine Dp.succ ?_
      simp only [r09_Small.l0]
      exact Dp.neg (by omega) (two hp ht T.length 0 (by omega) (fun q hq => by omega))
    | succ j ih =>
      intro i hi
      refine Dp.succ ?_
      simp only [r09_Small.l0, wrap_succ (show i < 9223372036854775807 by omega)]
      exact Dp.pos (by omega) (Dp.pos (by omega) (no (fun _ => ih (i + 1) (by omega))))
  unfold r09_Small.f
  have jt : ∀ b : Bool, (b = false → P.length ≤ 26 ∧ T.length ≤ 26) → Dp (fun k => r09_Small.j0 k b a0 P T) (fun r => r.2.2.2 = true → Short 26 P T) := by
    intro b hb
    refine Dp.succ ?_
    simp only [r09_Small.j0]
    refine no (fun c => ?_)
    have h := hb (by simpa using c)
    exact one h.1 h.2 P.length 0 (by omega)
  exact Dp.ite (fun _ => jt true (fun h => by cases h)) (fun c1 => Dp.ite (fun _ => jt true (fun h => by cases h)) (fun c2 => jt _ (fun _ => by omega)))
theorem light1_dp (l : List S93) : Dp (fun k => r09_light.f k l) (fun b => b = true → l.length ≤ 6) := by
  unfold r09_light.f
  refine Dp.ite (fun _ => Dp.const (fun h => by cases h)) (fun c => ?_)
  have key : ∀ (j i : Nat), i + j = l.length → Dp (fun k => r09_light.l0 k l (i : Int)) (fun b => b = true → l.length ≤ 6) := by
    intro j
    induction j with
    | zero =>
      intro i hi
      refine Dp.succ ?_
      simp only [r09_light.l0]
      exact Dp.neg (by omega) (Dp.const (fun _ => by omega))
    | succ j ih =>
      intro i hi
      refine Dp.succ ?_
      simp only [r09_light.l0, wrap_succ (show i < 9223372036854775807 by omega)]
      exact Dp.pos (by omega) (Dp.pos (by omega) (Dp.ite (fun _ => Dp.const (fun h => by cases h)) (fun _ => ih (i + 1) (by omega))))
  exact key l.length 0 (by omega)
theorem light_dp (a0 : ByteArray) (P : List S71) (T : List S74) : Dp (fun k => r09_Light.f k a0 P T) (fun b => b = true → Short 26 P T) := by
  unfold r09_Light.f
  have no : ∀ {c : Prop} [Decidable c] {A : Nat → Option Bool}, (¬ c → Dp A (fun r => r = true → Short 26 P T)) → Dp (fun k => if c then some false else A k) (fun r => r = true → Short 26 P T) :=
    fun h => Dp.ite (fun _ => Dp.const (fun h => by cases h)) h
  have yes : ∀ {c : Prop} [Decidable c] {A : Nat → Option Bool}, (c → Dp A (fun r => r = true → Short 26 P T)) → Dp (fun k => if c then A k else some false) (fun r => r = true → Short 26 P T) :=
    fun h => Dp.ite h (fun _ => Dp.const (fun h => by cases h))
  have two : Short 26 P T → ∀ (j i : Nat), i + j = T.length → Dp (fun k => r09_Light.l1 k (i : Int) a0 P T) (fun r => r = true → Short 26 P T) := by
    intro hS j
    have := hS.nt
    induction j with
    | zero =>
      intro i hi
      refine Dp.succ ?_
      simp only [r09_Light.l1]
      exact Dp.neg (by omega) (Dp.const (fun _ => hS))
    | succ j ih =>
      intro i hi
      refine Dp.succ ?_
      simp only [r09_Light.l1, wrap_succ (show i < 9223372036854775807 by omega)]
      exact Dp.pos (by omega) (Dp.pos (by omega) (Dp.bind (light1_dp _) (fun _ _ _ => yes (fun _ => Dp.bind (light1_dp _) (fun _ _ _ => yes (fun _ => Dp.bind (light1_dp _) (fun _ _ _ => yes (fun _ => ih (i + 1) (by omega)))))))))
  have one : Short 26 P T → ∀ (j i : Nat), i + j = P.length → Dp (fun k => r09_Light.l0 k (i : Int) a0 P T) (fun r => r = true → Short 26 P T) := by
    intro hS j
    have := hS.np
    induction j with
    | zero =>
      intro i hi
      refine Dp.succ ?_
      simp only [r09_Light.l0]
      exact Dp.neg (by omega) (two hS T.length 0 (by omega))
    | succ j ih =>
      intro i hi
      refine Dp.succ ?_
      simp only [r09_Light.l0, wrap_succ (show i < 9223372036854775807 by omega)]
      exact Dp.pos (by omega) (Dp.pos (by omega) (no (fun _ => ih (i + 1) (by omega))))
  have jt : ∀ b : Bool, (b = false → Short 26 P T) → Dp (fun k => r09_Light.j0 k b a0 P T) (fun r => r = true → Short 26 P T) := by
    intro b hb
    refine Dp.succ ?_
    simp only [r09_Light.j0]
    refine no (fun c => ?_)
    exact one (hb (by simpa using c)) P.length 0 (by omega)
  refine Dp.bind (small_dp a0 P T) (fun r _ hr => Dp.ite (fun c => Dp.ite (fun _ => jt _ (fun h => by cases h)) (fun _ => jt _ (fun _ => hr c))) (fun _ => jt _ (fun h => by cases h)))
theorem name_dp (a : ByteArray) : Dp (fun k => r09_Name.f k a) (fun _ => True) := by
  unfold r09_Name.f
  have key : a.size ≤ 16 → ∀ (j i : Nat), i + j = a.size → Dp (fun k => r09_Name.l0 k a (i : Int)) (fun _ => True) := by
    intro ha j
    induction j with
    | zero =>
      intro i hi
      refine Dp.succ ?_
      simp only [r09_Name.l0]
      exact Dp.neg (by omega) (Dp.const trivial)
    | succ j ih =>
      intro i hi
      have again := ih (i + 1) (by omega)
      refine Dp.succ ?_
      simp only [r09_Name.l0, wrap_succ (show i < 9223372036854775807 by omega)]
      refine Dp.pos (by omega) (Dp.pos (by omega) ?_)
      repeat' (first | exact again | exact Dp.const trivial | refine Dp.ite (fun _ => ?_) (fun _ => ?_))
  have jt : ∀ b : Bool, (b = false → a.size ≤ 16) → Dp (fun k => r09_Name.j0 k a b) (fun _ => True) := by
    intro b hb
    refine Dp.succ ?_
    simp only [r09_Name.j0]
    exact Dp.ite (fun _ => Dp.const trivial) (fun c => key (hb (by simpa using c)) a.size 0 (by omega))
  exact Dp.ite (fun _ => jt true (fun h => by cases h)) (fun _ => jt _ (fun h => by simp at h; omega))
theorem place_dp (a0 : ByteArray) {P : List S71} {T : List S74} (hS : Short 26 P T) {i : Nat} (hi : i < P.length) :
    Dp (fun k => r09_place.f k a0 P T (i : Int)) (fun r => r = 0 → 0 ≤ P[i].f1 ∧ P[i].f1 ≤ 1048576) := by
  unfold r09_place.f
  have hnp := hS.np
  rw [rd71 hi]
  generalize P[i] = x
  have yes : ∀ {c : Prop} [Decidable c] {A : Nat → Option Int} {e : Int}, e ≠ 0 → (c → Dp A (fun r => r = 0 → 0 ≤ x.f1 ∧ x.f1 ≤ 1048576)) → Dp (fun k => if c then A k else some e) (fun r => r = 0 → 0 ≤ x.f1 ∧ x.f1 ≤ 1048576) :=
    fun he h => Dp.ite h (fun _ => Dp.const (fun h => absurd h he))
  have no : ∀ {c : Prop} [Decidable c] {A : Nat → Option Int} {e : Int}, e ≠ 0 → (¬ c → Dp A (fun r => r = 0 → 0 ≤ x.f1 ∧ x.f1 ≤ 1048576)) → Dp (fun k => if c then some e else A k) (fun r => r = 0 → 0 ≤ x.f1 ∧ x.f1 ≤ 1048576) :=
    fun he h => Dp.ite (fun _ => Dp.const (fun h => absurd h he)) h
  have jt : ∀ b : Bool, Dp (fun k => r09_place.j1 k b x.f0 x.f1 x.f2) (fun r => r = 0 → 0 ≤ x.f1 ∧ x.f1 ≤ 1048576) := by
    intro b
    refine Dp.succ ?_
    simp only [r09_place.j1]
    exact no (by decide) (fun _ => no (by decide) (fun _ => no (by decide) (fun _ => Dp.ite (fun _ => Dp.const (fun _ => by omega)) (fun _ => no (by decide) (fun _ => Dp.const (fun _ => by omega))))))
  have key : ∀ (j q : Nat), q + j = i → Dp (fun k => r09_place.l0 k (i : Int) (q : Int) a0 P T x.f0 x.f1 x.f2) (fun r => r = 0 → 0 ≤ x.f1 ∧ x.f1 ≤ 1048576) := by
    intro j
    induction j with
    | zero =>
      intro q hq
      refine Dp.succ ?_
      simp only [r09_place.l0]
      exact Dp.neg (by omega) (Dp.ite (fun _ => jt _) (fun _ => jt _))
    | succ j ih =>
      intro q hq
      refine Dp.succ ?_
      simp only [r09_place.l0, wrap_succ (show q < 9223372036854775807 by omega)]
      exact Dp.pos (by omega) (Dp.pos (by omega) (Dp.pos (by omega) (no (by decide) (fun _ => ih (q + 1) (by omega)))))
  exact Dp.pos (by omega) (Dp.pos (by omega) (Dp.bind (name_dp _) (fun _ _ _ => yes (by decide) (fun _ => key i 0 (by omega)))))
theorem arcs_dp (a0 : ByteArray) (P : List S71) (T : List S74) {l : List S93} (hl : l.length ≤ 26) :
    Dp (fun k => r09_arcs.f k a0 P T l) (fun r => r = 0 → ∀ a ∈ l, 1 ≤ a.f1 ∧ a.f1 ≤ 99) := by
  unfold r09_arcs.f
  have no : ∀ {φ : Int → Prop} {c : Prop} [Decidable c] {A : Nat → Option Int} {e : Int}, e ≠ 0 → (¬ c → Dp A (fun r => r = 0 → φ r)) → Dp (fun k => if c then some e else A k) (fun r => r = 0 → φ r) :=
    fun he h => Dp.ite (fun _ => Dp.const (fun h => absurd h he)) h
  have key : ∀ (j i : Nat), i + j = l.length → (∀ q : Nat, q < i → ∀ h : q < l.length, 1 ≤ l[q].f1 ∧ l[q].f1 ≤ 99) → Dp (fun k => r09_arcs.l0 k l (i : Int) a0 P T) (fun r => r = 0 → ∀ a ∈ l, 1 ≤ a.f1 ∧ a.f1 ≤ 99) := by
    intro j
    induction j with
    | zero =>
      intro i hi hs
      refine Dp.succ ?_
      simp only [r09_arcs.l0]
      refine Dp.neg (by omega) (Dp.const (fun _ a ha => ?_))
      obtain ⟨q, hq, rfl⟩ := List.mem_iff_getElem.1 ha
      exact hs q (by omega) hq
    | succ j ih =>
      intro i hi hs
      have hil : i < l.length := by omega
      have j2 : ∀ b : Bool, Dp (fun k => r09_arcs.j2 k l (i : Int) b a0 P T) (fun r => r = 0 → ∀ a ∈ l, 1 ≤ a.f1 ∧ a.f1 ≤ 99) := by
        intro b
        refine Dp.succ ?_
        simp only [r09_arcs.j2, wrap_succ (show i < 9223372036854775807 by omega), rd93 hil]
        refine no (by decide) (fun _ => Dp.pos (by omega) (Dp.pos (by omega) (no (by decide) (fun _ => no (by decide) (fun _ => ih (i + 1) (by omega) (fun q hq h => ?_))))))
        by_cases e : q = i
        · subst e; omega
        · exact hs q (by omega) h
      have j1 : ∀ b : Bool, Dp (fun k => r09_arcs.j1 k l (i : Int) b a0 P T) (fun r => r = 0 → ∀ a ∈ l, 1 ≤ a.f1 ∧ a.f1 ≤ 99) := by
        intro b
        have e1 : 0 < i → wrap64 ((i : Int) - 1) = (i : Int) - 1 := fun h => by unfold wrap64; omega
        refine Dp.succ ?_
        simp only [r09_arcs.j1]
        refine no (by decide) (fun _ => Dp.ite (fun c => ?_) (fun _ => j2 _))
        have e2 := e1 (by omega)
        refine Dp.pos (by omega) (Dp.pos (by omega) (Dp.pos (by omega) (Dp.pos (by omega) (j2 _))))
      refine Dp.succ ?_
      simp only [r09_arcs.l0]
      exact Dp.pos (by omega) (Dp.pos (by omega) (Dp.ite (fun _ => j1 _) (fun _ => j1 _)))
  exact key l.length 0 (by omega) (fun q hq => by omega)
theorem trans_dp (a0 : ByteArray) {P : List S71} {T : List S74} (hS : Short 26 P T) {i : Nat} (hi : i < T.length) :
    Dp (fun k => r09_trans.f k a0 P T (i : Int)) (fun r => r = 0 → Arcs T[i].f1 ∧ Arcs T[i].f2 ∧ Arcs T[i].f3) := by
  unfold r09_trans.f
  have hnp := hS.np
  have hnt := hS.nt
  have hA := hS.arcs _ (List.getElem_mem hi)
  rw [rd74 hi]
  revert hA
  generalize T[i] = x
  intro hA
  have yes : ∀ {c : Prop} [Decidable c] {A : Nat → Option Int} {e : Int}, (¬ c → e ≠ 0) → (c → Dp A (fun r => r = 0 → Arcs x.f1 ∧ Arcs x.f2 ∧ Arcs x.f3)) → Dp (fun k => if c then A k else some e) (fun r => r = 0 → Arcs x.f1 ∧ Arcs x.f2 ∧ Arcs x.f3) :=
    fun he h => Dp.ite h (fun c => Dp.const (fun h => absurd h (he c)))
  have no : ∀ {c : Prop} [Decidable c] {A : Nat → Option Int} {e : Int}, e ≠ 0 → (¬ c → Dp A (fun r => r = 0 → Arcs x.f1 ∧ Arcs x.f2 ∧ Arcs x.f3)) → Dp (fun k => if c then some e else A k) (fun r => r = 0 → Arcs x.f1 ∧ Arcs x.f2 ∧ Arcs x.f3) :=
    fun he h => Dp.ite (fun _ => Dp.const (fun h => absurd h he)) h
  have jt : ∀ b : Bool, Dp (fun k => r09_trans.j2 k b a0 P T x.f0 x.f1 x.f2 x.f3 x.f4) (fun r => r = 0 → Arcs x.f1 ∧ Arcs x.f2 ∧ Arcs x.f3) := by
    intro b
    refine Dp.succ ?_
    simp only [r09_trans.j2]
    refine no (by decide) (fun _ => Dp.bind (arcs_dp a0 P T hA.1) (fun r1 _ h1 => yes id (fun c1 => Dp.bind (arcs_dp a0 P T hA.2.1) (fun r2 _ h2 => yes id (fun c2 => Dp.bind (arcs_dp a0 P T hA.2.2) (fun r3 _ h3 => Dp.const (fun c3 => ?_)))))))
    exact ⟨⟨by omega, h1 c1⟩, ⟨by omega, h2 c2⟩, ⟨by omega, h3 c3⟩⟩
  have two : ∀ (j q : Nat), q + j = i → Dp (fun k => r09_trans.l1 k (i : Int) (q : Int) a0 P T x.f0 x.f1 x.f2 x.f3 x.f4) (fun r => r = 0 → Arcs x.f1 ∧ Arcs x.f2 ∧ Arcs x.f3) := by
    intro j
    induction j with
    | zero =>
      intro q hq
      refine Dp.succ ?_
      simp only [r09_trans.l1]
      exact Dp.neg (by omega) (Dp.ite (fun _ => jt _) (fun _ => jt _))
    | succ j ih =>
      intro q hq
      refine Dp.succ ?_
      simp only [r09_trans.l1, wrap_succ (show q < 9223372036854775807 by omega)]
      exact Dp.pos (by omega) (Dp.pos (by omega) (Dp.pos (by omega) (no (by decide) (fun _ => ih (q + 1) (by omega)))))
  have one : ∀ (j q : Nat), q + j = P.length → Dp (fun k => r09_trans.l0 k (i : Int) (q : Int) a0 P T x.f0 x.f1 x.f2 x.f3 x.f4) (fun r => r = 0 → Arcs x.f1 ∧ Arcs x.f2 ∧ Arcs x.f3) := by
    intro j
    induction j with
    | zero =>
      intro q hq
      refine Dp.succ ?_
      simp only [r09_trans.l0]
      exact Dp.neg (by omega) (two i 0 (by omega))
    | succ j ih =>
      intro q hq
      refine Dp.succ ?_
      simp only [r09_trans.l0, wrap_succ (show q < 9223372036854775807 by omega)]
      exact Dp.pos (by omega) (Dp.pos (by omega) (no (by decide) (fun _ => ih (q + 1) (by omega))))
  exact Dp.pos (by omega) (Dp.pos (by omega) (Dp.bind (name_dp _) (fun _ _ _ => yes (fun _ => by decide) (fun _ => one P.length 0 (by omega)))))
theorem check_dp (a0 : ByteArray) {P : List S71} {T : List S74} (hS : Short 26 P T) :
    Dp (fun k => r09_Check.f k a0 P T) (fun r => r.1 = 0 → OkN P T) := by
  unfold r09_Check.f
  have hnp := hS.np
  have hnt := hS.nt
  have two : 1 ≤ P.length ∧ P.length ≤ 24 → T.length ≤ 24 → (∀ x ∈ P, 0 ≤ x.f1 ∧ x.f1 ≤ 1048576) → ∀ (j i : Nat), i + j = T.length → (∀ q : Nat, q < i → ∀ h : q < T.length, Arcs T[q].f1 ∧ Arcs T[q].f2 ∧ Arcs T[q].f3) → Dp (fun k => r09_Check.l1 k (i : Int) a0 P T) (fun r => r.1 = 0 → OkN P T) := by
    intro h1 h2 h3 j
    induction j with
    | zero =>
      intro i hi hs
      refine Dp.succ ?_
      simp only [r09_Check.l1]
      refine Dp.neg (by omega) (Dp.const (fun _ => ⟨h1, h2, h3, fun t htt => ?_⟩))
      obtain ⟨q, hq, rfl⟩ := List.mem_iff_getElem.1 htt
      exact hs q (by omega) hq
    | succ j ih =>
      intro i hi hs
      have hil : i < T.length := by omega
      refine Dp.succ ?_
      simp only [r09_Check.l1, wrap_succ (show i < 9223372036854775807 by omega)]
      refine Dp.pos (by omega) (Dp.bind (trans_dp a0 hS hil) (fun e _ he => Dp.ite (fun c => ih (i + 1) (by omega) (fun q hq h => ?_)) (fun c => Dp.const (fun h => absurd h c))))
      by_cases e : q = i
      · subst e; exact he c
      · exact hs q (by omega) h
  have one : 1 ≤ P.length ∧ P.length ≤ 24 → T.length ≤ 24 → ∀ (j i : Nat), i + j = P.length → (∀ q : Nat, q < i → ∀ h : q < P.length, 0 ≤ P[q].f1 ∧ P[q].f1 ≤ 1048576) → Dp (fun k => r09_Check.l0 k (i : Int) a0 P T) (fun r => r.1 = 0 → OkN P T) := by
    intro h1 h2 j
    induction j with
    | zero =>
      intro i hi hs
      refine Dp.succ ?_
      simp only [r09_Check.l0]
      refine Dp.neg (by omega) (two h1 h2 (fun x hx => ?_) T.length 0 (by omega) (fun q hq => by omega))
      obtain ⟨q, hq, rfl⟩ := List.mem_iff_getElem.1 hx
      exact hs q (by omega) hq
    | succ j ih =>
      intro i hi hs
      have hil : i < P.length := by omega
      refine Dp.succ ?_
      simp only [r09_Check.l0, wrap_succ (show i < 9223372036854775807 by omega)]
      refine Dp.pos (by omega) (Dp.bind (place_dp a0 hS hil) (fun e _ he => Dp.ite (fun c => ih (i + 1) (by omega) (fun q hq h => ?_)) (fun c => Dp.const (fun h => absurd h c))))
      by_cases e : q = i
      · subst e; exact he c
      · exact hs q (by omega) h
  have jt : ∀ b : Bool, (b = false → (1 ≤ P.length ∧ P.length ≤ 24) ∧ T.length ≤ 24) → Dp (fun k => r09_Check.j0 k b a0 P T) (fun r => r.1 = 0 → OkN P T) := by
    intro b hb
    refine Dp.succ ?_
    simp only [r09_Check.j0]
    refine Dp.ite (fun _ => Dp.const (fun h => by simp at h)) (fun c => ?_)
    have h := hb (by simpa using c)
    exact one h.1 h.2 P.length 0 (by omega) (fun q hq => by omega)
  refine Dp.bind (name_dp _) (fun _ _ _ => Dp.ite (fun _ => Dp.ite (fun _ => jt true (fun h => by cases h)) (fun _ => Dp.ite (fun _ => jt true (fun h => by cases h)) (fun _ => jt _ (fun h => by simp at h; omega)))) (fun _ => Dp.const (fun h => by simp at h)))
end Go.Proofs.Ytfnjbgggmddgpaa.Q
end
