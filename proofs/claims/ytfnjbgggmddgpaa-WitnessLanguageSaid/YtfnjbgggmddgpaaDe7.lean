/- Part 7 of a proof: De. Words and walks that a program printed for this claim stand here without what the claim does not use. -/
import Derived.Test.YtfnjbgggmddgpaaDe2
import Derived.Test.YtfnjbgggmddgpaaDe6
section
namespace Go.Proofs.Ytfnjbgggmddgpaa.Q
open Go.RowKit Go.Proofs.Fn Go.Proofs.YtfnjbgggmddgpaaW.PrintWords Go.Proofs.YtfnjbgggmddgpaaW.PrintLast Go.Proofs.YtfnjbgggmddgpaaW.PrintMore
attribute [local go_sem] max2_int min2_int max_two min_two max_three min_three max_four min_four
set_option linter.unusedVariables false
set_option linter.unusedSimpArgs false
def r04_Lists.l0 : Nat → List (List Int) → List (List Int) → Int → Option (Bool)
 | 0, _, _, _ => none
 | k + 1, x0, x1, x5 => if x5 < (x0.length : Int) then (if 0 ≤ x5 then (if x5 < (x1.length : Int) then ((r04_Same.f k (rd_L3 x0 x5) (rd_L3 x1 x5)).bind fun t103 => (if t103 = true then (r04_Lists.l0 k x0 x1 (wrap64 (x5 + 1))) else (some false))) else (none)) else (none)) else (some true)
def r04_Lists.f (k : Nat) (l0 : List (List Int)) (l1 : List (List Int)) : Option (Bool) := if (l0.length : Int) = (l1.length : Int) then (r04_Lists.l0 k l0 l1 0) else (some false)
set_option maxHeartbeats 8000000 in
set_option maxRecDepth 100000 in
theorem r04_Lists.calls (k : Nat) (A0 : Option Addr) (c0 : Nat) (l0 : List (List Int)) (A1 : Option Addr) (c1 : Nat) (l1 : List (List Int)) (r : Bool) (w : World) (hr0 : Kd.C (Kd.slice 3 (Kd.int .i64)) w A0 l0.length l0) (hc0 : l0.length ≤ c0) (hr1 : Kd.C (Kd.slice 3 (Kd.int .i64)) w A1 l1.length l1) (hc1 : l1.length ≤ c1) (h : r04_Lists.f k l0 l1 = some r) :
  Calls Try.prog 26 #[.slice A0 l0.length c0, .slice A1 l1.length c1] w fun e w' => e = .returned (.bool r) ∧ Drawn0 w w' := by
 have HR0 := Aside0.mk hr0
 have HC0 := Aside0.mk hc0
 clear hr0 hc0
 have HR1 := Aside0.mk hr1
 have HC1 := Aside0.mk hc1
 clear hr1 hc1
 have H : (if (l0.length : Int) = (l1.length : Int) then (r04_Lists.l0 k l0 l1 0) else (some false)) = some r := h
 clear h
 by_cases c3 : (l0.length : Int) = (l1.length : Int)
 ·rw [if_pos c3] at H
  have c3b0 := beq_iff_eq.mpr c3
  have c3b1 := bne_eq_false_iff_eq.mpr c3
  have c3b2 : (l0.length == l1.length) = true := by first | simpa using c3 | (simp at c3 ⊢; omega)
  clear c3
  have H' := Aside0.mk H
  clear H
  go_enter Try.func26, Try.ntmps26
  go_wp2
  repeat (go_quiet (fail); try go_wp2)
  go_loopg [5] k (fun kq v5 w' => ∃ (x5_1 : Int), v5 = .int .i64 x5_1 ∧ Aside0 (r04_Lists.l0 kq l0 l1 x5_1 = some r) ∧ Aside0 (kq ≤ k) ∧ Drawn0 w w')
  case atStart => exact ⟨(0), tU, H', ⟨Nat.le_refl _⟩, by repeat (first | exact Drawn0.refl _ | apply Drawn0.step)⟩
  case round =>
   clear H'
   (try clear c1); (try clear c2); (try clear p2); (try clear c3); (try clear c3b0); (try clear c3b1); (try clear c3b2)
   obtain ⟨x5_1, rfl, HA, HK1, ⟨m1, rfl⟩⟩ := hrel
   cases gk with
   | zero => exact absurd HA.out (by simp [r04_Lists.l0])
   | succ k1 =>
    have H := HA.out
    clear HA
    simp only [r04_Lists.l0] at H
    by_cases c4 : x5_1 < (l0.length : Int)
    ·rw [if_pos c4] at H
     have c4b0 := decide_eq_true c4
     clear c4
     replace H := tF H
     obtain ⟨c5, H⟩ := H
     have c5b0 := decide_eq_true c5
     clear c5
     replace H := tF H
     obtain ⟨c6, H⟩ := H
     have c6b0 := decide_eq_true c6
     clear c6
     replace H := Option.bind_eq_some_iff.mp H
     obtain ⟨t103, A70, H⟩ := H
     (try dsimp only at H)
     have A7 := Aside0.mk A70
     clear A70
     by_cases c8 : t103 = true
     ·subst c8
      rw [if_pos rfl] at H
      have H' := Aside0.mk H
      clear H
      have p101 : 0 ≤ (x5_1 : Int) := tD
      have q101 : x5_1 < (l0.length : Int) := tD
      obtain ⟨ad101, A101_0, c101_0, e101, hx101_0, hl101_0, hi101_0⟩ := at_L3 HR0.out x5_1 p101 q101
      cases e101
      have HR101_0 := Aside0.mk hi101_0
      have HC101_0 := Aside0.mk hl101_0
      clear hi101_0 hl101_0
      replace p101 := eq_true p101
      replace q101 := eq_true q101
      have p102 : 0 ≤ (x5_1 : Int) := tD
      have q102 : x5_1 < (l1.length : Int) := tD
      obtain ⟨ad102, A102_0, c102_0, e102, hx102_0, hl102_0, hi102_0⟩ := at_L3 HR1.out x5_1 p102 q102
      cases e102
      have HR102_0 := Aside0.mk hi102_0
      have HC102_0 := Aside0.mk hl102_0
      clear hi102_0 hl102_0
      replace p102 := eq_true p102
      replace q102 := eq_true q102
      go_wp2_with (first | (go_at_call 13; (with_reducible refine (r04_Same.calls k1 _ _ (rd_L3 l0 x5_1) _ _ (rd_L3 l1 x5_1) true _ (tC HR101_0.out) HC101_0.out (tC HR102_0.out) HC102_0.out A7.out).mono ?_); rintro e w' ⟨rfl, ⟨nd, rfl⟩⟩; (try first | exact ⟨rfl, _, World.drewN_drewN _ _ _⟩ | exact ⟨rfl, _, Eq.trans (World.drewN_drewN _ _ _) (congrArg (World.drewN _) (Nat.add_assoc _ _ _))⟩)) | go_quiet ((go_at_call 13; (with_reducible refine (r04_Same.calls k1 _ _ (rd_L3 l0 x5_1) _ _ (rd_L3 l1 x5_1) true _ (tC HR101_0.out) HC101_0.out (tC HR102_0.out) HC102_0.out A7.out).mono ?_); rintro e w' ⟨rfl, ⟨nd, rfl⟩⟩; (try first | exact ⟨rfl, _, World.drewN_drewN _ _ _⟩ | exact ⟨rfl, _, Eq.trans (World.drewN_drewN _ _ _) (congrArg (World.drewN _) (Nat.add_assoc _ _ _))⟩))))
      go_roundg k1
      case measure => have := HK1.out; omega
      case rel => exact ⟨(wrap64 (x5_1 + 1)), tU, H', ⟨by have := HK1.out; omega⟩, by repeat (first | exact Drawn0.refl _ | apply Drawn0.step)⟩
     replace c8 := Bool.eq_false_iff.mpr c8
     subst c8
     rw [if_neg (show ¬ (false = true) by decide)] at H
     obtain rfl := Option.some.inj H
     have p101 : 0 ≤ (x5_1 : Int) := tD
     have q101 : x5_1 < (l0.length : Int) := tD
     obtain ⟨ad101, A101_0, c101_0, e101, hx101_0, hl101_0, hi101_0⟩ := at_L3 HR0.out x5_1 p101 q101
     cases e101
     have HR101_0 := Aside0.mk hi101_0
     have HC101_0 := Aside0.mk hl101_0
     clear hi101_0 hl101_0
     replace p101 := eq_true p101
     replace q101 := eq_true q101
     have p102 : 0 ≤ (x5_1 : Int) := tD
     have q102 : x5_1 < (l1.length : Int) := tD
     obtain ⟨ad102, A102_0, c102_0, e102, hx102_0, hl102_0, hi102_0⟩ := at_L3 HR1.out x5_1 p102 q102
     cases e102
     have HR102_0 := Aside0.mk hi102_0
     have HC102_0 := Aside0.mk hl102_0
     clear hi102_0 hl102_0
     replace p102 := eq_true p102
     replace q102 := eq_true q102
     go_wp2_with (first | (go_at_call 13; (with_reducible refine (r04_Same.calls k1 _ _ (rd_L3 l0 x5_1) _ _ (rd_L3 l1 x5_1) false _ (tC HR101_0.out) HC101_0.out (tC HR102_0.out) HC102_0.out A7.out).mono ?_); rintro e w' ⟨rfl, ⟨nd, rfl⟩⟩; (try first | exact ⟨rfl, _, World.drewN_drewN _ _ _⟩ | exact ⟨rfl, _, Eq.trans (World.drewN_drewN _ _ _) (congrArg (World.drewN _) (Nat.add_assoc _ _ _))⟩)) | go_quiet ((go_at_call 13; (with_reducible refine (r04_Same.calls k1 _ _ (rd_L3 l0 x5_1) _ _ (rd_L3 l1 x5_1) false _ (tC HR101_0.out) HC101_0.out (tC HR102_0.out) HC102_0.out A7.out).mono ?_); rintro e w' ⟨rfl, ⟨nd, rfl⟩⟩; (try first | exact ⟨rfl, _, World.drewN_drewN _ _ _⟩ | exact ⟨rfl, _, Eq.trans (World.drewN_drewN _ _ _) (congrArg (World.drewN _) (Nat.add_assoc _ _ _))⟩))))
     go_ret
     exact ⟨by first | rfl | (simp; done) | (simp [*]; done), by repeat (first | exact Drawn0.refl _ | apply Drawn0.step)⟩
    rw [if_neg c4] at H
    have c4b0 := decide_eq_false c4
    clear c4
    obtain rfl := Option.some.inj H
    go_wp2
    repeat (go_quiet (fail); try go_wp2)
    go_ret
    exact ⟨by first | rfl | (simp; done) | (simp [*]; done), by repeat (first | exact Drawn0.refl _ | apply Drawn0.step)⟩
 rw [if_neg c3] at H
 have c3b0 := beq_eq_false_iff_ne.mpr c3
 have c3b1 := bne_iff_ne.mpr c3
 have c3b2 : (l0.length == l1.length) = false := by first | simpa using c3 | (simp at c3 ⊢; omega)
 obtain rfl := Option.some.inj H
 go_enter Try.func26, Try.ntmps26
 go_wp2
 repeat (go_quiet (fail); try go_wp2)
 go_ret
 exact ⟨by first | rfl | (simp; done) | (simp [*]; done), by repeat (first | exact Drawn0.refl _ | apply Drawn0.step)⟩
end Go.Proofs.Ytfnjbgggmddgpaa.Q
end
section
set_option linter.unusedVariables false
set_option linter.unusedSimpArgs false
namespace Go.Proofs.Ytfnjbgggmddgpaa.Q
open Go.RowKit Go.Proofs.Fn Go.Proofs.YtfnjbgggmddgpaaW.PrintWords Go.Proofs.YtfnjbgggmddgpaaW.PrintMore Go.Proofs.Gr
def stp (T : List (List S80)) (p : Pth) : List Pth := (T.getD p.2.toNat []).map (fun e => (p.1 ++ [e.f1], e.f2))
def levs (T : List (List S80)) : Nat → List Pth → List Pth
  | 0, _ => []
  | n + 1, lev => lev ++ levs T n (lev.flatMap (stp T))
def itl (T : List (List S80)) : Nat → List Pth → List Pth
  | 0, lev => lev
  | n + 1, lev => itl T n (lev.flatMap (stp T))
theorem levs_snoc (T : List (List S80)) : ∀ n lev, levs T (n + 1) lev = levs T n lev ++ itl T n lev := by
  intro n
  induction n with
  | zero => intro lev; simp [levs, itl]
  | succ n ih => intro lev; rw [levs, ih, levs, itl, List.append_assoc]
theorem itl_succ (T : List (List S80)) : ∀ n lev, itl T (n + 1) lev = (itl T n lev).flatMap (stp T) := by
  intro n
  induction n with
  | zero => intro lev; rfl
  | succ n ih => intro lev; rw [itl, ih, itl]
theorem take_take_append {α : Type} (A B : List α) (n : Nat) : (A.take n ++ B).take n = (A ++ B).take n := by
  by_cases h : A.length ≤ n
  · rw [List.take_of_length_le h]
  · rw [List.take_append_of_le_length (by simp; omega), List.take_append_of_le_length (by omega), List.take_take, Nat.min_self]
theorem plev_eq (T : List (List S80)) : ∀ (lev : List Pth) (out : List (List Int)) (nxt : List Pth), out.length ≤ 5000 →
    (out.length + lev.length ≤ 5000 → plev (T.map (List.map pr)) lev out nxt = (out ++ lev.map Prod.fst, nxt ++ lev.flatMap (stp T), false)) ∧
    (5000 < out.length + lev.length → (plev (T.map (List.map pr)) lev out nxt).2.2 = true ∧ (plev (T.map (List.map pr)) lev out nxt).1 = (out ++ lev.map Prod.fst).take 5000) := by
  intro lev
  induction lev with
  | nil =>
    intro out nxt ho
    refine ⟨fun _ => by simp [plev], fun h => ?_⟩
    simp at h; omega
  | cons p lev ih =>
    intro out nxt ho
    have hrow : (rd_L66 (T.map (List.map pr)) p.2).map (fun x => (p.1 ++ [x.f0], x.f1)) = stp T p := by
      unfold rd_L66 stp
      rw [List.getD_eq_getElem?_getD, List.getD_eq_getElem?_getD, List.getElem?_map]
      cases T[p.2.toNat]? with
      | none => rfl
      | some r => simp [pr]
    rw [plev, hrow]
    by_cases c : out.length = 5000
    · rw [if_pos c]
      refine ⟨fun h => by simp at h; omega, fun _ => ⟨rfl, ?_⟩⟩
      rw [List.take_append_of_le_length (by omega), List.take_of_length_le (by omega)]
    · rw [if_neg c]
      have h := ih (out ++ [p.1]) (nxt ++ stp T p) (by simp; omega)
      refine ⟨fun hl => ?_, fun hl => ?_⟩
      · rw [h.1 (by simp at hl ⊢; omega)]; simp
      · have := h.2 (by simp at hl ⊢; omega)
        refine ⟨this.1, this.2.trans ?_⟩
        simp
theorem lang_eq (T : List (List S80)) : ∀ (n : Nat) (lev : List Pth) (out : List (List Int)), out.length ≤ 5000 → (lang (T.map (List.map pr)) n lev out).1 = (out ++ (levs T n lev).map Prod.fst).take 5000 := by
  intro n
  induction n with
  | zero => intro lev out ho; simp [lang, levs, List.take_of_length_le ho]
  | succ n ih =>
    intro lev out ho
    have h := plev_eq T lev out [] ho
    rw [lang]
    by_cases c : out.length + lev.length ≤ 5000
    · rw [h.1 c]
      simp only [Bool.false_eq_true, if_false, List.nil_append]
      rw [ih _ _ (by simp; omega), levs, List.map_append, List.append_assoc]
    · have := h.2 (by omega)
      rw [if_pos this.1, this.2, levs, List.map_append, ← List.append_assoc]
      exact (List.take_append_of_le_length (by simp; omega)).symm
def Inl (T : List (List S80)) (n : Nat) (Z : List Pth) : Prop := ∀ p ∈ Z, p.1.length ≤ n ∧ 0 ≤ p.2 ∧ p.2 < (T.length : Int)
theorem inl_stp {n : Nat} {T : List (List S80)} (hT : OkT T.length T) {Z : List Pth} (h : Inl T n Z) : Inl T (n + 1) (Z.flatMap (stp T)) := by
  intro p hp
  obtain ⟨q, hq, hp⟩ := List.mem_flatMap.1 hp
  obtain ⟨e, he, rfl⟩ := List.mem_map.1 hp
  have h1 := h q hq
  have h2 := hT.tgt q.2.toNat (by omega) e he
  exact ⟨by simp; omega, h2.1, h2.2⟩
theorem inl_levs {T : List (List S80)} (hT : OkT T.length T) : ∀ (k n : Nat) (Z : List Pth), Inl T n Z → Inl T (n + k) (levs T k Z) := by
  intro k
  induction k with
  | zero => intro n Z h p hp; cases hp
  | succ k ih =>
    intro n Z h p hp
    rcases List.mem_append.1 hp with hp | hp
    · have := h p hp; omega
    · have := ih (n + 1) _ (inl_stp hT h) p hp; omega
theorem rlang_l2 {T : List (List S80)} (hT : OkT T.length T) (kk x9 x10 : Int) (i : Nat) (p : Pth) (hp : p.1.length ≤ 1000 ∧ 0 ≤ p.2 ∧ p.2 < (T.length : Int)) (r : List (List Int)) (F : List Pth)
    (next : Evn (fun k => r16_Language.l1 k kk T (F.map Prod.fst) (F.map Prod.snd) x9 x10 ((i + 1 : Nat) : Int)) r) :
    ∀ (m j : Nat) (Z : List Pth), j + m = (T.getD p.2.toNat []).length → Z[i]? = some p → Z.length ≤ 5000 → (Z ++ (stp T p).drop j).take 5000 = F →
      Evn (fun k => r16_Language.l2 k kk T (Z.map Prod.fst) (Z.map Prod.snd) x9 x10 (i : Int) (j : Int)) r := by
  intro m
  have hr := hT.rows p.2.toNat (by omega)
  have hsl : (stp T p).length = (T.getD p.2.toNat []).length := by simp [stp]
  induction m with
  | zero =>
    intro j Z hj hz hl hF
    have hil := (List.getElem?_eq_some_iff.1 hz).1
    have hzi := (List.getElem?_eq_some_iff.1 hz).2
    have e1 : rd (Z.map Prod.snd) (i : Int) = p.2 := by rw [rd_get (by simpa using hil), List.getElem_map, hzi]
    have e2 : rd_L80 T p.2 = T.getD p.2.toNat [] := rfl
    rw [List.drop_of_length_le (by omega), List.append_nil, List.take_of_length_le hl] at hF
    subst hF
    refine Evn.succ ?_
    simp only [r16_Language.l2, e1, e2, wrap_succ (show i < 9223372036854775807 by omega)]
    refine Evn.pos (by omega) (Evn.pos (by simp; omega) (Evn.pos (by omega) (Evn.pos (by omega) (Evn.neg (by omega) next))))
  | succ m ih =>
    intro j Z hj hz hl hF
    have hil := (List.getElem?_eq_some_iff.1 hz).1
    have hzi := (List.getElem?_eq_some_iff.1 hz).2
    have e1 : rd (Z.map Prod.snd) (i : Int) = p.2 := by rw [rd_get (by simpa using hil), List.getElem_map, hzi]
    have e2 : rd_L80 T p.2 = T.getD p.2.toNat [] := rfl
    have e3 : rd_L3 (Z.map Prod.fst) (i : Int) = p.1 := by rw [rdL3 (by simpa using hil), List.getElem_map, hzi]
    have hjl : j < (T.getD p.2.toNat []).length := by omega
    have hjs : j < (stp T p).length := by omega
    refine Evn.succ ?_
    simp only [r16_Language.l2, e1, e2, e3, wrap_succ (show i < 9223372036854775807 by omega), wrap_succ (show j < 9223372036854775807 by omega)]
    refine Evn.pos (by omega) (Evn.pos (by simp; omega) (Evn.pos (by omega) (Evn.pos (by omega) (Evn.pos (by omega) ?_))))
    by_cases c : Z.length < 5000
    · refine Evn.pos (by simp; omega) (Evn.pos (by simp; omega) ((copy_ev p.1 (by omega)).bind (Evn.pos (by omega) (Evn.pos (by omega) (Evn.pos (by simp; omega) (Evn.pos (by simp; omega) ?_))))))
      have := ih (j + 1) (Z ++ [(stp T p)[j]]) (by omega) (by rw [List.getElem?_append_left hil]; exact hz) (by simp; omega) (by
        rw [← hF, List.drop_eq_getElem_cons hjs, List.append_assoc]; rfl)
      rw [rd80 hjl]
      rw [List.map_append, List.map_append] at this
      simpa [stp] using this
    · refine Evn.neg (by simp; omega) ?_
      have hZ : Z = F := by rw [← hF, List.take_append_of_le_length (by omega), List.take_of_length_le hl]
      rw [hZ]; exact next
theorem rlang_l1 {T : List (List S80)} (hT : OkT T.length T) (kk x9 : Int) (Z0 : List Pth) (hZ0 : Inl T 1000 Z0) (h5 : Z0.length ≤ 5000) (r : List (List Int)) (F : List Pth)
    (next : Evn (fun k => r16_Language.l0 k kk T (F.map Prod.fst) (F.map Prod.snd) (Z0.length : Int) (wrap64 (x9 + 1))) r) :
    ∀ (m i : Nat) (Z : List Pth), i + m = Z0.length → Z0 <+: Z → Z.length ≤ 5000 → (Z ++ (Z0.drop i).flatMap (stp T)).take 5000 = F →
      Evn (fun k => r16_Language.l1 k kk T (Z.map Prod.fst) (Z.map Prod.snd) x9 (Z0.length : Int) (i : Int)) r := by
  intro m
  induction m with
  | zero =>
    intro i Z hi hp hl hF
    rw [List.drop_of_length_le (by omega), List.flatMap_nil, List.append_nil, List.take_of_length_le hl] at hF
    subst hF
    refine Evn.succ ?_
    simp only [r16_Language.l1]
    exact Evn.neg (by omega) next
  | succ m ih =>
    intro i Z hi hp hl hF
    have hil : i < Z0.length := by omega
    have hpl := hp.length_le
    have hget : Z[i]? = some Z0[i] := by
      obtain ⟨t, rfl⟩ := hp
      rw [List.getElem?_append_left hil, List.getElem?_eq_getElem hil]
    refine Evn.succ ?_
    simp only [r16_Language.l1]
    refine Evn.pos (by omega) ?_
    refine rlang_l2 hT kk x9 _ i Z0[i] (hZ0 _ (List.getElem_mem hil)) r ((Z ++ stp T Z0[i]).take 5000) ?_ _ 0 Z (by rw [Nat.zero_add]) hget hl (by rw [List.drop_zero])
    refine ih (i + 1) _ (by omega) ?_ (by simp; omega) ?_
    · obtain ⟨t, rfl⟩ := hp
      refine ⟨(t ++ stp T Z0[i]).take (5000 - Z0.length), ?_⟩
      rw [List.append_assoc, List.take_append (l₁ := Z0), List.take_of_length_le h5]
    · rw [take_take_append, ← hF, List.drop_eq_getElem_cons hil, List.flatMap_cons, List.append_assoc]
theorem rlang_l0 {T : List (List S80)} (hT : OkT T.length T) (kk : Nat) (hk : kk ≤ 100) (root : List Pth) (hr : Inl T 0 root) (h1 : root.length ≤ 5000) :
    ∀ (m n fr : Nat) (Z : List Pth), n + m = kk → Z = (levs T (n + 1) root).take 5000 → ((levs T (n + 1) root).length ≤ 5000 → fr ≤ Z.length ∧ Z.drop fr = itl T n root) → (5000 < (levs T (n + 1) root).length → True) → fr ≤ Z.length →
      Evn (fun k => r16_Language.l0 k (kk : Int) T (Z.map Prod.fst) (Z.map Prod.snd) (fr : Int) (n : Int)) (((levs T (kk + 1) root).take 5000).map Prod.fst) := by
  intro m
  induction m with
  | zero =>
    intro n fr Z hn hZ hd _ hf
    obtain rfl : n = kk := by omega
    refine Evn.succ ?_
    simp only [r16_Language.l0]
    rw [← hZ]
    exact Evn.neg (by omega) (Evn.const _)
  | succ m ih =>
    intro n fr Z hn hZ hd _ hf
    have hl : Z.length ≤ 5000 := by rw [hZ]; simp; omega
    have hin : Inl T 1000 Z := fun p hp => by
      have := inl_levs hT (n + 1) 0 root hr p (List.mem_of_mem_take (hZ ▸ hp)); omega
    refine Evn.succ ?_
    simp only [r16_Language.l0, List.length_map]
    refine Evn.pos (by omega) ?_
    have hF : (Z ++ (Z.drop fr).flatMap (stp T)).take 5000 = (levs T (n + 1 + 1) root).take 5000 := by
      rw [levs_snoc T (n + 1) root]
      by_cases c : (levs T (n + 1) root).length ≤ 5000
      · rw [(hd c).2, ← itl_succ, hZ, take_take_append]
      · have : Z.length = 5000 := by rw [hZ]; simp; omega
        rw [List.take_append_of_le_length (by omega), List.take_append_of_le_length (by omega), hZ, List.take_take, Nat.min_self]
    refine rlang_l1 hT (kk : Int) (n : Int) Z hin hl _ _ ?_ (Z.length - fr) fr Z (by omega) (List.prefix_refl _) hl hF
    rw [wrap_succ (show n < 9223372036854775807 by omega)]
    refine ih (n + 1) Z.length _ (by omega) rfl (fun c => ?_) (fun _ => trivial) ?_
    · have c0 : (levs T (n + 1) root).length ≤ 5000 := by rw [levs_snoc] at c; simp at c; omega
      have hZ2 : Z = levs T (n + 1) root := by rw [hZ, List.take_of_length_le c0]
      rw [List.take_of_length_le c, levs_snoc T (n + 1), ← hZ2]
      exact ⟨by simp, by simp⟩
    · rw [← hF]; simp; omega
end Go.Proofs.Ytfnjbgggmddgpaa.Q
end
section
namespace Go.Proofs.Ytfnjbgggmddgpaa.Q
open Go.RowKit Go.Proofs.Fn Go.Proofs.YtfnjbgggmddgpaaW.PrintWords Go.Proofs.YtfnjbgggmddgpaaW.PrintLast Go.Proofs.YtfnjbgggmddgpaaW.PrintMore
attribute [local go_sem] max2_int min2_int max_two min_two max_three min_three max_four min_four
set_option linter.unusedVariables false
set_option linter.unusedSimpArgs false
def l16_WitnessLanguage.f (k : Nat) (l0_0 : List (List Int)) (l0_1 : List (S80)) (a0_2 : Bool) (a1 : Int) : Option (Bool) := (l16_few.f l0_0 l0_1 a0_2).bind fun t102 => (if t102 = true then ((witness_Language.f k l0_0 l0_1 a0_2 a1).bind fun t104 => ((r16_Language.f k l0_0 l0_1 a0_2 a1).bind fun t107 => ((r04_Lists.f k t104 t107).bind fun t110 => (if t110 = true then ((l16_alive.f k).bind fun t111 => (some t111)) else (some false))))) else ((l16_alive.f k).bind fun t103 => (some t103)))
def l16_WitnessLanguage.T3 : Bool × List (List Nat × List Nat) := (true, [([], []), ([], []), ([0, 1], [0, 1]), ([], []), ([], []), ([3, 4, 2], [3, 4]), ([2, 5, 5], [2, 5]), ([6, 6], [6]), ([7, 7], [7]), ([7, 8], [7, 8]), ([9, 8, 0, 1, 2, 3, 4, 5, 6, 7, 8, 9], [9])])
def l16_WitnessLanguage.B3 : List Nat := [0, 0, 3, 0, 0, 31, 63, 127, 255, 511, 1023]
theorem l16_WitnessLanguage.tab3 : rtab .any (opsOf Try.f6 3) = l16_WitnessLanguage.T3 := by kernel_rfl
theorem l16_WitnessLanguage.bits3 : waitsOk l16_WitnessLanguage.T3.2 l16_WitnessLanguage.B3 = true := by kernel_rfl
set_option maxHeartbeats 8000000 in
set_option maxRecDepth 100000 in
theorem l16_WitnessLanguage.calls (k : Nat) (A0_0 : Option Addr) (c0_0 : Nat) (l0_0 : List (List Int)) (A0_1 : Option Addr) (c0_1 : Nat) (l0_1 : List (S80)) (a0_2 : Bool) (a1 : Int) (r : Bool) (w : World) (hr0_0 : Kd.C (Kd.slice 3 (Kd.int .i64)) w A0_0 l0_0.length l0_0) (hc0_0 : l0_0.length ≤ c0_0) (hr0_1 : Kd.C k80 w A0_1 l0_1.length l0_1) (hc0_1 : l0_1.length ≤ c0_1) (h : l16_WitnessLanguage.f k l0_0 l0_1 a0_2 a1 = some r) :
  Calls Try.prog 6 #[.agg #[.slice A0_0 l0_0.length c0_0, .slice A0_1 l0_1.length c0_1, .bool a0_2], .int .i64 a1] w fun e w' => e = .returned (.bool r) ∧ Below w.heap.size w w' := by
 have hu25 := Try.underlying25
 have HR0_0 := Aside0.mk hr0_0
 have HC0_0 := Aside0.mk hc0_0
 clear hr0_0 hc0_0
 have HR0_1 := Aside0.mk hr0_1
 have HC0_1 := Aside0.mk hc0_1
 clear hr0_1 hc0_1
 have HB := Aside0.mk (Below.refl w.heap.size w)
 have H : ((l16_few.f l0_0 l0_1 a0_2).bind fun t102 => (if t102 = true then ((witness_Language.f k l0_0 l0_1 a0_2 a1).bind fun t104 => ((r16_Language.f k l0_0 l0_1 a0_2 a1).bind fun t107 => ((r04_Lists.f k t104 t107).bind fun t110 => (if t110 = true then ((l16_alive.f k).bind fun t111 => (some t111)) else (some false))))) else ((l16_alive.f k).bind fun t103 => (some t103)))) = some r := h
 clear h
 replace H := Option.bind_eq_some_iff.mp H
 obtain ⟨t102, A30, H⟩ := H
 (try dsimp only at H)
 have A3 := Aside0.mk A30
 clear A30
 by_cases c4 : t102 = true
 ·subst c4
  rw [if_pos rfl] at H
  replace H := Option.bind_eq_some_iff.mp H
  obtain ⟨t104, A50, H⟩ := H
  (try dsimp only at H)
  have A5 := Aside0.mk A50
  clear A50
  replace H := Option.bind_eq_some_iff.mp H
  obtain ⟨t107, A60, H⟩ := H
  (try dsimp only at H)
  have A6 := Aside0.mk A60
  clear A60
  replace H := Option.bind_eq_some_iff.mp H
  obtain ⟨t110, A70, H⟩ := H
  (try dsimp only at H)
  have A7 := Aside0.mk A70
  clear A70
  by_cases c8 : t110 = true
  ·subst c8
   rw [if_pos rfl] at H
   replace H := Option.bind_eq_some_iff.mp H
   obtain ⟨t111, A90, H⟩ := H
   (try dsimp only at H)
   have A9 := Aside0.mk A90
   clear A90
   obtain rfl := Option.some.inj H
   go_enter Try.func6, Try.ntmps6
   try go_wp2_with (first | ((with_reducible refine gate_dst (N := 2) rfl ?_); refine tBx 2 25 #[.slice A0_0 l0_0.length c0_0, .slice A0_1 l0_1.length c0_1, .bool a0_2] ?_; intro gb101 hg w10 hbox hb; have BK101 := Aside0.mk (hbox); have GW101 := tW HB hg; have GE101 := tW HB hg; replace HB := tA HB hb; clear hb hbox hg; obtain ⟨hcz11_0, hcz11_1, hcz11_2, hfz11_0, hfz11_1, hfz11_2⟩ := zc3 BK101) | ((with_reducible refine gate_callee (f := 9) rfl ?_); refine goesL_ (some 6) rfl rfl Try.func9 (by kernel_rfl) rfl #[.agg #[.slice A0_0 l0_0.length c0_0, .slice A0_1 l0_1.length c0_1, .bool a0_2]] rfl (by (try simp only [List.map_toArray, List.map_cons, List.map_nil]); first | done | rfl | (simp only [List.length_drop, List.length_take]; rfl)) ?_; (with_reducible refine (l16_few.calls _ _ l0_0 _ _ l0_1 a0_2 true _ (tG HR0_0 HB) HC0_0.out (tG HR0_1 HB) HC0_1.out A3.out).mono ?_); rintro e w12 ⟨rfl, hb⟩; refine ⟨_, rfl, ?_⟩; replace BK101 := tL BK101 hb; replace HB := tA HB hb; (try clear hb); (try clear hb2); (try clear hk); (try clear hi)))
   replace BK101 := Aside0.mk (blk_drew BK101.out)
   replace HB := Aside0.mk (below_drew1 HB.out)
   refine sS3 11 [] rfl l16_WitnessLanguage.tab3 l16_WitnessLanguage.bits3 ⟨tz BK101 0, tz BK101 1, tz BK101 2⟩ (fun hHeld HT_ HW_ => ?_)
   generalize w12.drew = w13 at BK101 HB hHeld ⊢
   refine sP 1 10 HT_ rfl rfl ?_
   refine sP 4 13 HT_ rfl rfl ?_
   refine sT 0 9 HT_ HW_ rfl rfl hHeld ?_
   refine sT 3 12 HT_ HW_ rfl rfl hHeld ?_
   refine sO 2 (some 11) HT_ rfl rfl (fun K hK => ?_)
   refine goes_ Try.func27 (by kernel_rfl) rfl #[.agg #[.slice A0_0 l0_0.length c0_0, .slice A0_1 l0_1.length c0_1, .bool a0_2], .int .i64 a1] (by rfl) rfl rfl (by (try simp only [List.map_toArray, List.map_cons, List.map_nil]); first | done | rfl | (simp only [List.length_drop, List.length_take]; rfl)) ?_
   (with_reducible refine (witness_Language.calls k _ _ l0_0 _ _ l0_1 a0_2 a1 t104 _ (tG HR0_0 HB) HC0_0.out (tG HR0_1 HB) HC0_1.out A5.out).mono ?_)
   rintro e w14 ⟨v105, rfl, ho0, hb⟩
   refine ⟨_, rfl, ?_⟩
   have HO106 := Aside0.mk (Kd.N_lower ho0 (below_size (tB)))
   replace BK101 := tL BK101 hb
   replace HB := tA HB hb
   (try clear hb)
   (try clear hb2)
   (try clear hk)
   (try clear hi)
   (try clear ho0)
   refine hK.out _ _ ⟨tz BK101 0, tz BK101 1, tz BK101 2⟩ (fun hHeld => ?_)
   clear hK K
   refine sN 11 ?_
   refine sO 5 (some 14) HT_ rfl rfl (fun K hK => ?_)
   refine goes_ Try.func28 (by kernel_rfl) rfl #[.agg #[.slice A0_0 l0_0.length c0_0, .slice A0_1 l0_1.length c0_1, .bool a0_2], .int .i64 a1] (by rfl) rfl rfl (by (try simp only [List.map_toArray, List.map_cons, List.map_nil]); first | done | rfl | (simp only [List.length_drop, List.length_take]; rfl)) ?_
   (with_reducible refine (r16_Language.calls k _ _ l0_0 _ _ l0_1 a0_2 a1 t107 _ (tG HR0_0 HB) HC0_0.out (tG HR0_1 HB) HC0_1.out A6.out).mono ?_)
   rintro e w15 ⟨v108, rfl, ho0, hb⟩
   refine ⟨_, rfl, ?_⟩
   have HO109 := Aside0.mk (Kd.S_lower (Kd.S_new' ho0 (Kd.N_lt (tR HO106))) (below_size (tB)))
   replace HO106 := Aside0.mk (Kd.N_elder' (tR HO106) (Kd.S_base ho0) hb)
   replace BK101 := tL BK101 hb
   replace HB := tA HB hb
   (try clear hb)
   (try clear hb2)
   (try clear hk)
   (try clear hi)
   (try clear ho0)
   obtain ⟨Ao16, co16, eo16⟩ := Kd.N_slice HO106.out
   (first | subst eo16 | (injection eo16 with f1_ f2_ f3_; have f4_ := f1_.symm; have f5_ := f3_.symm; clear f1_ f2_ f3_; subst f4_; subst f5_))
   obtain ⟨Ao17, co17, eo17⟩ := Kd.S_slice HO109.out
   (first | subst eo17 | (injection eo17 with f1_ f2_ f3_; have f4_ := f1_.symm; have f5_ := f3_.symm; clear f1_ f2_ f3_; subst f4_; subst f5_))
   refine hK.out _ _ ⟨tz BK101 0, tz BK101 1, tz BK101 2⟩ (fun hHeld => ?_)
   clear hK K
   refine sN 14 ?_
   refine sO 6 (some 15) HT_ rfl rfl (fun K hK => ?_)
   refine goes_ Try.func26 (by kernel_rfl) rfl #[.slice Ao16 t104.length co16, .slice Ao17 t107.length co17] (by rfl) rfl rfl (by (try simp only [List.map_toArray, List.map_cons, List.map_nil]); first | done | rfl | (simp only [List.length_drop, List.length_take]; rfl)) ?_
   (with_reducible refine (r04_Lists.calls k _ _ t104 _ _ t107 true _ (tC (Kd.N_reads' HO106.out).2.2) ((Kd.N_reads' HO106.out).2.1) (tC (Kd.S_reads' HO109.out).2.2) ((Kd.S_reads' HO109.out).2.1) A7.out).mono ?_)
   rintro e w' ⟨rfl, ⟨nd, rfl⟩⟩
   refine ⟨_, rfl, ?_⟩
   refine hK.out _ _ ⟨tz BK101 0, tz BK101 1, tz BK101 2⟩ (fun hHeld => ?_)
   clear hK K
   refine sN 15 ?_
   refine sP 7 16 HT_ rfl rfl ?_
   refine sO 8 (some 17) HT_ rfl rfl (fun K hK => ?_)
   refine goes_ Try.func10 (by kernel_rfl) rfl #[] (by rfl) rfl rfl (by (try simp only [List.map_toArray, List.map_cons, List.map_nil]); first | done | rfl | (simp only [List.length_drop, List.length_take]; rfl)) ?_
   with_reducible refine (l16_alive.calls k  t111 _ A9.out).mono ?_
   rintro e w18 ⟨rfl, hb⟩
   refine ⟨_, rfl, ?_⟩
   replace HO106 := Aside0.mk (Kd.N_below (tR HO106) hb)
   replace HO109 := Aside0.mk (Kd.S_below (tR HO109) hb)
   replace BK101 := tL BK101 hb
   replace HB := tA HB hb
   (try clear hb)
   (try clear hb2)
   (try clear hk)
   (try clear hi)
   refine hK.out _ _ ⟨tz BK101 0, tz BK101 1, tz BK101 2⟩ (fun hHeld => ?_)
   clear hK K
   refine sN 17 ?_
   refine sP 9 18 HT_ rfl rfl ?_
   refine sP 10 4 HT_ rfl rfl ?_
   refine sD HT_ ?_
   try go_wp2
   go_ret
   exact ⟨tE, tB⟩
  replace c8 := Bool.eq_false_iff.mpr c8
  subst c8
  rw [if_neg (show ¬ (false = true) by decide)] at H
  obtain rfl := Option.some.inj H
  go_enter Try.func6, Try.ntmps6
  try go_wp2_with (first | ((with_reducible refine gate_dst (N := 2) rfl ?_); refine tBx 2 25 #[.slice A0_0 l0_0.length c0_0, .slice A0_1 l0_1.length c0_1, .bool a0_2] ?_; intro gb101 hg w19 hbox hb; have BK101 := Aside0.mk (hbox); have GW101 := tW HB hg; have GE101 := tW HB hg; replace HB := tA HB hb; clear hb hbox hg; obtain ⟨hcz20_0, hcz20_1, hcz20_2, hfz20_0, hfz20_1, hfz20_2⟩ := zc3 BK101) | ((with_reducible refine gate_callee (f := 9) rfl ?_); refine goesL_ (some 6) rfl rfl Try.func9 (by kernel_rfl) rfl #[.agg #[.slice A0_0 l0_0.length c0_0, .slice A0_1 l0_1.length c0_1, .bool a0_2]] rfl (by (try simp only [List.map_toArray, List.map_cons, List.map_nil]); first | done | rfl | (simp only [List.length_drop, List.length_take]; rfl)) ?_; (with_reducible refine (l16_few.calls _ _ l0_0 _ _ l0_1 a0_2 true _ (tG HR0_0 HB) HC0_0.out (tG HR0_1 HB) HC0_1.out A3.out).mono ?_); rintro e w21 ⟨rfl, hb⟩; refine ⟨_, rfl, ?_⟩; replace BK101 := tL BK101 hb; replace HB := tA HB hb; (try clear hb); (try clear hb2); (try clear hk); (try clear hi)))
  replace BK101 := Aside0.mk (blk_drew BK101.out)
  replace HB := Aside0.mk (below_drew1 HB.out)
  refine sS3 11 [] rfl l16_WitnessLanguage.tab3 l16_WitnessLanguage.bits3 ⟨tz BK101 0, tz BK101 1, tz BK101 2⟩ (fun hHeld HT_ HW_ => ?_)
  generalize w21.drew = w22 at BK101 HB hHeld ⊢
  refine sP 1 10 HT_ rfl rfl ?_
  refine sP 4 13 HT_ rfl rfl ?_
  refine sT 0 9 HT_ HW_ rfl rfl hHeld ?_
  refine sT 3 12 HT_ HW_ rfl rfl hHeld ?_
  refine sO 2 (some 11) HT_ rfl rfl (fun K hK => ?_)
  refine goes_ Try.func27 (by kernel_rfl) rfl #[.agg #[.slice A0_0 l0_0.length c0_0, .slice A0_1 l0_1.length c0_1, .bool a0_2], .int .i64 a1] (by rfl) rfl rfl (by (try simp only [List.map_toArray, List.map_cons, List.map_nil]); first | done | rfl | (simp only [List.length_drop, List.length_take]; rfl)) ?_
  (with_reducible refine (witness_Language.calls k _ _ l0_0 _ _ l0_1 a0_2 a1 t104 _ (tG HR0_0 HB) HC0_0.out (tG HR0_1 HB) HC0_1.out A5.out).mono ?_)
  rintro e w23 ⟨v105, rfl, ho0, hb⟩
  refine ⟨_, rfl, ?_⟩
  have HO106 := Aside0.mk (Kd.N_lower ho0 (below_size (tB)))
  replace BK101 := tL BK101 hb
  replace HB := tA HB hb
  (try clear hb)
  (try clear hb2)
  (try clear hk)
  (try clear hi)
  (try clear ho0)
  refine hK.out _ _ ⟨tz BK101 0, tz BK101 1, tz BK101 2⟩ (fun hHeld => ?_)
  clear hK K
  refine sN 11 ?_
  refine sO 5 (some 14) HT_ rfl rfl (fun K hK => ?_)
  refine goes_ Try.func28 (by kernel_rfl) rfl #[.agg #[.slice A0_0 l0_0.length c0_0, .slice A0_1 l0_1.length c0_1, .bool a0_2], .int .i64 a1] (by rfl) rfl rfl (by (try simp only [List.map_toArray, List.map_cons, List.map_nil]); first | done | rfl | (simp only [List.length_drop, List.length_take]; rfl)) ?_
  (with_reducible refine (r16_Language.calls k _ _ l0_0 _ _ l0_1 a0_2 a1 t107 _ (tG HR0_0 HB) HC0_0.out (tG HR0_1 HB) HC0_1.out A6.out).mono ?_)
  rintro e w24 ⟨v108, rfl, ho0, hb⟩
  refine ⟨_, rfl, ?_⟩
  have HO109 := Aside0.mk (Kd.S_lower (Kd.S_new' ho0 (Kd.N_lt (tR HO106))) (below_size (tB)))
  replace HO106 := Aside0.mk (Kd.N_elder' (tR HO106) (Kd.S_base ho0) hb)
  replace BK101 := tL BK101 hb
  replace HB := tA HB hb
  (try clear hb)
  (try clear hb2)
  (try clear hk)
  (try clear hi)
  (try clear ho0)
  obtain ⟨Ao25, co25, eo25⟩ := Kd.N_slice HO106.out
  (first | subst eo25 | (injection eo25 with f1_ f2_ f3_; have f4_ := f1_.symm; have f5_ := f3_.symm; clear f1_ f2_ f3_; subst f4_; subst f5_))
  obtain ⟨Ao26, co26, eo26⟩ := Kd.S_slice HO109.out
  (first | subst eo26 | (injection eo26 with f1_ f2_ f3_; have f4_ := f1_.symm; have f5_ := f3_.symm; clear f1_ f2_ f3_; subst f4_; subst f5_))
  refine hK.out _ _ ⟨tz BK101 0, tz BK101 1, tz BK101 2⟩ (fun hHeld => ?_)
  clear hK K
  refine sN 14 ?_
  refine sO 6 (some 15) HT_ rfl rfl (fun K hK => ?_)
  refine goes_ Try.func26 (by kernel_rfl) rfl #[.slice Ao25 t104.length co25, .slice Ao26 t107.length co26] (by rfl) rfl rfl (by (try simp only [List.map_toArray, List.map_cons, List.map_nil]); first | done | rfl | (simp only [List.length_drop, List.length_take]; rfl)) ?_
  (with_reducible refine (r04_Lists.calls k _ _ t104 _ _ t107 false _ (tC (Kd.N_reads' HO106.out).2.2) ((Kd.N_reads' HO106.out).2.1) (tC (Kd.S_reads' HO109.out).2.2) ((Kd.S_reads' HO109.out).2.1) A7.out).mono ?_)
  rintro e w' ⟨rfl, ⟨nd, rfl⟩⟩
  refine ⟨_, rfl, ?_⟩
  refine hK.out _ _ ⟨tz BK101 0, tz BK101 1, tz BK101 2⟩ (fun hHeld => ?_)
  clear hK K
  refine sN 15 ?_
  refine sP 7 16 HT_ rfl rfl ?_
  refine sU 8 17 HT_ rfl rfl ?_
  refine sP 9 18 HT_ rfl rfl ?_
  refine sP 10 4 HT_ rfl rfl ?_
  refine sD HT_ ?_
  try go_wp2
  go_ret
  exact ⟨tE, tB⟩
 replace c4 := Bool.eq_false_iff.mpr c4
 subst c4
 rw [if_neg (show ¬ (false = true) by decide)] at H
 replace H := Option.bind_eq_some_iff.mp H
 obtain ⟨t103, A270, H⟩ := H
 (try dsimp only at H)
 have A27 := Aside0.mk A270
 clear A270
 obtain rfl := Option.some.inj H
 go_enter Try.func6, Try.ntmps6
 go_wp2_with (first | ((with_reducible refine gate_dst (N := 2) rfl ?_); refine tBx 2 25 #[.slice A0_0 l0_0.length c0_0, .slice A0_1 l0_1.length c0_1, .bool a0_2] ?_; intro gb101 hg w28 hbox hb; have BK101 := Aside0.mk (hbox); have GW101 := tW HB hg; have GE101 := tW HB hg; replace HB := tA HB hb; clear hb hbox hg; obtain ⟨hcz29_0, hcz29_1, hcz29_2, hfz29_0, hfz29_1, hfz29_2⟩ := zc3 BK101) | ((with_reducible refine gate_callee (f := 9) rfl ?_); refine goesL_ (some 6) rfl rfl Try.func9 (by kernel_rfl) rfl #[.agg #[.slice A0_0 l0_0.length c0_0, .slice A0_1 l0_1.length c0_1, .bool a0_2]] rfl (by (try simp only [List.map_toArray, List.map_cons, List.map_nil]); first | done | rfl | (simp only [List.length_drop, List.length_take]; rfl)) ?_; (with_reducible refine (l16_few.calls _ _ l0_0 _ _ l0_1 a0_2 false _ (tG HR0_0 HB) HC0_0.out (tG HR0_1 HB) HC0_1.out A3.out).mono ?_); rintro e w30 ⟨rfl, hb⟩; refine ⟨_, rfl, ?_⟩; replace BK101 := tL BK101 hb; replace HB := tA HB hb; (try clear hb); (try clear hb2); (try clear hk); (try clear hi)) | ((with_reducible refine gate_callee (f := 10) rfl ?_); refine goesL_ (some 8) rfl rfl Try.func10 (by kernel_rfl) rfl #[] rfl (by (try simp only [List.map_toArray, List.map_cons, List.map_nil]); first | done | rfl | (simp only [List.length_drop, List.length_take]; rfl)) ?_; (with_reducible refine (l16_alive.calls k  t103 _ A27.out).mono ?_); rintro e w31 ⟨rfl, hb⟩; refine ⟨_, rfl, ?_⟩; replace BK101 := tL BK101 hb; replace HB := tA HB hb; (try clear hb); (try clear hb2); (try clear hk); (try clear hi)))
 go_ret
 exact ⟨tE, tB⟩
end Go.Proofs.Ytfnjbgggmddgpaa.Q
end
section
set_option linter.unusedVariables false
set_option linter.unusedSimpArgs false
namespace Go.Proofs.Ytfnjbgggmddgpaa.Q
open Go.RowKit Go.Proofs.Fn Go.Proofs.YtfnjbgggmddgpaaW.PrintWords Go.Proofs.YtfnjbgggmddgpaaW.PrintMore Go.Proofs.Gr
def LG (st : List (List Int)) (es : List S80) (kk : Int) : List (List Int) := if kk < 0 ∨ kk > 6 ∨ st.length = 0 then [] else ((levs (tab st.length es) (kk.toNat + 1) [([], 0)]).take 5000).map Prod.fst
theorem okTab_tab {n : Nat} {es : List S80} (h0 : 0 < n) (hn : n ≤ 1000000) (he : es.length ≤ 1000) : okTab ((tab n es).map (List.map pr)) = true := by
  have hT := tab_ok (n := n) (es := es) hn (by omega)
  have hl := hT.len
  unfold okTab
  rw [Bool.and_eq_true, decide_eq_true_eq, List.all_eq_true, List.length_map, hl]
  refine ⟨⟨h0, hn⟩, fun r hr => ?_⟩
  obtain ⟨q, hq, rfl⟩ := List.mem_map.1 hr
  obtain ⟨i, hi, e⟩ := List.mem_iff_getElem.1 hq
  have e2 : (tab n es).getD i [] = q := by rw [← e]; simp [hi]
  rw [Bool.and_eq_true, decide_eq_true_eq, List.all_eq_true, List.length_map]
  refine ⟨?_, fun x hx => ?_⟩
  · rw [← e2, tab_get (by omega)]
    exact Nat.le_trans (row_len _ _ _) he
  · obtain ⟨y, hy, rfl⟩ := List.mem_map.1 hx
    have := hT.tgt i (by omega) y (by rw [e2]; exact hy)
    exact decide_eq_true this
theorem wlanguage_ev (st : List (List Int)) (es : List S80) (b : Bool) (kk : Int) (hn : st.length ≤ 1000000) (he : es.length ≤ 1000) : Evn (fun k => witness_Language.f k st es b kk) (LG st es kk) := by
  unfold witness_Language.f LG
  by_cases c : kk < 0 ∨ kk > 6 ∨ st.length = 0
  · rw [if_pos c]; exact Evn.pos c (Evn.const _)
  · rw [if_neg c]
    refine Evn.neg c ((steps_ev st es b hn (by omega)).bind (Evn.pos (okTab_tab (by omega) hn he) ?_))
    rw [lang_eq _ _ _ _ (by simp), List.nil_append, List.map_take]
    exact Evn.const _
theorem rlanguage_ev (st : List (List Int)) (es : List S80) (b : Bool) (kk : Int) (hn : st.length ≤ 1000000) (he : es.length ≤ 1000) : Evn (fun k => r16_Language.f k st es b kk) (LG st es kk) := by
  have yes : Evn (fun k => r16_Language.j0 k kk true st es b) [] := by
    refine Evn.succ ?_
    simp only [r16_Language.j0]
    exact Evn.pos (by simp) (Evn.const _)
  unfold r16_Language.f LG
  by_cases c1 : st.length = 0
  · rw [if_pos (.inr (.inr c1))]; exact Evn.pos (by omega) yes
  · refine Evn.neg (by omega) ?_
    by_cases c2 : kk < 0
    · rw [if_pos (.inl c2)]; exact Evn.pos c2 yes
    · refine Evn.neg c2 ?_
      by_cases c3 : kk > 6
      · rw [if_pos (.inr (.inl c3)), decide_eq_true c3]; exact yes
      · rw [if_neg (by omega), decide_eq_false c3]
        refine Evn.succ ?_
        simp only [r16_Language.j0]
        refine Evn.neg (by simp) ((table_ev st es b hn (by omega)).bind ?_)
        have hT := tab_ok (n := st.length) (es := es) hn (by omega)
        have hl := hT.len
        obtain ⟨n, rfl⟩ : ∃ n : Nat, kk = (n : Int) := ⟨kk.toNat, by omega⟩
        rw [← hl] at hT
        rw [hl] at hT
        have hT2 : OkT (tab st.length es).length (tab st.length es) := by rw [hl]; exact hT
        have := rlang_l0 hT2 n (by omega) [([], 0)] (by intro p hp; rw [List.mem_singleton.1 hp]; simp; omega) (by simp) n 0 0 [([], 0)] (by omega) (by simp [levs]) (fun _ => ⟨by simp, rfl⟩) (fun _ => trivial) (by simp)
        exact this
theorem lists_ev (L : List (List Int)) (hL : L.length ≤ 1000000) (hr : ∀ x ∈ L, x.length ≤ 1000000) : Evn (fun k => r04_Lists.f k L L) true := by
  unfold r04_Lists.f
  refine Evn.pos rfl ?_
  have key : ∀ (n i : Nat), i + n = L.length → Evn (fun k => r04_Lists.l0 k L L (i : Int)) true := by
    intro n
    induction n with
    | zero =>
      intro i hi
      refine Evn.succ ?_
      simp only [r04_Lists.l0]
      exact Evn.neg (by omega) (Evn.const _)
    | succ n ih =>
      intro i hi
      have hil : i < L.length := by omega
      refine Evn.succ ?_
      simp only [r04_Lists.l0, wrap_succ (show i < 9223372036854775807 by omega), rdL3 hil]
      have := same2_ev L[i] L[i] (hr _ (List.getElem_mem hil))
      rw [show decide (L[i] = L[i]) = true by simp] at this
      exact Evn.pos (by omega) (Evn.pos (by omega) (Evn.pos (by omega) (this.bind (Evn.pos rfl (ih (i + 1) (by omega))))))
  exact key L.length 0 (by omega)
theorem LG_short (st : List (List Int)) (es : List S80) (kk : Int) (hn : st.length ≤ 1000000) (he : es.length ≤ 1000) : (LG st es kk).length ≤ 5000 ∧ ∀ x ∈ LG st es kk, x.length ≤ 1000 := by
  unfold LG
  by_cases c : kk < 0 ∨ kk > 6 ∨ st.length = 0
  · rw [if_pos c]; exact ⟨by simp, fun x hx => by cases hx⟩
  · rw [if_neg c]
    have hT := tab_ok (n := st.length) (es := es) hn (by omega)
    have hT2 : OkT (tab st.length es).length (tab st.length es) := by rw [hT.len]; exact hT
    refine ⟨by simp; omega, fun x hx => ?_⟩
    obtain ⟨p, hp, rfl⟩ := List.mem_map.1 hx
    have := inl_levs hT2 (kk.toNat + 1) 0 [([], 0)] (by intro p hp; rw [List.mem_singleton.1 hp]; simp [hT.len]; omega) p (List.mem_of_mem_take hp)
    omega
theorem language_law (st : List (List Int)) (es : List S80) (b : Bool) (kk : Int) : Evn (fun k => l16_WitnessLanguage.f k st es b kk) true := by
  unfold l16_WitnessLanguage.f
  rw [few_eq]
  refine Evn.bind (Evn.const _) ?_
  by_cases c : st.length ≤ 16 ∧ es.length ≤ 40
  · have hs := LG_short st es kk (by omega) (by omega)
    exact Evn.pos (by simpa using c) ((wlanguage_ev st es b kk (by omega) (by omega)).bind ((rlanguage_ev st es b kk (by omega) (by omega)).bind ((lists_ev _ (by omega) (fun x hx => by have := hs.2 x hx; omega)).bind (Evn.pos rfl (alive_ev.bind (Evn.const _))))))
  · exact Evn.neg (by simpa using c) (alive_ev.bind (Evn.const _))
end Go.Proofs.Ytfnjbgggmddgpaa.Q
end
