/- Part 4 of a proof: De. Words and walks that a program printed for this claim stand here without what the claim does not use. -/
import Derived.Test.YtfnjbgggmddgpaaDe2
import Derived.Test.YtfnjbgggmddgpaaDe3
section
namespace Go.Proofs.Ytfnjbgggmddgpaa.Q
open Go.RowKit Go.Proofs.Fn Go.Proofs.YtfnjbgggmddgpaaW.PrintWords Go.Proofs.YtfnjbgggmddgpaaW.PrintLast Go.Proofs.YtfnjbgggmddgpaaW.PrintMore
attribute [local go_sem] max2_int min2_int max_two min_two max_three min_three max_four min_four
set_option linter.unusedVariables false
set_option linter.unusedSimpArgs false
def r16_Table.l0 : Nat → List (List (S80)) → Int → List (List Int) → List (S80) → Bool → Option ((List (List (S80))))
 | 0, _, _, _, _, _ => none
 | k + 1, x3, x4, x102000, x102001, x102002 => if x4 < (x102000.length : Int) then ((r16_Moves.f k x102000 x102001 x102002 x4).bind fun t102 => (if x3.length < 5864062014805 then (r16_Table.l0 k (x3 ++ [t102]) (wrap64 (x4 + 1)) x102000 x102001 x102002) else (none))) else (some x3)
def r16_Table.f (k : Nat) (l0_0 : List (List Int)) (l0_1 : List (S80)) (a0_2 : Bool) : Option ((List (List (S80)))) := r16_Table.l0 k ([] : List (List (S80))) 0 l0_0 l0_1 a0_2
set_option maxHeartbeats 8000000 in
set_option maxRecDepth 100000 in
theorem r16_Table.calls (k : Nat) (A0_0 : Option Addr) (c0_0 : Nat) (l0_0 : List (List Int)) (A0_1 : Option Addr) (c0_1 : Nat) (l0_1 : List (S80)) (a0_2 : Bool) (r : List (List (S80))) (w : World) (hr0_0 : Kd.C (Kd.slice 3 (Kd.int .i64)) w A0_0 l0_0.length l0_0) (hc0_0 : l0_0.length ≤ c0_0) (hr0_1 : Kd.C k80 w A0_1 l0_1.length l0_1) (hc0_1 : l0_1.length ≤ c0_1) (h : r16_Table.f k l0_0 l0_1 a0_2 = some r) :
  Calls Try.prog 37 #[.agg #[.slice A0_0 l0_0.length c0_0, .slice A0_1 l0_1.length c0_1, .bool a0_2]] w fun e w' => ∃ v0_ : Value, e = .returned (v0_) ∧ Kd.S (Kd.slice 80 k80) 23 w' w.heap.size (fun _ => True) v0_ r ∧ Below w.heap.size w w' := by
 have hu25 := Try.underlying25
 have HR0_0 := Aside0.mk hr0_0
 have HC0_0 := Aside0.mk hc0_0
 clear hr0_0 hc0_0
 have HR0_1 := Aside0.mk hr0_1
 have HC0_1 := Aside0.mk hc0_1
 clear hr0_1 hc0_1
 have HB := Aside0.mk (Below.refl w.heap.size w)
 have H : (r16_Table.l0 k ([] : List (List (S80))) 0 l0_0 l0_1 a0_2) = some r := h
 clear h
 have H' := Aside0.mk H
 clear H
 go_enter Try.func37, Try.ntmps37
 go_wp2_with (first | ((with_reducible refine gate_dst (N := 1) rfl ?_); refine tBx 1 25 #[.slice A0_0 l0_0.length c0_0, .slice A0_1 l0_1.length c0_1, .bool a0_2] ?_; intro gb101 hg w2 hbox hb; have BK101 := Aside0.mk (hbox); have GW101 := tW HB hg; have GE101 := tW HB hg; replace HB := tA HB hb; clear hb hbox hg))
 go_loopg [3, 4] k (fun kq v3 v4 w' => ∃ (x3_1 : List (List (S80))) (x4_1 : Int), v4 = .int .i64 x4_1 ∧ Aside0 (r16_Table.l0 kq x3_1 x4_1 l0_0 l0_1 a0_2 = some r) ∧ Aside0 (kq ≤ k) ∧ Aside0 (Kd.S (Kd.slice 80 k80) 23 w' w.heap.size (fun _ => True) v3 x3_1) ∧ Aside0 (w'.heap[gb101]? = some (.cells #[(.slice A0_0 l0_0.length c0_0), (.slice A0_1 l0_1.length c0_1), .bool a0_2] 25 (0, 0))) ∧ Aside0 (Below w.heap.size w w'))
 case atStart => exact ⟨(([] : List (List (S80)))), (0), tU, H', ⟨Nat.le_refl _⟩, ⟨by first | exact Kd.S_nil _ _ _ _ _ | exact Kd.N_nil _ _ _ _ _ | exact Kd.V_nil _ _ _ _ _ | exact Kd.Q_nil _ _ _ _ _ | exact Kd.R_nil _ _ _ _ _⟩, ⟨tK BK101⟩, ⟨tB⟩⟩
 case round =>
  clear H'
  try clear p2
  obtain ⟨x3_1, x4_1, rfl, HA, HK1, HO_3, BK101, HB⟩ := hrel
  cases gk with
  | zero => exact absurd HA.out (by simp [r16_Table.l0])
  | succ k1 =>
   have H := HA.out
   clear HA
   simp only [r16_Table.l0] at H
   by_cases c3 : x4_1 < (l0_0.length : Int)
   ·rw [if_pos c3] at H
    have c3b0 := decide_eq_true c3
    clear c3
    replace H := Option.bind_eq_some_iff.mp H
    obtain ⟨t102, A40, H⟩ := H
    (try dsimp only at H)
    have A4 := Aside0.mk A40
    clear A40
    replace H := tF H
    obtain ⟨c5, H⟩ := H
    have LMc5 := Aside0.mk c5
    clear c5
    obtain ⟨y105, hy105⟩ : ∃ y_ : List (List (S80)), y_ = (x3_1 ++ [t102]) := ⟨_, rfl⟩
    replace H : (r16_Table.l0 k1 y105 (wrap64 (x4_1 + 1)) l0_0 l0_1 a0_2) = some r := tQ hy105 H
    have Ny105 := Aside0.mk hy105
    clear hy105
    have H' := Aside0.mk H
    clear H
    obtain ⟨hcz6_0, hcz6_1, hcz6_2, hfz6_0, hfz6_1, hfz6_2⟩ := zc3 BK101
    go_wp2_with (first | ((with_reducible refine gate_callee (f := 58) rfl ?_); refine goesL_ (some 15) rfl rfl Try.func58 (by kernel_rfl) rfl #[.agg #[.slice A0_0 l0_0.length c0_0, .slice A0_1 l0_1.length c0_1, .bool a0_2], .int .i64 x4_1] rfl (by (try simp only [List.map_toArray, List.map_cons, List.map_nil]); first | done | rfl | (simp only [List.length_drop, List.length_take]; rfl)) ?_; (with_reducible refine (r16_Moves.calls k1 _ _ l0_0 _ _ l0_1 a0_2 x4_1 t102 _ (tG HR0_0 HB) HC0_0.out (tG HR0_1 HB) HC0_1.out A4.out).mono ?_); rintro e w7 ⟨v103, rfl, ho0, hb⟩; refine ⟨_, rfl, ?_⟩; replace HO_3 := Aside0.mk (Kd.S_elder' (tR HO_3) (Kd.R_base ho0) hb); have HO104 := Aside0.mk (Kd.R_lower ho0 (below_size (tB))); replace BK101 := tL BK101 hb; replace HB := tA HB hb; (try clear hb); (try clear hb2); (try clear hk); (try clear hi); (try clear ho0); obtain ⟨Ao9, co9, eo9⟩ := Kd.R_slice HO104.out; subst eo9) | ((with_reducible refine gate_builtin (b := .append) (xs := #[.tmp 12, .tmp 16]) rfl ?_); at_builtin; refine Kd.S_append (Kd.slice 80 k80) (w0 := w) w.heap.size rfl (.tmp 12) (.tmp 16) 61 23 (.slice none 0 0) 24 rfl Try.underlying61 info23 rfl (by decide) (by omega) u3 x3_1 t102 [.slice Ao9 t102.length co9] (fun _ => True) (fun k_ => some k_ = (.slice Ao9 t102.length co9 : Value).ownBlock) rfl rfl ?aP (fun k_ hk_ => ((Kd.R_mono (ok' := fun k_ => ((fun _ => True)) k_ ∧ some k_ ≠ (u3 : Value).ownBlock) (Kd.R_apart' (HO104.out) (Kd.S_typed HO_3.out) (by decide)) (fun k_ hk => ⟨trivial, hk.2⟩))).1 k_ hk_.symm) ?aF ?aO ?aB ?aS ?aL ?_; (case aP => exact Kd.M_row (Kd.R_mono (Kd.R_tight rfl (Kd.R_mono (ok' := fun k_ => ((fun _ => True)) k_ ∧ some k_ ≠ (u3 : Value).ownBlock) (Kd.R_apart' (HO104.out) (Kd.S_typed HO_3.out) (by decide)) (fun k_ hk => ⟨trivial, hk.2⟩))) (fun _ h_ => h_))); (case aB => exact (tB)); (case aF => exact (fun _ _ => trivial)); (case aO => exact (by (with_reducible repeat (first | apply Kd.S_alloc | apply Kd.S_drewN | apply Kd.S_drew)); exact Kd.S_mono HO_3.out (fun k_ hk => ⟨trivial, fun e_ => hk.2 e_⟩))); (case aS => exact (below_size (tB))); (case aL => have := LMc5.out; omega); intro v106 w8 ho hb hg hat; rw [← Ny105.out] at ho; replace BK101 := Aside0.mk (blk_grown (g := gb101) (o := .cells #[.slice A0_0 l0_0.length c0_0, .slice A0_1 l0_1.length c0_1, .bool a0_2] 25 (0, 0)) (tK BK101) hg (Kd.S_ne HO_3.out BK101.out (by decide))); replace HB := Aside0.mk (hb); have HO107 := Aside0.mk (ho); clear HO104 HO_3; clear ho hb hg hat))
    go_roundg k1
    case measure => have := HK1.out; omega
    case rel => exact ⟨(y105), (wrap64 (x4_1 + 1)), tU, H', ⟨by have := HK1.out; omega⟩, ⟨tR HO107⟩, ⟨tK BK101⟩, ⟨tB⟩⟩
   rw [if_neg c3] at H
   have c3b0 := decide_eq_false c3
   clear c3
   obtain rfl := Option.some.inj H
   obtain ⟨hcz10_0, hcz10_1, hcz10_2, hfz10_0, hfz10_1, hfz10_2⟩ := zc3 BK101
   go_wp2
   go_ret
   exact ⟨_, tE, by (with_reducible repeat (first | apply Kd.S_alloc | apply Kd.S_drewN | apply Kd.S_drew)); exact HO_3.out, tB⟩
end Go.Proofs.Ytfnjbgggmddgpaa.Q
end
section
set_option linter.unusedVariables false
set_option linter.unusedSimpArgs false
namespace Go.Proofs.Ytfnjbgggmddgpaa.Q
open Go.RowKit Go.Proofs.Fn Go.Proofs.YtfnjbgggmddgpaaW.PrintWords Go.Proofs.Gr
def cnt (n : Nat) (s : Int) (e : S80) : Bool := decide (0 ≤ e.f0 ∧ e.f0 < (n : Int) ∧ 0 ≤ e.f2 ∧ e.f2 < (n : Int)) && decide (e.f0 = s)
def insE (e : S80) : List S80 → List S80
  | [] => [e]
  | p :: l => if p.f1 < e.f1 then p :: insE e l else if p.f1 = e.f1 then p :: l else e :: p :: l
def row (n : Nat) (es : List S80) (s : Int) : List S80 := (es.filter (cnt n s)).foldl (fun l e => insE e l) []
def tab (n : Nat) (es : List S80) : List (List S80) := (List.range n).map (fun (s : Nat) => row n es (s : Int))
def pr (e : S80) : S66 := ⟨e.f1, e.f2⟩
theorem rd80 {es : List S80} {j : Nat} (h : j < es.length) : rd_T80 es (j : Int) = es[j] := by simp [rd_T80, h]
theorem drop80 {es : List S80} {j : Nat} (h : j < es.length) : es.drop j = rd_T80 es (j : Int) :: es.drop (j + 1) := by
  rw [rd80 h]; exact List.drop_eq_getElem_cons h
theorem exists_eq (st : List (List Int)) (es : List S80) (b : Bool) (a c d : Int) : explore_exists.f st es b a c d = some (decide (0 ≤ a ∧ a < (st.length : Int) ∧ 0 ≤ d ∧ d < (st.length : Int))) := by
  unfold explore_exists.f
  have key : ∀ x y : Bool, (x = true ↔ y = true) → some x = some y := fun x y h => congrArg some (Bool.eq_iff_iff.2 h)
  split
  · split
    · split
      · refine key _ _ ?_; simp only [decide_eq_true_eq]; omega
      · refine key _ _ ?_; simp only [decide_eq_true_eq, Bool.false_eq_true, false_iff]; omega
    · refine key _ _ ?_; simp only [decide_eq_true_eq, Bool.false_eq_true, false_iff]; omega
  · refine key _ _ ?_; simp only [decide_eq_true_eq, Bool.false_eq_true, false_iff]; omega
theorem sound_eq (st : List (List Int)) (es : List S80) (b : Bool) (a c d : Int) : r14_Sound.f st es b a c d = some (decide (0 ≤ a ∧ a < (st.length : Int) ∧ 0 ≤ d ∧ d < (st.length : Int))) := exists_eq st es b a c d
theorem next_l0 (st : List (List Int)) (es : List S80) (b : Bool) (a : Int) (hes : es.length ≤ 1000000) : ∀ (m j : Nat) (acc : List S80), j + m = es.length → acc.length ≤ j → Evn (fun k => explore_Next.l0 k a acc es (es.length : Int) (j : Int) st es b) (acc ++ (es.drop j).filter (cnt st.length a)) := by
  intro m
  induction m with
  | zero =>
    intro j acc hj ha
    refine Evn.succ ?_
    simp only [explore_Next.l0]
    (first | refine Evn.pos (by first | assumption | omega | (simp; done) | (simp; omega)) ?_ | refine Evn.neg (by first | assumption | omega | (simp; done) | (simp; omega)) ?_)
    rw [List.drop_of_length_le (by omega)]
    simpa using Evn.const _
  | succ m ih =>
    intro j acc hj ha
    refine Evn.succ ?_
    simp only [explore_Next.l0, exists_eq, Option.bind_some, wrap_succ (show j < 9223372036854775807 by omega)]
    (first | refine Evn.pos (by first | assumption | omega | (simp; done) | (simp; omega)) ?_ | refine Evn.neg (by first | assumption | omega | (simp; done) | (simp; omega)) ?_); (first | refine Evn.pos (by first | assumption | omega | (simp; done) | (simp; omega)) ?_ | refine Evn.neg (by first | assumption | omega | (simp; done) | (simp; omega)) ?_); (first | refine Evn.pos (by first | assumption | omega | (simp; done) | (simp; omega)) ?_ | refine Evn.neg (by first | assumption | omega | (simp; done) | (simp; omega)) ?_)
    rw [drop80 (show j < es.length by omega)]
    generalize rd_T80 es (j : Int) = e
    by_cases c : e.f0 = a
    · refine Evn.pos c ?_
      by_cases c2 : 0 ≤ e.f0 ∧ e.f0 < (st.length : Int) ∧ 0 ≤ e.f2 ∧ e.f2 < (st.length : Int)
      · refine Evn.pos (by simpa using c2) ?_
        (first | refine Evn.pos (by first | assumption | omega | (simp; done) | (simp; omega)) ?_ | refine Evn.neg (by first | assumption | omega | (simp; done) | (simp; omega)) ?_)
        have := ih (j + 1) (acc ++ [e]) (by omega) (by simp; omega)
        have e1 : cnt st.length a e = true := by simp [cnt, c]; simp [c] at c2; omega
        rw [List.filter_cons_of_pos e1]
        simpa using this
      · refine Evn.neg (by simpa using c2) ?_
        have := ih (j + 1) acc (by omega) (by omega)
        rw [List.filter_cons_of_neg (by simp [cnt]; intro h1 h2 h3 h4; exact absurd ⟨h1, h2, h3, h4⟩ c2)]
        exact this
    · refine Evn.neg c ?_
      have := ih (j + 1) acc (by omega) (by omega)
      rw [List.filter_cons_of_neg (by simp [cnt, c])]
      exact this
theorem next_ev (st : List (List Int)) (es : List S80) (b : Bool) (a : Int) (hes : es.length ≤ 1000000) : Evn (fun k => explore_Next.f k st es b a) (es.filter (cnt st.length a)) := by
  have := next_l0 st es b a hes es.length 0 [] (by omega) (by simp)
  simpa [explore_Next.f] using this
def insS (e : S66) : List S66 → List S66
  | [] => [e]
  | p :: l => if p.f0 < e.f0 then p :: insS e l else if p.f0 = e.f0 then p :: l else e :: p :: l
theorem insS_pr (e : S80) (l : List S80) : (insE e l).map pr = insS (pr e) (l.map pr) := by
  induction l with
  | nil => rfl
  | cons p l ih =>
    simp only [insE, List.map_cons, insS]
    show _ = if p.f1 < e.f1 then _ else if p.f1 = e.f1 then _ else _
    split
    · rw [List.map_cons, ih]
    · split <;> simp
theorem insS_len (e : S66) (l : List S66) : (insS e l).length ≤ l.length + 1 := by
  induction l with
  | nil => simp [insS]
  | cons p l ih => simp only [insS]; repeat' split
                   all_goals simp <;> omega
theorem shift_set {α : Type} (l : List α) (i : Nat) (z x : α) (h : i ≤ l.length) : (shiftUp (l ++ [z]) i).set i x = l.take i ++ x :: l.drop i := by
  unfold shiftUp
  apply List.ext_getElem?
  intro j
  rw [List.getElem?_set]
  simp only [List.getElem?_append, List.getElem?_take, List.getElem?_drop, List.length_append, List.length_take, List.length_singleton, List.length_cons, List.length_nil, List.getElem?_cons]
  grind
theorem rd66 {l : List S66} {j : Nat} (h : j < l.length) : rd_T66 l (j : Int) = l[j] := by simp [rd_T66, h]
theorem rdL66 {x : List (List S66)} {s : Nat} : rd_L66 x (s : Int) = x.getD s [] := by simp [rd_L66]
theorem steps_l2 (st : List (List Int)) (es : List S80) (b : Bool) (lst : List S80) (r : List (List S66)) (n s : Nat) (q : Int) (e : S80) (hs : s < n) :
    ∀ (suf pre : List S66) (x : List (List S66)), x.length = n → x.getD s [] = pre ++ suf → (∀ p ∈ pre, p.f0 < e.f1) → (pre ++ suf).length ≤ 1000000 →
    Evn (fun k => witness_steps.l1 k (x.set s (pre ++ insS (pr e) suf)) s n s lst (lst.length : Int) (wrap64 (q + 1)) st es b) r →
    Evn (fun k => witness_steps.l2 k x s (pre.length : Int) n s lst (lst.length : Int) q st es b e.f0 e.f1 e.f2) r := by
  intro suf
  induction suf with
  | nil =>
    intro pre x hx hg hp hl hr
    rw [List.append_nil] at hg hl
    have e0 : ∀ (l : List S66), (x.set s l).getD s [] = l := fun z => by simp [hx, hs]
    have e1 : ∀ (z : S66), (shiftUp (pre ++ [z]) pre.length).length = pre.length + 1 := fun z => by simp [shiftUp]
    refine Evn.succ ?_
    simp only [witness_steps.l2, rdL66, hg, Option.bind_some, Int.toNat_natCast, shiftAt_, e0, List.length_set, List.set_set, hx, e1, shift_set _ _ _ _ (Nat.le_refl _), List.take_length, List.drop_length, List.length_append, List.length_singleton]
    iterate 7 (first | refine Evn.pos (by first | assumption | omega | (simp; done) | (simp; omega)) ?_ | refine Evn.neg (by first | assumption | omega | (simp; done) | (simp; omega)) ?_)
    exact hr
  | cons p suf ih =>
    intro pre x hx hg hp hl hr
    have e0 : ∀ (l : List S66), (x.set s l).getD s [] = l := fun z => by simp [hx, hs]
    have e1 : ∀ (z : S66), (shiftUp (pre ++ p :: suf ++ [z]) pre.length).length = (pre ++ p :: suf).length + 1 := fun z => by simp [shiftUp]; omega
    have ep : rd_T66 (pre ++ p :: suf) (pre.length : Int) = p := by rw [rd66 (by simp)]; simp
    have hl2 : (pre ++ p :: suf).length = pre.length + (suf.length + 1) := by simp
    have et : (pre ++ p :: suf).take pre.length = pre := by simp
    have ed : (pre ++ p :: suf).drop pre.length = p :: suf := by simp
    refine Evn.succ ?_
    simp only [witness_steps.l2, rdL66, hg, ep, Option.bind_some, Int.toNat_natCast, shiftAt_, e0, List.length_set, List.set_set, hx, e1, shift_set (pre ++ p :: suf) pre.length _ _ (by simp), et, ed, wrap_succ (show pre.length < 9223372036854775807 by omega)]
    rw [hl2] at hl
    iterate 4 (first | refine Evn.pos (by first | assumption | omega | (simp; done) | (simp; omega)) ?_ | refine Evn.neg (by first | assumption | omega | (simp; done) | (simp; omega)) ?_)
    by_cases c : p.f0 < e.f1
    · refine Evn.pos c ?_
      have := ih (pre ++ [p]) x hx (by rw [List.append_assoc]; exact hg) (by intro q hq; rcases List.mem_append.1 hq with hq | hq; exact hp q hq; rw [List.mem_singleton.1 hq]; exact c) (by simp; omega) (by
        rw [List.append_assoc]
        have e2 : insS (pr e) (p :: suf) = p :: insS (pr e) suf := by simp only [insS]; rw [if_pos (show p.f0 < (pr e).f0 from c)]
        rw [e2] at hr
        exact hr)
      simpa using this
    · refine Evn.neg c ?_
      by_cases c2 : p.f0 = e.f1
      · refine Evn.pos c2 ?_
        have e2 : insS (pr e) (p :: suf) = p :: suf := by simp only [insS]; rw [if_neg (show ¬ p.f0 < (pr e).f0 from c), if_pos (show p.f0 = (pr e).f0 from c2)]
        have e3 : x.set s (pre ++ p :: suf) = x := by
          apply List.ext_getElem?
          intro i
          rw [List.getElem?_set]
          have : s < x.length := by omega
          rw [List.getD_eq_getElem?_getD] at hg
          grind
        rw [e2, e3] at hr
        exact hr
      · refine Evn.neg c2 ?_
        have e2 : insS (pr e) (p :: suf) = pr e :: p :: suf := by simp only [insS]; rw [if_neg (show ¬ p.f0 < (pr e).f0 from c), if_neg (show ¬ p.f0 = (pr e).f0 from c2)]
        rw [e2] at hr
        iterate 3 (first | refine Evn.pos (by first | assumption | omega | (simp; done) | (simp; omega)) ?_ | refine Evn.neg (by first | assumption | omega | (simp; done) | (simp; omega)) ?_)
        exact hr
theorem steps_l1 (st : List (List Int)) (es : List S80) (b : Bool) (lst : List S80) (r : List (List S66)) (n s : Nat) (hs : s < n) (hl : lst.length ≤ 1000000) :
    ∀ (m q : Nat) (x : List (List S66)), q + m = lst.length → x.length = n → (x.getD s []).length ≤ q →
    Evn (fun k => witness_steps.l0 k (x.set s ((lst.drop q).foldl (fun l e => insS (pr e) l) (x.getD s []))) n (wrap64 ((s : Int) + 1)) st es b) r →
    Evn (fun k => witness_steps.l1 k x s n s lst (lst.length : Int) (q : Int) st es b) r := by
  intro m
  induction m with
  | zero =>
    intro q x hq hx hg hr
    refine Evn.succ ?_
    simp only [witness_steps.l1]
    (first | refine Evn.pos (by first | assumption | omega | (simp; done) | (simp; omega)) ?_ | refine Evn.neg (by first | assumption | omega | (simp; done) | (simp; omega)) ?_)
    rw [List.drop_of_length_le (by omega)] at hr
    have e3 : x.set s (x.getD s []) = x := by
      apply List.ext_getElem?
      intro i
      rw [List.getElem?_set]
      grind
    simpa only [List.foldl_nil, e3] using hr
  | succ m ih =>
    intro q x hq hx hg hr
    refine Evn.succ ?_
    simp only [witness_steps.l1]
    iterate 3 (first | refine Evn.pos (by first | assumption | omega | (simp; done) | (simp; omega)) ?_ | refine Evn.neg (by first | assumption | omega | (simp; done) | (simp; omega)) ?_)
    rw [drop80 (show q < lst.length by omega)] at hr
    revert hr
    generalize rd_T80 lst (q : Int) = e
    intro hr
    have := steps_l2 st es b lst r n s (q : Int) e hs (x.getD s []) [] x hx rfl (by simp) (by simp only [List.nil_append]; omega)
    refine this ?_
    rw [wrap_succ (by omega), List.nil_append]
    have e0 : (x.set s (insS (pr e) (x.getD s []))).getD s [] = insS (pr e) (x.getD s []) := by simp [hx, hs]
    refine ih (q + 1) _ (by omega) (by simpa using hx) (by rw [e0]; have := insS_len (pr e) (x.getD s []); omega) ?_
    rw [e0, List.set_set]
    exact hr
theorem fold_pr (l : List S80) : ∀ a : List S80, (l.foldl (fun l e => insE e l) a).map pr = l.foldl (fun l e => insS (pr e) l) (a.map pr) := by
  induction l with
  | nil => intro a; rfl
  | cons e l ih => intro a; simp only [List.foldl_cons]; rw [ih, insS_pr]
theorem steps_l0 (st : List (List Int)) (es : List S80) (b : Bool) (hn : st.length ≤ 1000000) (he : es.length ≤ 1000000) :
    ∀ (m s : Nat), s + m = st.length → Evn (fun k => witness_steps.l0 k ((List.range s).map (fun (i : Nat) => (row st.length es (i : Int)).map pr) ++ List.replicate m []) (st.length : Int) (s : Int) st es b) ((tab st.length es).map (List.map pr)) := by
  intro m
  induction m with
  | zero =>
    intro s hs
    refine Evn.succ ?_
    simp only [witness_steps.l0]
    (first | refine Evn.pos (by first | assumption | omega | (simp; done) | (simp; omega)) ?_ | refine Evn.neg (by first | assumption | omega | (simp; done) | (simp; omega)) ?_)
    obtain rfl : s = st.length := by omega
    simpa [tab, Function.comp_def] using Evn.const _
  | succ m ih =>
    intro s hs
    refine Evn.succ ?_
    simp only [witness_steps.l0]
    (first | refine Evn.pos (by first | assumption | omega | (simp; done) | (simp; omega)) ?_ | refine Evn.neg (by first | assumption | omega | (simp; done) | (simp; omega)) ?_)
    refine Evn.bind (next_ev st es b (s : Int) he) ?_
    have hg : ((List.range s).map (fun (i : Nat) => (row st.length es (i : Int)).map pr) ++ List.replicate (m + 1) []).getD s [] = ([] : List S66) := by simp [List.getElem?_append_right]
    have hlen : (es.filter (cnt st.length (s : Int))).length ≤ 1000000 := Nat.le_trans (List.length_filter_le _ _) he
    refine steps_l1 st es b _ _ st.length s (by omega) hlen _ 0 _ (by rw [Nat.zero_add]) (by simp; omega) (by rw [hg]; simp) ?_
    rw [wrap_succ (by omega), hg, List.drop_zero]
    have e1 : (es.filter (cnt st.length (s : Int))).foldl (fun l e => insS (pr e) l) [] = (row st.length es (s : Int)).map pr := by
      unfold row; rw [fold_pr]; rfl
    rw [e1]
    have e2 : ((List.range s).map (fun (i : Nat) => (row st.length es (i : Int)).map pr) ++ List.replicate (m + 1) []).set s ((row st.length es (s : Int)).map pr) = (List.range (s + 1)).map (fun (i : Nat) => (row st.length es (i : Int)).map pr) ++ List.replicate m [] := by
      rw [List.set_append_right _ _ (by simp)]
      simp [List.replicate_succ, List.range_succ]
    rw [e2]
    exact ih (s + 1) (by omega)
theorem steps_ev (st : List (List Int)) (es : List S80) (b : Bool) (hn : st.length ≤ 1000000) (he : es.length ≤ 1000000) : Evn (fun k => witness_steps.f k st es b) ((tab st.length es).map (List.map pr)) := by
  unfold witness_steps.f
  (first | refine Evn.pos (by first | assumption | omega | (simp; done) | (simp; omega)) ?_ | refine Evn.neg (by first | assumption | omega | (simp; done) | (simp; omega)) ?_); (first | refine Evn.pos (by first | assumption | omega | (simp; done) | (simp; omega)) ?_ | refine Evn.neg (by first | assumption | omega | (simp; done) | (simp; omega)) ?_)
  have := steps_l0 st es b hn he st.length 0 (by omega)
  simpa using this
theorem insE_len (e : S80) (l : List S80) : (insE e l).length ≤ l.length + 1 := by
  induction l with
  | nil => simp [insE]
  | cons p l ih => simp only [insE]; repeat' split
                   all_goals simp <;> omega
theorem mem_insE {e q : S80} {l : List S80} (h : q ∈ insE e l) : q = e ∨ q ∈ l := by
  induction l with
  | nil => simp only [insE, List.mem_singleton] at h; exact .inl h
  | cons p l ih =>
    simp only [insE] at h
    split at h
    · rcases List.mem_cons.1 h with h | h
      · exact .inr (by simp [h])
      · rcases ih h with h | h
        · exact .inl h
        · exact .inr (List.mem_cons_of_mem _ h)
    · split at h
      · exact .inr h
      · rcases List.mem_cons.1 h with h | h
        · exact .inl h
        · exact .inr h
theorem insE_sorted {e : S80} {l : List S80} (h : l.Pairwise (fun a b => a.f1 < b.f1)) : (insE e l).Pairwise (fun a b => a.f1 < b.f1) := by
  induction l with
  | nil => simp [insE]
  | cons p l ih =>
    rw [List.pairwise_cons] at h
    simp only [insE]
    split
    · rename_i c
      rw [List.pairwise_cons]
      refine ⟨fun q hq => ?_, ih h.2⟩
      rcases mem_insE hq with rfl | hq
      · exact c
      · exact h.1 q hq
    · split
      · rw [List.pairwise_cons]; exact h
      · rename_i c c2
        rw [List.pairwise_cons, List.pairwise_cons]
        refine ⟨fun q hq => ?_, h⟩
        rcases List.mem_cons.1 hq with rfl | hq
        · omega
        · have := h.1 q hq; omega
theorem insE_old {e : S80} {l : List S80} (h : l.Pairwise (fun a b => a.f1 < b.f1)) (hm : ∃ p ∈ l, p.f1 = e.f1) : insE e l = l := by
  induction l with
  | nil => obtain ⟨p, hp, _⟩ := hm; cases hp
  | cons p l ih =>
    rw [List.pairwise_cons] at h
    simp only [insE]
    split
    · rename_i c
      rw [ih h.2]
      obtain ⟨q, hq, e1⟩ := hm
      rcases List.mem_cons.1 hq with rfl | hq
      · omega
      · exact ⟨q, hq, e1⟩
    · rename_i c
      obtain ⟨q, hq, e1⟩ := hm
      rcases List.mem_cons.1 hq with rfl | hq
      · rw [if_pos e1]
      · have := h.1 q hq; omega
theorem moves_l1 (st : List (List Int)) (es : List S80) (b : Bool) (x1 x6 : Int) (x5 : List S80) (e : S80) (r : List S80) (h5 : x5.length ≤ 1000000) :
    ∀ (m j : Nat) (f : Bool), j + m = x5.length →
    ((f && (x5.drop j).all (fun p => p.f1 != e.f1)) = true → Evn (fun k => r16_Moves.l2 k x1 x5 x6 [] false 0 st es b e.f0 e.f1 e.f2) r) →
    ((f && (x5.drop j).all (fun p => p.f1 != e.f1)) = false → Evn (fun k => r16_Moves.l0 k x1 x5 (wrap64 (x6 + 1)) st es b) r) →
    Evn (fun k => r16_Moves.l1 k x1 x5 x6 f (j : Int) st es b e.f0 e.f1 e.f2) r := by
  intro m
  induction m with
  | zero =>
    intro j f hj h1 h2
    rw [List.drop_of_length_le (by omega)] at h1 h2
    refine Evn.succ ?_
    simp only [r16_Moves.l1]
    (first | refine Evn.pos (by first | assumption | omega | (simp; done) | (simp; omega)) ?_ | refine Evn.neg (by first | assumption | omega | (simp; done) | (simp; omega)) ?_)
    cases f with
    | true => refine Evn.pos rfl ?_; exact h1 (by simp)
    | false => refine Evn.neg (by simp) ?_; exact h2 (by simp)
  | succ m ih =>
    intro j f hj h1 h2
    rw [drop80 (show j < x5.length by omega)] at h1 h2
    refine Evn.succ ?_
    simp only [r16_Moves.l1, wrap_succ (show j < 9223372036854775807 by omega)]
    (first | refine Evn.pos (by first | assumption | omega | (simp; done) | (simp; omega)) ?_ | refine Evn.neg (by first | assumption | omega | (simp; done) | (simp; omega)) ?_)
    cases f with
    | true =>
      refine Evn.pos rfl ?_
      (first | refine Evn.pos (by first | assumption | omega | (simp; done) | (simp; omega)) ?_ | refine Evn.neg (by first | assumption | omega | (simp; done) | (simp; omega)) ?_)
      exact ih (j + 1) _ (by omega) (by simpa using h1) (by simpa using h2)
    | false =>
      refine Evn.neg (by simp) ?_
      exact ih (j + 1) _ (by omega) (by simp) (by simpa using h2)
theorem moves_l2t (st : List (List Int)) (es : List S80) (b : Bool) (x1 x6 : Int) (x5 : List S80) (e : S80) (r : List S80) (h5 : x5.length ≤ 1000000) :
    ∀ (m j : Nat) (x10 : List S80), j + m = x5.length → x10.length ≤ j + 1 →
    Evn (fun k => r16_Moves.l0 k x1 (x10 ++ x5.drop j) (wrap64 (x6 + 1)) st es b) r →
    Evn (fun k => r16_Moves.l2 k x1 x5 x6 x10 true (j : Int) st es b e.f0 e.f1 e.f2) r := by
  intro m
  induction m with
  | zero =>
    intro j x10 hj hl hr
    rw [List.drop_of_length_le (by omega), List.append_nil] at hr
    refine Evn.succ ?_
    simp only [r16_Moves.l2]
    (first | refine Evn.pos (by first | assumption | omega | (simp; done) | (simp; omega)) ?_ | refine Evn.neg (by first | assumption | omega | (simp; done) | (simp; omega)) ?_)
    refine Evn.pos (by simp) hr
  | succ m ih =>
    intro j x10 hj hl hr
    rw [drop80 (show j < x5.length by omega)] at hr
    refine Evn.succ ?_
    simp only [r16_Moves.l2, wrap_succ (show j < 9223372036854775807 by omega)]
    (first | refine Evn.pos (by first | assumption | omega | (simp; done) | (simp; omega)) ?_ | refine Evn.neg (by first | assumption | omega | (simp; done) | (simp; omega)) ?_)
    refine Evn.pos (by simp) ?_
    iterate 2 (first | refine Evn.pos (by first | assumption | omega | (simp; done) | (simp; omega)) ?_ | refine Evn.neg (by first | assumption | omega | (simp; done) | (simp; omega)) ?_)
    refine ih (j + 1) _ (by omega) (by simp; omega) ?_
    rw [List.append_assoc]
    exact hr
theorem moves_l2f (st : List (List Int)) (es : List S80) (b : Bool) (x1 x6 : Int) (x5 : List S80) (e : S80) (r : List S80) (h5 : x5.length ≤ 1000000) :
    ∀ (m j : Nat) (x10 : List S80), j + m = x5.length → x10.length ≤ j → (∀ p ∈ x5.drop j, p.f1 ≠ e.f1) →
    Evn (fun k => r16_Moves.l0 k x1 (x10 ++ insE e (x5.drop j)) (wrap64 (x6 + 1)) st es b) r →
    Evn (fun k => r16_Moves.l2 k x1 x5 x6 x10 false (j : Int) st es b e.f0 e.f1 e.f2) r := by
  intro m
  induction m with
  | zero =>
    intro j x10 hj hl hp hr
    rw [List.drop_of_length_le (by omega)] at hr
    refine Evn.succ ?_
    simp only [r16_Moves.l2]
    (first | refine Evn.pos (by first | assumption | omega | (simp; done) | (simp; omega)) ?_ | refine Evn.neg (by first | assumption | omega | (simp; done) | (simp; omega)) ?_)
    refine Evn.neg (by simp) ?_
    (first | refine Evn.pos (by first | assumption | omega | (simp; done) | (simp; omega)) ?_ | refine Evn.neg (by first | assumption | omega | (simp; done) | (simp; omega)) ?_)
    exact hr
  | succ m ih =>
    intro j x10 hj hl hp hr
    rw [drop80 (show j < x5.length by omega)] at hr hp
    refine Evn.succ ?_
    simp only [r16_Moves.l2, Option.bind_some, wrap_succ (show j < 9223372036854775807 by omega)]
    (first | refine Evn.pos (by first | assumption | omega | (simp; done) | (simp; omega)) ?_ | refine Evn.neg (by first | assumption | omega | (simp; done) | (simp; omega)) ?_)
    refine Evn.neg (by simp) ?_
    (first | refine Evn.pos (by first | assumption | omega | (simp; done) | (simp; omega)) ?_ | refine Evn.neg (by first | assumption | omega | (simp; done) | (simp; omega)) ?_)
    have hp0 := hp _ List.mem_cons_self
    have hp1 := fun q hq => hp q (List.mem_cons_of_mem _ hq)
    revert hr hp0
    generalize hpp : rd_T80 x5 (j : Int) = p
    intro hr hp0
    simp only [insE] at hr
    by_cases c : p.f1 > e.f1
    · refine Evn.pos c ?_
      rw [if_neg (show ¬ p.f1 < e.f1 by omega), if_neg hp0] at hr
      (first | refine Evn.pos (by first | assumption | omega | (simp; done) | (simp; omega)) ?_ | refine Evn.neg (by first | assumption | omega | (simp; done) | (simp; omega)) ?_)
      refine Evn.pos (by simp; omega) ?_
      refine moves_l2t st es b x1 x6 x5 e r h5 m (j + 1) _ (by omega) (by simp; omega) ?_
      simp only [List.append_assoc, List.singleton_append, List.cons_append, List.nil_append]
      exact hr
    · refine Evn.neg c ?_
      rw [if_pos (show p.f1 < e.f1 by omega)] at hr
      (first | refine Evn.pos (by first | assumption | omega | (simp; done) | (simp; omega)) ?_ | refine Evn.neg (by first | assumption | omega | (simp; done) | (simp; omega)) ?_)
      refine ih (j + 1) _ (by omega) (by simp; omega) hp1 ?_
      rw [List.append_assoc]
      exact hr
theorem moves_l0 (st : List (List Int)) (es : List S80) (b : Bool) (s : Int) (he : es.length ≤ 1000000) :
    ∀ (m j : Nat) (x5 : List S80), j + m = es.length → x5.length ≤ j → x5.Pairwise (fun a b => a.f1 < b.f1) →
    Evn (fun k => r16_Moves.l0 k s x5 (j : Int) st es b) (((es.drop j).filter (cnt st.length s)).foldl (fun l e => insE e l) x5) := by
  intro m
  induction m with
  | zero =>
    intro j x5 hj hl hp
    rw [List.drop_of_length_le (by omega)]
    refine Evn.succ ?_
    simp only [r16_Moves.l0]
    (first | refine Evn.pos (by first | assumption | omega | (simp; done) | (simp; omega)) ?_ | refine Evn.neg (by first | assumption | omega | (simp; done) | (simp; omega)) ?_)
    exact Evn.const _
  | succ m ih =>
    intro j x5 hj hl hp
    rw [drop80 (show j < es.length by omega)]
    refine Evn.succ ?_
    simp only [r16_Moves.l0, sound_eq, Option.bind_some]
    iterate 2 (first | refine Evn.pos (by first | assumption | omega | (simp; done) | (simp; omega)) ?_ | refine Evn.neg (by first | assumption | omega | (simp; done) | (simp; omega)) ?_)
    generalize rd_T80 es (j : Int) = e
    have same : ∀ f : Bool, f = false → Evn (fun k => r16_Moves.j1 k s x5 (j : Int) f st es b e.f0 e.f1 e.f2) (((es.drop (j + 1)).filter (cnt st.length s)).foldl (fun l e => insE e l) x5) := by
      intro f hf
      refine Evn.succ ?_
      simp only [r16_Moves.j1]
      refine moves_l1 st es b s (j : Int) x5 e _ (by omega) x5.length 0 f (by omega) (by simp [hf]) (fun _ => ?_)
      rw [wrap_succ (by omega)]
      exact ih (j + 1) x5 (by omega) (by omega) hp
    by_cases c2 : 0 ≤ e.f0 ∧ e.f0 < (st.length : Int) ∧ 0 ≤ e.f2 ∧ e.f2 < (st.length : Int)
    · refine Evn.pos (by simpa using c2) ?_
      by_cases c : e.f0 = s
      · have e1 : cnt st.length s e = true := by simp [cnt, c]; simp [c] at c2; omega
        rw [List.filter_cons_of_pos e1, List.foldl_cons]
        refine Evn.succ ?_
        simp only [r16_Moves.j1]
        have hb : (e.f0 == s) = true := by simp [c]
        rw [hb]
        refine moves_l1 st es b s (j : Int) x5 e _ (by omega) x5.length 0 true (by omega) (fun h => ?_) (fun h => ?_)
        · refine moves_l2f st es b s (j : Int) x5 e _ (by omega) x5.length 0 [] (by omega) (by simp) (by simpa using h) ?_
          rw [wrap_succ (by omega), List.nil_append, List.drop_zero]
          exact ih (j + 1) _ (by omega) (by have := insE_len e x5; omega) (insE_sorted hp)
        · have : ∃ p ∈ x5, p.f1 = e.f1 := by simpa using h
          rw [insE_old hp this, wrap_succ (by omega)]
          exact ih (j + 1) x5 (by omega) (by omega) hp
      · rw [List.filter_cons_of_neg (by simp [cnt, c])]
        exact same _ (by simp [c])
    · refine Evn.neg (by simpa using c2) ?_
      rw [List.filter_cons_of_neg (by simp [cnt]; intro h1 h2 h3 h4; exact absurd ⟨h1, h2, h3, h4⟩ c2)]
      exact same _ rfl
theorem moves_ev (st : List (List Int)) (es : List S80) (b : Bool) (s : Int) (he : es.length ≤ 1000000) : Evn (fun k => r16_Moves.f k st es b s) (row st.length es s) := by
  have := moves_l0 st es b s he es.length 0 [] (by omega) (by simp) (by simp)
  simpa [r16_Moves.f, row] using this
theorem table_ev (st : List (List Int)) (es : List S80) (b : Bool) (hn : st.length ≤ 1000000) (he : es.length ≤ 1000000) : Evn (fun k => r16_Table.f k st es b) (tab st.length es) := by
  have key : ∀ (m s : Nat), s + m = st.length → Evn (fun k => r16_Table.l0 k ((List.range s).map (fun (i : Nat) => row st.length es (i : Int))) (s : Int) st es b) (tab st.length es) := by
    intro m
    induction m with
    | zero =>
      intro s hs
      refine Evn.succ ?_
      simp only [r16_Table.l0]
      (first | refine Evn.pos (by first | assumption | omega | (simp; done) | (simp; omega)) ?_ | refine Evn.neg (by first | assumption | omega | (simp; done) | (simp; omega)) ?_)
      obtain rfl : s = st.length := by omega
      exact Evn.const _
    | succ m ih =>
      intro s hs
      refine Evn.succ ?_
      simp only [r16_Table.l0]
      (first | refine Evn.pos (by first | assumption | omega | (simp; done) | (simp; omega)) ?_ | refine Evn.neg (by first | assumption | omega | (simp; done) | (simp; omega)) ?_)
      refine Evn.bind (moves_ev st es b (s : Int) he) ?_
      refine Evn.pos (by simp; omega) ?_
      rw [wrap_succ (by omega)]
      have := ih (s + 1) (by omega)
      rw [List.range_succ, List.map_append] at this
      exact this
  exact key st.length 0 (by omega)
end Go.Proofs.Ytfnjbgggmddgpaa.Q
end
