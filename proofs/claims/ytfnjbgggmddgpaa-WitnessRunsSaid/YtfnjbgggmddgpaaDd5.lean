/- Part 5 of a proof: Dd. Words and walks that a program printed for this claim stand here without what the claim does not use. -/
import Derived.Outline
import Derived.Test.YtfnjbgggmddgpaaDd2
import Derived.Test.YtfnjbgggmddgpaaDd3
import Derived.Test.YtfnjbgggmddgpaaDd4
section
set_option linter.unusedVariables false
set_option linter.unusedSimpArgs false
namespace Go.Proofs.Ytfnjbgggmddgpaa.Q
open Go.RowKit Go.Proofs.Fn Go.Proofs.YtfnjbgggmddgpaaW.PrintWords Go.Proofs.YtfnjbgggmddgpaaW.PrintLast Go.Proofs.YtfnjbgggmddgpaaW.PrintMore
theorem fn39 (w : World) (b : Nat) (a : Int) (hc : w.cell? ⟨b, 0, none⟩ = some (.int .i64 a)) : FnB Try.prog 39 #[.pointer (some ⟨b, 0, none⟩)] w (fun s => some (s == a)) := by
  refine ⟨⟨Try.f39, Try.func39, by kernel_rfl, rfl⟩, fun x r W hb he => ?_⟩
  have hc2 : W.cell? ⟨b, 0, none⟩ = some (.int .i64 a) := (hb.cell (World.block_lt_of_cell? w _ hc)).trans hc
  obtain rfl := Option.some.inj he
  clear hc hb he
  show Calls Try.prog 39 #[.int .i64 x, .pointer (some ⟨b, 0, none⟩)] W _
  go_enter Try.func39, Try.ntmps39
  go_wp2
  go_ret
  exact ⟨rfl, Below.refl _ _⟩
def dead1 (l : List (List S66)) (s : Int) : Option Bool := if 0 ≤ s then (if s < (l.length : Int) then some (((rd_L66 l s).length : Int) == 0) else none) else none
theorem fn36 (w : World) (b : Nat) (A : Option Addr) (c : Nat) (l : List (List S66)) (hc : w.cell? ⟨b, 0, none⟩ = some (.slice A l.length c)) (hl : Kd.C (Kd.slice 66 k66) w A l.length l) : FnB Try.prog 36 #[.pointer (some ⟨b, 0, none⟩)] w (dead1 l) := by
  refine ⟨⟨Try.f36, Try.func36, by kernel_rfl, rfl⟩, fun x r W hb he => ?_⟩
  have hc2 : W.cell? ⟨b, 0, none⟩ = some (.slice A l.length c) := (hb.cell (World.block_lt_of_cell? w _ hc)).trans hc
  have hl2 := Kd.C_below hl hb
  unfold dead1 at he
  by_cases h0 : 0 ≤ x
  · rw [if_pos h0] at he
    by_cases h1 : x < (l.length : Int)
    · rw [if_pos h1] at he
      obtain rfl := Option.some.inj he
      obtain ⟨ad, A0, c0, rfl, hx, _, _⟩ := at_L66 hl2 x h0 h1
      clear hc hl hb hl2 he
      show Calls Try.prog 36 #[.int .i64 x, .pointer (some ⟨b, 0, none⟩)] W _
      go_enter Try.func36, Try.ntmps36
      go_wp2
      go_ret
      exact ⟨rfl, Below.refl _ _⟩
    · rw [if_neg h1] at he
      cases he
  · rw [if_neg h0] at he
    cases he
def fires1 (l : List (List S66)) (t : Int) (s : Int) : Option Bool := if 0 ≤ s then (if s < (l.length : Int) then some ((rd_L66 l s).any (fun x => x.f0 == t)) else none) else none
theorem has_l0 (l : List S66) (t : Int) (hl : l.length ≤ 9223372036854775806) : ∀ (m j : Nat), j + m = l.length → witness_has.l0 (m + 1) t l (l.length : Int) (j : Int) = some ((l.drop j).any (fun x => x.f0 == t)) := by
  intro m
  induction m with
  | zero =>
    intro j hj
    rw [List.drop_of_length_le (by omega)]
    simp only [witness_has.l0]
    rw [if_neg (by omega)]; rfl
  | succ m ih =>
    intro j hj
    have hw : wrap64 ((j : Int) + 1) = ((j + 1 : Nat) : Int) := by unfold wrap64; omega
    have hj2 : j < l.length := by omega
    have hd : rd_T66 l (j : Int) = l[j] := by simp [rd_T66, hj2]
    rw [witness_has.l0, if_pos (by omega), if_pos (by omega), if_pos (by omega), hw, hd, List.drop_eq_getElem_cons hj2, List.any_cons]
    by_cases c : l[j].f0 = t
    · rw [if_pos c]; simp [c]
    · rw [if_neg c, ih (j + 1) (by omega)]
      have : (l[j].f0 == t) = false := by simp [c]
      rw [this, Bool.false_or]
set_option maxHeartbeats 1000000 in
theorem fn50 (w : World) (b b2 : Nat) (A : Option Addr) (c : Nat) (l : List (List S66)) (t : Int) (hc : w.cell? ⟨b, 0, none⟩ = some (.slice A l.length c)) (ht : w.cell? ⟨b2, 0, none⟩ = some (.int .i64 t)) (hl : Kd.C (Kd.slice 66 k66) w A l.length l) (hln : ∀ r ∈ l, r.length ≤ 9223372036854775806) :
    FnB Try.prog 50 #[.pointer (some ⟨b, 0, none⟩), .pointer (some ⟨b2, 0, none⟩)] w (fires1 l t) := by
  refine ⟨⟨Try.f50, Try.func50, by kernel_rfl, rfl⟩, fun x r W hb he => ?_⟩
  have hc2 : W.cell? ⟨b, 0, none⟩ = some (.slice A l.length c) := (hb.cell (World.block_lt_of_cell? w _ hc)).trans hc
  have ht2 : W.cell? ⟨b2, 0, none⟩ = some (.int .i64 t) := (hb.cell (World.block_lt_of_cell? w _ ht)).trans ht
  have hl2 := Kd.C_below hl hb
  unfold fires1 at he
  by_cases h0 : 0 ≤ x
  · rw [if_pos h0] at he
    by_cases h1 : x < (l.length : Int)
    · rw [if_pos h1] at he
      obtain ⟨ad, A0, c0, rfl, hx, hcap, hrow⟩ := at_L66 hl2 x h0 h1
      have hrl : (rd_L66 l x).length ≤ 9223372036854775806 := by
        have hx1 : x.toNat < l.length := by omega
        have : rd_L66 l x = l[x.toNat] := by simp [rd_L66, hx1]
        rw [this]; exact hln _ (List.getElem_mem _)
      have he2 : witness_has.f ((rd_L66 l x).length + 1) (rd_L66 l x) t = some r := by
        have := has_l0 (rd_L66 l x) t hrl _ 0 (by rw [Nat.zero_add])
        rw [← he]; exact this
      have HC := Aside0.mk (fun (W' : World) (hW : Below W.heap.size W W') => witness_has.calls _ A0 c0 (rd_L66 l x) t r W' (Kd.C_below hrow hW) hcap he2)
      clear hc hl hb hl2 he he2 hrl ht hrow hcap
      show Calls Try.prog 50 #[.int .i64 x, .pointer (some ⟨b, 0, none⟩), .pointer (some ⟨b2, 0, none⟩)] W _
      go_enter Try.func50, Try.ntmps50
      go_wp2_with fail
      go_region_with (go_at_call 51; refine (HC.out _ ?_).mono ?_; (case refine_1 => repeat (first | exact Below.refl _ _ | apply below_drew1)); rintro e w' ⟨rfl, hb⟩)
      all_goals
        go_wp2
        go_ret
        exact ⟨rfl, below_step (below_drew1 (Below.refl _ _)) hb⟩
    · rw [if_neg h1] at he
      cases he
  · rw [if_neg h0] at he
    cases he
def witness_Between.f (k : Nat) (l0_0 : List (List Int)) (l0_1 : List S80) (a0_2 : Bool) (a1 a2 : Int) : Option (List Int × Bool) :=
  (witness_steps.f k l0_0 l0_1 a0_2).bind fun l => witness_search.f k l a1 (fun s => some (s == a2))
set_option maxHeartbeats 1000000 in
theorem witness_Between.calls (k : Nat) (A0_0 : Option Addr) (c0_0 : Nat) (l0_0 : List (List Int)) (A0_1 : Option Addr) (c0_1 : Nat) (l0_1 : List S80) (a0_2 : Bool) (a1 a2 : Int) (r1 : List Int) (r2 : Bool) (w : World)
    (hr0_0 : Kd.C (Kd.slice 3 (Kd.int .i64)) w A0_0 l0_0.length l0_0) (hc0_0 : l0_0.length ≤ c0_0) (hr0_1 : Kd.C k80 w A0_1 l0_1.length l0_1) (hc0_1 : l0_1.length ≤ c0_1) (h : witness_Between.f k l0_0 l0_1 a0_2 a1 a2 = some (r1, r2)) :
    Calls Try.prog 16 #[.agg #[.slice A0_0 l0_0.length c0_0, .slice A0_1 l0_1.length c0_1, .bool a0_2], .int .i64 a1, .int .i64 a2] w fun e w' => ∃ v0_ : Value, e = .returned (.tuple #[v0_, .bool r2]) ∧ Kd.R (Kd.int .i64) 3 w' w.heap.size (fun _ => True) v0_ r1 ∧ Below w.heap.size w w' := by
  obtain ⟨l, h1, h2⟩ := Option.bind_eq_some_iff.1 h
  have hu25 := Try.underlying25
  have H1 := Aside0.mk h1
  have H2 := Aside0.mk h2
  have HR0 := Aside0.mk hr0_0
  have HC0 := Aside0.mk hc0_0
  have HR1 := Aside0.mk hr0_1
  have HC1 := Aside0.mk hc0_1
  clear h h1 h2 hr0_0 hc0_0 hr0_1 hc0_1
  go_enter Try.func16, Try.ntmps16
  go_wp2_with fail
  refine (witness_steps.calls k _ _ l0_0 _ _ l0_1 a0_2 l _ (Kd.C_below HR0.out ?b1) HC0.out (Kd.C_below HR1.out ?b2) HC1.out H1.out).mono ?_
  case b1 => repeat (first | exact Below.refl _ _ | apply below_alloc | apply below_drew1)
  case b2 => repeat (first | exact Below.refl _ _ | apply below_alloc | apply below_drew1)
  rintro e w1 ⟨v, rfl, hS, hb⟩
  obtain ⟨A, c, rfl, hcap, hC⟩ := Kd.S_reads hS
  have hcell : w1.cell? ⟨w.heap.size + 1, 0, none⟩ = some (.int .i64 a2) := by
    refine (hb.cell (p := ⟨w.heap.size + 1, 0, none⟩) (by simp)).trans ?_
    go_simp
  have HB : Aside0 (Below w.heap.size w w1) := ⟨below_step (by repeat (first | exact Below.refl _ _ | apply below_alloc | apply below_drew1)) hb⟩
  have HS := Aside0.mk hC
  have HCP := Aside0.mk hcap
  have HCELL := Aside0.mk hcell
  clear hS hb hcap hC hcell
  go_wp2_with fail
  refine (witness_search.calls k A c l a1 (fun s => some (s == a2)) 39 #[.pointer (some ⟨w.heap.size + 1, 0, none⟩)] r1 r2 w1 HS.out HCP.out (fn39 _ _ _ HCELL.out) H2.out).mono ?_
  rintro e w2 ⟨v, rfl, hR, hb⟩
  go_wp2
  go_ret2
  exact ⟨_, rfl, Kd.R_lower hR HB.out.size, below_step HB.out hb⟩
def witness_Dead.f (k : Nat) (l0_0 : List (List Int)) (l0_1 : List S80) (a0_2 : Bool) : Option (List Int × Bool) :=
  (witness_steps.f k l0_0 l0_1 a0_2).bind fun l => witness_search.f k l 0 (dead1 l)
set_option maxHeartbeats 1000000 in
theorem witness_Dead.calls (k : Nat) (A0_0 : Option Addr) (c0_0 : Nat) (l0_0 : List (List Int)) (A0_1 : Option Addr) (c0_1 : Nat) (l0_1 : List S80) (a0_2 : Bool) (r1 : List Int) (r2 : Bool) (w : World)
    (hr0_0 : Kd.C (Kd.slice 3 (Kd.int .i64)) w A0_0 l0_0.length l0_0) (hc0_0 : l0_0.length ≤ c0_0) (hr0_1 : Kd.C k80 w A0_1 l0_1.length l0_1) (hc0_1 : l0_1.length ≤ c0_1) (h : witness_Dead.f k l0_0 l0_1 a0_2 = some (r1, r2)) :
    Calls Try.prog 11 #[.agg #[.slice A0_0 l0_0.length c0_0, .slice A0_1 l0_1.length c0_1, .bool a0_2]] w fun e w' => ∃ v0_ : Value, e = .returned (.tuple #[v0_, .bool r2]) ∧ Kd.R (Kd.int .i64) 3 w' w.heap.size (fun _ => True) v0_ r1 ∧ Below w.heap.size w w' := by
  obtain ⟨l, h1, h2⟩ := Option.bind_eq_some_iff.1 h
  have hu25 := Try.underlying25
  have H1 := Aside0.mk h1
  have H2 := Aside0.mk h2
  have HR0 := Aside0.mk hr0_0
  have HC0 := Aside0.mk hc0_0
  have HR1 := Aside0.mk hr0_1
  have HC1 := Aside0.mk hc0_1
  clear h h1 h2 hr0_0 hc0_0 hr0_1 hc0_1
  go_enter Try.func11, Try.ntmps11
  go_wp2_with fail
  refine (witness_steps.calls k _ _ l0_0 _ _ l0_1 a0_2 l _ (Kd.C_below HR0.out ?b1) HC0.out (Kd.C_below HR1.out ?b2) HC1.out H1.out).mono ?_
  case b1 => repeat (first | exact Below.refl _ _ | apply below_alloc | apply below_drew1)
  case b2 => repeat (first | exact Below.refl _ _ | apply below_alloc | apply below_drew1)
  rintro e w1 ⟨v, rfl, hS, hb⟩
  obtain ⟨A, c, rfl, hcap, hC⟩ := Kd.S_reads hS
  have HB : Aside0 (Below w.heap.size w w1) := ⟨below_step (by repeat (first | exact Below.refl _ _ | apply below_alloc | apply below_drew1)) hb⟩
  have HS := Aside0.mk hC
  have HCP := Aside0.mk hcap
  clear hS hb hcap hC
  go_wp2_with fail
  have hbw : ∀ (o : Obj) (v : Value), Below w1.heap.size w1 ((w1.alloc o).setCell ⟨w1.heap.size, 0, none⟩ v) := fun o v => (((Below.refl _ w1).alloc (Nat.le_refl _) o).setCell (by simp) v)
  refine (witness_search.calls k A c l 0 (dead1 l) 36 #[.pointer (some ⟨w1.heap.size, 0, none⟩)] r1 r2 _ (Kd.C_below HS.out ?b3) HCP.out (fn36 _ _ A c l ?b4 (Kd.C_below HS.out ?b5)) H2.out).mono ?_
  case b3 => first | exact hbw _ _ | (repeat (first | exact Below.refl _ _ | apply below_alloc | apply below_drew1))
  case b5 => first | exact hbw _ _ | (repeat (first | exact Below.refl _ _ | apply below_alloc | apply below_drew1))
  case b4 => go_simp
  rintro e w2 ⟨v, rfl, hR, hb⟩
  have hb2 : Below w1.heap.size w1 w2 := below_step (by first | exact hbw _ _ | (repeat (first | exact Below.refl _ _ | apply below_alloc | apply below_drew1))) hb
  clear hbw
  have HB2 := Aside0.mk hb2
  have HRR := Aside0.mk (Kd.R_lower hR (base' := w1.heap.size) (by simp))
  clear hb hb2 hR
  go_wp2
  go_ret2
  exact ⟨_, rfl, Kd.R_lower HRR.out HB.out.size, below_step HB.out HB2.out⟩
def witness_Fires.f (k : Nat) (l0_0 : List (List Int)) (l0_1 : List S80) (a0_2 : Bool) (a1 : Int) : Option (List Int × Bool) :=
  (witness_steps.f k l0_0 l0_1 a0_2).bind fun l => (if l.all (fun r => decide (r.length ≤ 9223372036854775806)) = true then (witness_search.f k l 0 (fires1 l a1)) else none).bind fun r => if r.2 = true then (if r.1.length < 17592186044416 then some (r.1 ++ [a1], true) else none) else some ([], false)
set_option maxHeartbeats 2000000 in
theorem witness_Fires.calls (k : Nat) (A0_0 : Option Addr) (c0_0 : Nat) (l0_0 : List (List Int)) (A0_1 : Option Addr) (c0_1 : Nat) (l0_1 : List S80) (a0_2 : Bool) (a1 : Int) (r1 : List Int) (r2 : Bool) (w : World)
    (hr0_0 : Kd.C (Kd.slice 3 (Kd.int .i64)) w A0_0 l0_0.length l0_0) (hc0_0 : l0_0.length ≤ c0_0) (hr0_1 : Kd.C k80 w A0_1 l0_1.length l0_1) (hc0_1 : l0_1.length ≤ c0_1) (h : witness_Fires.f k l0_0 l0_1 a0_2 a1 = some (r1, r2)) :
    Calls Try.prog 25 #[.agg #[.slice A0_0 l0_0.length c0_0, .slice A0_1 l0_1.length c0_1, .bool a0_2], .int .i64 a1] w fun e w' => ∃ v0_ : Value, e = .returned (.tuple #[v0_, .bool r2]) ∧ Kd.R (Kd.int .i64) 3 w' w.heap.size (fun _ => True) v0_ r1 ∧ Below w.heap.size w w' := by
  obtain ⟨l, h1, h2⟩ := Option.bind_eq_some_iff.1 h
  obtain ⟨⟨q1, q2⟩, h2, h3⟩ := Option.bind_eq_some_iff.1 h2
  have hall : l.all (fun r => decide (r.length ≤ 9223372036854775806)) = true := by
    cases ha : l.all (fun r => decide (r.length ≤ 9223372036854775806)) with
    | true => rfl
    | false => rw [ha] at h2; cases h2
  rw [if_pos hall] at h2
  have hln : ∀ r ∈ l, r.length ≤ 9223372036854775806 := by simpa using hall
  have hu25 := Try.underlying25
  have HLN := Aside0.mk hln
  have H1 := Aside0.mk h1
  have H2 := Aside0.mk h2
  have H3 := Aside0.mk h3
  have HR0 := Aside0.mk hr0_0
  have HC0 := Aside0.mk hc0_0
  have HR1 := Aside0.mk hr0_1
  have HC1 := Aside0.mk hc0_1
  clear h h1 h2 h3 hall hln hr0_0 hc0_0 hr0_1 hc0_1
  go_enter Try.func25, Try.ntmps25
  go_wp2_with fail
  refine (witness_steps.calls k _ _ l0_0 _ _ l0_1 a0_2 l _ (Kd.C_below HR0.out ?b1) HC0.out (Kd.C_below HR1.out ?b2) HC1.out H1.out).mono ?_
  case b1 => repeat (first | exact Below.refl _ _ | apply below_alloc | apply below_drew1)
  case b2 => repeat (first | exact Below.refl _ _ | apply below_alloc | apply below_drew1)
  rintro e w1 ⟨v, rfl, hS, hb⟩
  obtain ⟨A, c, rfl, hcap, hC⟩ := Kd.S_reads hS
  have HB : Aside0 (Below w.heap.size w w1) := ⟨below_step (by repeat (first | exact Below.refl _ _ | apply below_alloc | apply below_drew1)) hb⟩
  have ht0 : w1.cell? ⟨w.heap.size + 1, 0, none⟩ = some (.int .i64 a1) := by
    have hc0 : ((w.alloc (Obj.cells #[Value.slice A0_0 l0_0.length c0_0, Value.slice A0_1 l0_1.length c0_1, Value.bool a0_2] 25)).alloc (Obj.cells #[Value.int IntKind.i64 a1] 3)).cell? ⟨w.heap.size + 1, 0, none⟩ = some (.int .i64 a1) := by go_simp
    exact (hb.cell (World.block_lt_of_cell? _ _ hc0)).trans hc0
  have HT := Aside0.mk ht0
  have HS := Aside0.mk hC
  have HCP := Aside0.mk hcap
  clear hS hb hcap hC ht0
  go_wp2_with fail
  have hbw : ∀ (o : Obj), Below w1.heap.size w1 (w1.alloc o) := fun o => (Below.refl _ w1).alloc (Nat.le_refl _) o
  refine (witness_search.calls k A c l 0 (fires1 l a1) 50 #[.pointer (some ⟨w1.heap.size, 0, none⟩), .pointer (some ⟨w.heap.size + 1, 0, none⟩)] q1 q2 _ (Kd.C_below HS.out ?b3) HCP.out (fn50 _ _ _ A c l a1 ?b4 ?b6 (Kd.C_below HS.out ?b5) HLN.out) H2.out).mono ?_
  case b3 => exact hbw _
  case b5 => exact hbw _
  case b4 => go_simp
  case b6 => exact ((hbw _).cell (World.block_lt_of_cell? _ _ HT.out)).trans HT.out
  rintro e w2 ⟨v, rfl, hR, hb⟩
  have hb2 : Below w1.heap.size w1 w2 := below_step (hbw _) hb
  have ht2 : w2.cell? ⟨w.heap.size + 1, 0, none⟩ = some (.int .i64 a1) := (hb2.cell (World.block_lt_of_cell? _ _ HT.out)).trans HT.out
  have HB2 := Aside0.mk (below_step HB.out hb2)
  have HRR := Aside0.mk (Kd.R_lower hR (base' := w.heap.size) (by have := HB.out.size; simp; omega))
  clear hb hb2 hR hbw HT
  have H := H3.out
  clear H3
  cases q2 with
  | false =>
    simp only [Bool.false_eq_true, if_false, Option.some.injEq, Prod.mk.injEq] at H
    obtain ⟨rfl, rfl⟩ := H
    go_wp2
    go_ret2
    exact ⟨_, rfl, Kd.R_nil .., HB2.out⟩
  | true =>
    simp only [if_true] at H
    by_cases c18 : q1.length < 17592186044416
    · rw [if_pos c18] at H
      simp only [Option.some.injEq, Prod.mk.injEq] at H
      obtain ⟨rfl, rfl⟩ := H
      go_wp2_with ((with_reducible refine gate_builtin (b := .append) (xs := #[.tmp 19, .tmp 21]) rfl ?_); at_builtin; refine Kd.R_append (Kd.int .i64) (w0 := w) w.heap.size rfl (.tmp 19) (.tmp 21) 28 3 (.int .i64 0) 8 rfl Try.underlying28 info3 rfl (by decide) (by omega) v q1 a1 [.int .i64 a1] (fun _ => True) (fun _ => False) rfl rfl ?aP (fun _ hk => hk.elim) ?aF ?aO ?aB ?aS ?aL ?_; (case aP => exact rfl); (case aB => exact (by repeat (first | exact HB2.out | apply below_alloc | apply pw_below_drewN | apply below_drew1))); (case aF => exact (fun _ _ => trivial)); (case aO => exact (by (with_reducible repeat (first | apply Kd.R_alloc | apply Kd.R_drewN | apply Kd.R_drew)); exact HRR.out)); (case aS => exact (below_size (by repeat (first | exact HB2.out | apply below_alloc | apply pw_below_drewN | apply below_drew1)))); (case aL => omega); intro v110 w22 ho hb hg hat; have HO := Aside0.mk ho; have HB3 := Aside0.mk hb; clear ho hb hg hat)
      go_ret2
      exact ⟨_, rfl, HO.out, HB3.out⟩
    · rw [if_neg c18] at H
      cases H
end Go.Proofs.Ytfnjbgggmddgpaa.Q
end
section
namespace Go.Proofs.Ytfnjbgggmddgpaa.Q
open Go.RowKit Go.Proofs.Fn Go.Proofs.YtfnjbgggmddgpaaW.PrintWords Go.Proofs.YtfnjbgggmddgpaaW.PrintLast Go.Proofs.YtfnjbgggmddgpaaW.PrintMore
attribute [local go_sem] max2_int min2_int max_two min_two max_three min_three max_four min_four
set_option linter.unusedVariables false
set_option linter.unusedSimpArgs false
mutual
def r16_follow.j0 : Nat → List (List (S80)) → Int → List Bool → Bool → Option (List Int × Bool)
 | 0, _, _, _, _ => none
 | k + 1, x0, x1, x2, x19 => if x19 = true then (some (([] : List Int), false)) else ((r16_distances.f k x0 x2).bind fun t101 => (if 0 ≤ x1 then (if x1 < (t101.length : Int) then (if (rd t101 x1) < 0 then (some (([] : List Int), false)) else (r16_follow.l0 k x0 t101 ([] : List Int) x1)) else (none)) else (none)))
def r16_follow.l0 : Nat → List (List (S80)) → List Int → List Int → Int → Option (List Int × Bool)
 | 0, _, _, _, _ => none
 | k + 1, x0, x8, x9, x10 => if 0 ≤ x10 then (if x10 < (x8.length : Int) then (if (rd x8 x10) > 0 then (r16_follow.l1 k x0 x8 x9 x10 0) else (some (x9, true))) else (none)) else (none)
def r16_follow.l1 : Nat → List (List (S80)) → List Int → List Int → Int → Int → Option (List Int × Bool)
 | 0, _, _, _, _, _ => none
 | k + 1, x0, x8, x9, x10, x11 => if 0 ≤ x10 then (if x10 < (x0.length : Int) then (if 0 ≤ x11 then (if x11 < ((rd_L80 x0 x10).length : Int) then (if 0 ≤ ((rd_T80 (rd_L80 x0 x10) x11).f2) then (if ((rd_T80 (rd_L80 x0 x10) x11).f2) < (x8.length : Int) then (if x10 < (x8.length : Int) then (if (rd x8 ((rd_T80 (rd_L80 x0 x10) x11).f2)) = (wrap64 ((rd x8 x10) - 1)) then (if x9.length < 17592186044416 then (r16_follow.l0 k x0 x8 (x9 ++ [(rd_T80 (rd_L80 x0 x10) x11).f1]) ((rd_T80 (rd_L80 x0 x10) x11).f2)) else (none)) else (r16_follow.l1 k x0 x8 x9 x10 (wrap64 (x11 + 1)))) else (none)) else (none)) else (none)) else (none)) else (none)) else (none)) else (none)
end
def r16_follow.f (k : Nat) (l0 : List (List (S80))) (a1 : Int) (l2 : List Bool) : Option (List Int × Bool) := if a1 < 0 then (r16_follow.j0 k l0 a1 l2 true) else (r16_follow.j0 k l0 a1 l2 (decide (a1 ≥ (l0.length : Int))))
def r16_Dead.l0 : Nat → List (List (S80)) → List Bool → Int → Option (List Int × Bool)
 | 0, _, _, _ => none
 | k + 1, x4, x5, x6 => if x6 < (x4.length : Int) then (if 0 ≤ x6 then (if x5.length < 140737488355328 then (r16_Dead.l0 k x4 (x5 ++ [(((rd_L80 x4 x6).length : Int) == 0)]) (wrap64 (x6 + 1))) else (none)) else (none)) else ((r16_follow.f k x4 0 x5).bind fun bt109 => (some (bt109.1, bt109.2)))
def r16_Dead.f (k : Nat) (l0_0 : List (List Int)) (l0_1 : List (S80)) (a0_2 : Bool) : Option (List Int × Bool) := (r16_Table.f k l0_0 l0_1 a0_2).bind fun t102 => (r16_Dead.l0 k t102 ([] : List Bool) 0)
mutual
def witness_Diameter.l0 : Nat → List (List (S66)) → List Int → List Int → Int → Option (Int)
 | 0, _, _, _, _ => none
 | k + 1, x3, x4, x5, x6 => if (x5.length : Int) > 0 then (if 0 < (x5.length : Int) then (if 1 ≤ (x5.length : Int) then (if 0 ≤ (rd x5 0) then (if (rd x5 0) < (x4.length : Int) then (if (rd x5 0) < (x3.length : Int) then (witness_Diameter.l1 k x3 x4 (x5.drop (1 : Int).toNat) (mx x6 (rd x4 (rd x5 0))) (rd x5 0) (rd_L66 x3 (rd x5 0)) ((rd_L66 x3 (rd x5 0)).length : Int) 0) else (none)) else (none)) else (none)) else (none)) else (none)) else (some x6)
def witness_Diameter.l1 : Nat → List (List (S66)) → List Int → List Int → Int → Int → List (S66) → Int → Int → Option (Int)
 | 0, _, _, _, _, _, _, _, _ => none
 | k + 1, x3, x4, x5, x6, x7, x36, x37, x38 => if x38 < x37 then (if 0 ≤ x38 then (if x38 < (x36.length : Int) then (if ((rd_T66 x36 x38).f1) = 0 then (witness_Diameter.l1 k x3 x4 x5 x6 x7 x36 x37 (wrap64 (x38 + 1))) else (if 0 ≤ ((rd_T66 x36 x38).f1) then (if ((rd_T66 x36 x38).f1) < (x4.length : Int) then (if (rd x4 ((rd_T66 x36 x38).f1)) = 0 then (if 0 ≤ x7 then (if x7 < (x4.length : Int) then (if x5.length < 17592186044416 then (witness_Diameter.l1 k x3 (x4.set (((rd_T66 x36 x38).f1) : Int).toNat (wrap64 ((rd x4 x7) + 1))) (x5 ++ [(rd_T66 x36 x38).f1]) x6 x7 x36 x37 (wrap64 (x38 + 1))) else (none)) else (none)) else (none)) else (witness_Diameter.l1 k x3 x4 x5 x6 x7 x36 x37 (wrap64 (x38 + 1)))) else (none)) else (none))) else (none)) else (none)) else (witness_Diameter.l0 k x3 x4 x5 x6)
end
def witness_Diameter.f (k : Nat) (l0_0 : List (List Int)) (l0_1 : List (S80)) (a0_2 : Bool) : Option (Int) := (witness_steps.f k l0_0 l0_1 a0_2).bind fun t102 => (if (t102.length : Int) = 0 then (some (-1)) else (if 0 ≤ (t102.length : Int) then (if ((t102.length : Int) : Int).toNat ≤ 35184372088832 then (witness_Diameter.l0 k t102 (List.replicate ((t102.length : Int) : Int).toNat 0) (([0] : List Int)) 0) else (none)) else (none)))
def witness_Diameter.T15 : Bool × List (List Nat × List Nat) := (true, [([], []), ([], []), ([1], [1]), ([], []), ([], []), ([3, 4], [3, 4]), ([5], [5]), ([6], [6]), ([0, 2, 0, 1, 2, 3, 4, 5, 6, 7], [0, 2]), ([8, 7, 0, 1, 2, 3, 4, 5, 6, 7], [7, 8])])
def witness_Diameter.B15 : List Nat := [0, 0, 2, 0, 0, 24, 56, 120, 255, 511]
theorem witness_Diameter.tab15 : rtab .any (opsOf Try.f14 15) = witness_Diameter.T15 := by kernel_rfl
theorem witness_Diameter.bits15 : waitsOk witness_Diameter.T15.2 witness_Diameter.B15 = true := by kernel_rfl
set_option maxHeartbeats 8000000 in
set_option maxRecDepth 100000 in
theorem witness_Diameter.calls (k : Nat) (A0_0 : Option Addr) (c0_0 : Nat) (l0_0 : List (List Int)) (A0_1 : Option Addr) (c0_1 : Nat) (l0_1 : List (S80)) (a0_2 : Bool) (r : Int) (w : World) (hr0_0 : Kd.C (Kd.slice 3 (Kd.int .i64)) w A0_0 l0_0.length l0_0) (hc0_0 : l0_0.length ≤ c0_0) (hr0_1 : Kd.C k80 w A0_1 l0_1.length l0_1) (hc0_1 : l0_1.length ≤ c0_1) (h : witness_Diameter.f k l0_0 l0_1 a0_2 = some r) :
  Calls Try.prog 14 #[.agg #[.slice A0_0 l0_0.length c0_0, .slice A0_1 l0_1.length c0_1, .bool a0_2]] w fun e w' => e = .returned (.int .i64 r) ∧ Below w.heap.size w w' := by
 have hu25 := Try.underlying25
 have hu66 := Try.underlying66
 have HR0_0 := Aside0.mk hr0_0
 have HC0_0 := Aside0.mk hc0_0
 clear hr0_0 hc0_0
 have HR0_1 := Aside0.mk hr0_1
 have HC0_1 := Aside0.mk hc0_1
 clear hr0_1 hc0_1
 have HB := Aside0.mk (Below.refl w.heap.size w)
 have H : ((witness_steps.f k l0_0 l0_1 a0_2).bind fun t102 => (if (t102.length : Int) = 0 then (some (-1)) else (if 0 ≤ (t102.length : Int) then (if ((t102.length : Int) : Int).toNat ≤ 35184372088832 then (witness_Diameter.l0 k t102 (List.replicate ((t102.length : Int) : Int).toNat 0) (([0] : List Int)) 0) else (none)) else (none)))) = some r := h
 clear h
 replace H := Option.bind_eq_some_iff.mp H
 obtain ⟨t102, A20, H⟩ := H
 (try dsimp only at H)
 have A2 := Aside0.mk A20
 clear A20
 by_cases c3 : (t102.length : Int) = 0
 ·rw [if_pos c3] at H
  have c3b0 := beq_iff_eq.mpr c3
  have c3b1 := bne_eq_false_iff_eq.mpr c3
  clear c3
  obtain rfl := Option.some.inj H
  go_enter Try.func14, Try.ntmps14
  go_wp2_with (first | ((with_reducible refine gate_dst (N := 1) rfl ?_); refine tBx 1 25 #[.slice A0_0 l0_0.length c0_0, .slice A0_1 l0_1.length c0_1, .bool a0_2] ?_; intro gb101 hg w4 hbox hb; have BK101 := Aside0.mk (hbox); have GW101 := tW HB hg; have GE101 := tW HB hg; replace HB := tA HB hb; clear hb hbox hg; obtain ⟨hcz5_0, hcz5_1, hcz5_2, hfz5_0, hfz5_1, hfz5_2⟩ := zc3 BK101) | ((with_reducible refine gate_callee (f := 34) rfl ?_); refine goesL_ (some 11) rfl rfl Try.func34 (by kernel_rfl) rfl #[.agg #[.slice A0_0 l0_0.length c0_0, .slice A0_1 l0_1.length c0_1, .bool a0_2]] rfl (by (try simp only [List.map_toArray, List.map_cons, List.map_nil]); first | done | rfl | (simp only [List.length_drop, List.length_take]; rfl)) ?_; (with_reducible refine (witness_steps.calls k _ _ l0_0 _ _ l0_1 a0_2 t102 _ (tG HR0_0 HB) HC0_0.out (tG HR0_1 HB) HC0_1.out A2.out).mono ?_); rintro e w ⟨v103, rfl, ho0, hb⟩; refine ⟨_, rfl, ?_⟩; have HO104 := Aside0.mk (Kd.S_lower ho0 (below_size (tB))); replace BK101 := tL BK101 hb; replace HB := tA HB hb; (try clear hb); (try clear hb2); (try clear hk); (try clear hi); (try clear ho0); obtain ⟨As_t102, cs_t102, es_t102, hcs_t102, hCs_t102⟩ := Kd.S_reads HO104.out; subst es_t102; have HRs_t102 := Aside0.mk hCs_t102; have HCs_t102 := Aside0.mk hcs_t102; clear hCs_t102 hcs_t102 HO104; have HBS1 := HB; clear HB; have HB := Aside0.mk (Below.refl w.heap.size w); replace HR0_0 := Aside0.mk (Kd.C_below HR0_0.out HBS1.out); replace HR0_1 := Aside0.mk (Kd.C_below HR0_1.out HBS1.out)))
  go_ret
  (try refine reb0_ HBS1.out ?_)
  exact ⟨tE, tB⟩
 rw [if_neg c3] at H
 have c3b0 := beq_eq_false_iff_ne.mpr c3
 have c3b1 := bne_iff_ne.mpr c3
 have c3b2 : ¬ (t102 = []) := fun h_ => c3 (by rw [h_]; rfl)
 by_cases c6 : 0 ≤ (t102.length : Int)
 ·rw [if_pos c6] at H
  have c6b0 := eq_true c6
  have c6b1 := decide_eq_true c6
  clear c6
  replace H := tF H
  obtain ⟨c7, H⟩ := H
  have c7b0 := eq_true c7
  have c7b1 := decide_eq_true c7
  clear c7
  obtain ⟨y105, hy105⟩ : ∃ y_ : List Int, y_ = (List.replicate ((t102.length : Int) : Int).toNat 0) := ⟨_, rfl⟩
  replace H : (witness_Diameter.l0 k t102 y105 (([0] : List Int)) 0) = some r := tQ hy105 H
  have Ny105 := Aside0.mk hy105
  clear hy105
  obtain ⟨y108, hy108⟩ : ∃ y_ : List Int, y_ = (([0] : List Int)) := ⟨_, rfl⟩
  replace H : (witness_Diameter.l0 k t102 y105 y108 0) = some r := tQ hy108 H
  have Ny108 := Aside0.mk hy108
  clear hy108
  have H' := Aside0.mk H
  clear H
  go_enter Try.func14, Try.ntmps14
  go_wp2_with (first | ((with_reducible refine gate_dst (N := 1) rfl ?_); refine tBx 1 25 #[.slice A0_0 l0_0.length c0_0, .slice A0_1 l0_1.length c0_1, .bool a0_2] ?_; intro gb101 hg w8 hbox hb; have BK101 := Aside0.mk (hbox); have GW101 := tW HB hg; have GE101 := tW HB hg; replace HB := tA HB hb; clear hb hbox hg; obtain ⟨hcz9_0, hcz9_1, hcz9_2, hfz9_0, hfz9_1, hfz9_2⟩ := zc3 BK101) | ((with_reducible refine gate_callee (f := 34) rfl ?_); refine goesL_ (some 11) rfl rfl Try.func34 (by kernel_rfl) rfl #[.agg #[.slice A0_0 l0_0.length c0_0, .slice A0_1 l0_1.length c0_1, .bool a0_2]] rfl (by (try simp only [List.map_toArray, List.map_cons, List.map_nil]); first | done | rfl | (simp only [List.length_drop, List.length_take]; rfl)) ?_; (with_reducible refine (witness_steps.calls k _ _ l0_0 _ _ l0_1 a0_2 t102 _ (tG HR0_0 HB) HC0_0.out (tG HR0_1 HB) HC0_1.out A2.out).mono ?_); rintro e w ⟨v103, rfl, ho0, hb⟩; refine ⟨_, rfl, ?_⟩; have HO104 := Aside0.mk (Kd.S_lower ho0 (below_size (tB))); replace BK101 := tL BK101 hb; replace HB := tA HB hb; (try clear hb); (try clear hb2); (try clear hk); (try clear hi); (try clear ho0); obtain ⟨As_t102, cs_t102, es_t102, hcs_t102, hCs_t102⟩ := Kd.S_reads HO104.out; subst es_t102; have HRs_t102 := Aside0.mk hCs_t102; have HCs_t102 := Aside0.mk hcs_t102; clear hCs_t102 hcs_t102 HO104; have HBS1 := HB; clear HB; have HB := Aside0.mk (Below.refl w.heap.size w); replace HR0_0 := Aside0.mk (Kd.C_below HR0_0.out HBS1.out); replace HR0_1 := Aside0.mk (Kd.C_below HR0_1.out HBS1.out)) | ((with_reducible refine gate_dst (N := 17) rfl ?_); refine Kd.R_make (Kd.int .i64) _ 3 rfl (N := 17) rfl 28 _ _ rfl (t102.length : Int) rfl rfl Try.underlying28 (.int .i64 0) 8 info3 rfl (by decide) (by omega) 0 (ok := fun _ => True) (okp := fun _ => True) rfl (fun _ hk => hk) trivial (tD) (Nat.le_trans (Nat.mul_le_mul_right _ (tD : (t102.length : Int).toNat ≤ 35184372088832)) (by omega)) (Below.refl _ _) (Nat.le_refl _) ?_; intro v106 w10 ho11 hb hg_ hnew_; clear hg_ hnew_; (first | rw [← Ny105.out] at ho11 | (simp only [Int.reduceToNat] at ho11; rw [← Ny105.out] at ho11)); have HO107 := Aside0.mk (Kd.R_lower ho11 (below_size (tB))); replace BK101 := tL BK101 hb; replace HB := tA HB hb; clear hb ho11) | ((with_reducible refine gate_dst (N := 18) rfl ?_); refine Kd.R_lit (Kd.int .i64) _ 3 ?hg (N := 18) ?hd (xs := ([0] : List Int)) (inner := [.int .i64 0]) (ok := fun _ => True) (okp := fun _ => True) ?hr ?hp (fun _ hk => hk) trivial (Below.refl _ _) (Nat.le_refl _) (by simp) ?_; (case hd => rfl); (case hg => rfl); (case hr => first | (go_simp; done) | (go_simp; rfl)); (case hp => exact (Reps.one (show Kd.M (Kd.int .i64) _ _ _ 0 [.int .i64 0] from rfl) (Reps.none _ _))); intro v109 w12 ho13 hb hg_ hnew_; clear hg_ hnew_; (first | rw [← Ny108.out] at ho13 | (simp only [Int.reduceToNat] at ho13; rw [← Ny108.out] at ho13)); have HO110 := Aside0.mk (Kd.R_lower (Kd.R_new' ho13 (Kd.R_lt (tR HO107))) (below_size (tB))); replace HO107 := Aside0.mk (Kd.R_elder' (tR HO107) (Kd.R_base ho13) hb); replace BK101 := tL BK101 hb; replace HB := tA HB hb; clear hb ho13))
  go_loopg [5, 6] k (fun kq v5 v6 w' => ∃ (x4_1 : List Int) (x5_1 : List Int) (x6_1 : Int), v6 = .int .i64 x6_1 ∧ Aside0 (witness_Diameter.l0 kq t102 x4_1 x5_1 x6_1 = some r) ∧ Aside0 (kq ≤ k) ∧ Aside0 (Kd.R (Kd.int .i64) 3 w' w.heap.size (fun k_ => some k_ ≠ (v5 : Value).ownBlock) v106 x4_1) ∧ Aside0 (Kd.Q (Kd.int .i64) 3 w' w.heap.size (fun k_ => some k_ ≠ (v106 : Value).ownBlock) v5 x5_1) ∧ Aside0 (w'.heap[gb101]? = some (.cells #[(.slice A0_0 l0_0.length c0_0), (.slice A0_1 l0_1.length c0_1), .bool a0_2] 25 (0, 0))) ∧ Aside0 (Below w.heap.size w w'))
  case atStart => exact ⟨(y105), (y108), (0), tU, H', ⟨Nat.le_refl _⟩, ⟨by (with_reducible repeat (first | apply Kd.R_alloc | apply Kd.R_drewN | apply Kd.R_drew)); exact Kd.R_mono HO107.out (fun _ hk => hk.2)⟩, ⟨Kd.Q_of_R (by (with_reducible repeat (first | apply Kd.R_alloc | apply Kd.R_drewN | apply Kd.R_drew)); exact Kd.R_mono HO110.out (fun _ hk => hk.2))⟩, ⟨tK BK101⟩, ⟨tB⟩⟩
  case round =>
   clear H'
   (try clear c1); (try clear p2); (try clear c3); (try clear c3b0); (try clear c3b1); (try clear c3b2); (try clear c6); (try clear c6b0); (try clear c6b1); (try clear c7); (try clear c7b0); (try clear c7b1); (try clear hcz5_0 hcz5_1 hcz5_2 hfz5_0 hfz5_1 hfz5_2); (try clear hcz9_0 hcz9_1 hcz9_2 hfz9_0 hfz9_1 hfz9_2)
   obtain ⟨x4_1, x5_1, x6_1, rfl, HA, HK1, HO_4, HO_5, BK101, HB⟩ := hrel
   cases gk with
   | zero => exact absurd HA.out (by simp [witness_Diameter.l0])
   | succ k1 =>
    have H := HA.out
    clear HA
    simp only [witness_Diameter.l0] at H
    by_cases c14 : (x5_1.length : Int) > 0
    ·rw [if_pos c14] at H
     have c14b0 := tdGi c14
     have c14b1 : decide (0 < x5_1.length) = true := decide_eq_true (by omega)
     clear c14
     replace H := tF H
     obtain ⟨c15, H⟩ := H
     have c15b0 := decide_eq_true c15
     have c15b1 : decide (0 < x5_1.length) = true := decide_eq_true (by omega)
     clear c15
     replace H := tF H
     obtain ⟨c16, H⟩ := H
     have c16b0 := eq_true c16
     have c16b1 := decide_eq_true c16
     clear c16
     obtain ⟨y112, hy112⟩ : ∃ y_ : List Int, y_ = (x5_1.drop (1 : Int).toNat) := ⟨_, rfl⟩
     replace H : (if 0 ≤ (rd x5_1 0) then (if (rd x5_1 0) < (x4_1.length : Int) then (if (rd x5_1 0) < (t102.length : Int) then (witness_Diameter.l1 k1 t102 x4_1 y112 (mx x6_1 (rd x4_1 (rd x5_1 0))) (rd x5_1 0) (rd_L66 t102 (rd x5_1 0)) ((rd_L66 t102 (rd x5_1 0)).length : Int) 0) else (none)) else (none)) else (none)) = some r := tQ hy112 H
     have Ny112 := Aside0.mk hy112
     clear hy112
     replace H := tF H
     obtain ⟨c17, H⟩ := H
     have c17b0 := decide_eq_true c17
     clear c17
     replace H := tF H
     obtain ⟨c18, H⟩ := H
     have c18b0 := decide_eq_true c18
     clear c18
     obtain ⟨ji19, hji19⟩ : ∃ j_ : Int, (mx x6_1 (rd x4_1 (rd x5_1 0))) = j_ := ⟨_, rfl⟩
     replace H : (if (rd x5_1 0) < (t102.length : Int) then (witness_Diameter.l1 k1 t102 x4_1 y112 ji19 (rd x5_1 0) (rd_L66 t102 (rd x5_1 0)) ((rd_L66 t102 (rd x5_1 0)).length : Int) 0) else (none)) = some r := by first | (rw [hji19] at H; exact H) | (simp only [hji19] at H ⊢; exact H)
     have hji19_ : (if x6_1 < (rd x4_1 (rd x5_1 0)) then (rd x4_1 (rd x5_1 0)) else x6_1) = ji19 := hji19
     replace H := tF H
     obtain ⟨c20, H⟩ := H
     have c20b0 := decide_eq_true c20
     clear c20
     have H' := Aside0.mk H
     clear H
     obtain ⟨Ao21, co21, eo21, _⟩ := Kd.Q_slice HO_5.out
     subst eo21
     have p111 : 0 ≤ (0 : Int) := (by omega)
     have q111 : 0 < (x5_1.length : Int) := tD
     obtain ⟨ad111, e111, hx111_0⟩ := Kd.at_int (Kd.Q_reads' HO_5.out).2.2 0 p111 q111
     cases e111
     have qi111 : (0 < x5_1.length) = True := eq_true (by omega)
     (try rw [show ((0 : Int)).toNat = 0 from rfl] at hx111_0)
     (try rw [Addr.add_zero'] at hx111_0)
     replace p111 := eq_true p111
     replace q111 := eq_true q111
     have q22 : (1 : Int) ≤ ((x5_1.length : Int) : Int) := tD
     obtain ⟨i022, hi022, _, hsz22, _⟩ := info_parts info3
     have hcut22 := cut_from (P := Try.prog) 28 3 .i64 Try.underlying28 hi022 1 hsz22 (some ad111) x5_1.length co21 1 (by omega) q22
     have hr22 := Kd.Q_drop (k := (1 : Int).toNat) HO_5.out (by omega)
     obtain ⟨A22, hA22⟩ : ∃ A1, A1 = (if co21 = (1 : Int).toNat then (some ad111) else ((some ad111) : Option Addr).map (·.add ((1 : Int).toNat * 1))) := ⟨_, rfl⟩
     obtain ⟨c22, hc22⟩ : ∃ c1, c1 = co21 - (1 : Int).toNat := ⟨_, rfl⟩
     have hy22 : y112.length = x5_1.length - (1 : Int).toNat := (by rw [Ny112.out, List.length_drop])
     rw [← Ny112.out] at hr22
     rw [← hy22, ← hA22, ← hc22] at hcut22
     replace hr22 : Kd.Q (Kd.int .i64) 3 wr w.heap.size (fun k_ => some k_ ≠ (v106 : Value).ownBlock) (.slice A22 y112.length c22) y112 := (by rw [hA22, hc22, hy22]; exact hr22)
     have HE22 : Aside0 ((Value.slice A22 y112.length c22).ownBlock = (.slice (some ad111) x5_1.length co21 : Value).ownBlock) := ⟨by rw [hA22]; split <;> (cases ((some ad111) : Option Addr) <;> rfl)⟩
     clear hy22 hi022 hsz22 HO_5 hA22 hc22
     have HO114 := Aside0.mk hr22
     clear hr22
     replace q22 := eq_true q22
     have n_ := Aside0.mk (Kd.R_mono (ok' := fun k_ => some k_ ≠ (.slice A22 y112.length c22 : Value).ownBlock) HO_4.out (fun k_ hk => (by rw [HE22.out]; exact hk)))
     clear HO_4
     have HO_4 := n_
     clear n_
     obtain ⟨Ao23, co23, eo23⟩ := Kd.R_slice HO_4.out
     subst eo23
     have p115 : 0 ≤ ((rd x5_1 0) : Int) := tD
     have q115 : (rd x5_1 0) < (x4_1.length : Int) := tD
     obtain ⟨ad115, e115, hx115_0⟩ := Kd.at_int (Kd.R_reads' HO_4.out).2.2 (rd x5_1 0) p115 q115
     cases e115
     replace p115 := eq_true p115
     replace q115 := eq_true q115
     have p116 : 0 ≤ ((rd x5_1 0) : Int) := tD
     have q116 : (rd x5_1 0) < (t102.length : Int) := tD
     obtain ⟨ad116, A116_0, c116_0, e116, hx116_0, hl116_0, hi116_0⟩ := at_L66 HRs_t102.out (rd x5_1 0) p116 q116
     cases e116
     replace hx116_0 := tH HB hx116_0
     have HR116_0 := Aside0.mk hi116_0
     have HC116_0 := Aside0.mk hl116_0
     clear hi116_0 hl116_0
     replace p116 := eq_true p116
     replace q116 := eq_true q116
     go_wp2
     go_loopg [5, 38] k1 (fun kq v5 v38 w' => ∃ (x4_2 : List Int) (x5_2 : List Int) (x38_2 : Int), v38 = .int .i64 x38_2 ∧ Aside0 (witness_Diameter.l1 kq t102 x4_2 x5_2 ji19 (rd x5_1 0) (rd_L66 t102 (rd x5_1 0)) ((rd_L66 t102 (rd x5_1 0)).length : Int) x38_2 = some r) ∧ Aside0 (kq ≤ k1) ∧ Aside0 (Kd.R (Kd.int .i64) 3 w' w.heap.size (fun k_ => some k_ ≠ (v5 : Value).ownBlock) (.slice (some ad115) x4_1.length co23) x4_2) ∧ Aside0 (Kd.Q (Kd.int .i64) 3 w' w.heap.size (fun k_ => some k_ ≠ ((.slice (some ad115) x4_1.length co23) : Value).ownBlock) v5 x5_2) ∧ Aside0 (w'.heap[gb101]? = some (.cells #[(.slice A0_0 l0_0.length c0_0), (.slice A0_1 l0_1.length c0_1), .bool a0_2] 25 (0, 0))) ∧ Aside0 (Below w.heap.size w w'))
     case atStart => exact ⟨(x4_1), (y112), (0), tU, H', ⟨Nat.le_refl _⟩, ⟨tR HO_4⟩, ⟨tR HO114⟩, ⟨tK BK101⟩, ⟨tB⟩⟩
     case round =>
      clear H'
      (try clear c1); (try clear p1); (try clear q1); (try clear hx1); (try clear qi1); (try clear c2); (try clear p2); (try clear q2); (try clear c3); (try clear c3b0); (try clear c3b1); (try clear c3b2); (try clear c6); (try clear c6b0); (try clear c6b1); (try clear c7); (try clear c7b0); (try clear c7b1); (try clear c11); (try clear p11); (try clear q11); (try clear hx11); (try clear qi11); (try clear c14); (try clear c14b0); (try clear c14b1); (try clear c15); (try clear c15b0); (try clear c15b1); (try clear c16); (try clear c16b0); (try clear c16b1); (try clear c17); (try clear c17b0); (try clear c18); (try clear c18b0); (try clear c20); (try clear c20b0); (try clear c22); (try clear q22); (try clear hcz5_0 hcz5_1 hcz5_2 hfz5_0 hfz5_1 hfz5_2); (try clear hcz9_0 hcz9_1 hcz9_2 hfz9_0 hfz9_1 hfz9_2); (try clear hx111_0); (try clear hx115_0); (try clear hx116_0); (try clear p111); (try clear p115); (try clear p116); (try clear q111); (try clear q115); (try clear q116)
      obtain ⟨x4_2, x5_2, x38_2, rfl, HA, HK2, HO_4, HO_5, BK101, HB⟩ := hrel
      have hl4_2 := (Kd.R_reads' HO_4.out).1
      rw [hl4_2] at HO_4
      (try simp only [hl4_2])
      (try simp only [hl4_2] at BK101)
      (try simp only [hl4_2] at HO_5)
      cases gk with
      | zero => exact absurd HA.out (by simp [witness_Diameter.l1])
      | succ k2 =>
       have H := HA.out
       clear HA
       simp only [witness_Diameter.l1] at H
       by_cases c24 : x38_2 < ((rd_L66 t102 (rd x5_1 0)).length : Int)
       ·rw [if_pos c24] at H
        have c24b0 := decide_eq_true c24
        clear c24
        replace H := tF H
        obtain ⟨c25, H⟩ := H
        have c25b0 := decide_eq_true c25
        clear c25
        replace H := tF H
        obtain ⟨c26, H⟩ := H
        have c26b0 := decide_eq_true c26
        clear c26
        by_cases c27 : ((rd_T66 (rd_L66 t102 (rd x5_1 0)) x38_2).f1) = 0
        ·rw [if_pos c27] at H
         have c27b0 := beq_iff_eq.mpr c27
         have c27b1 := bne_eq_false_iff_eq.mpr c27
         clear c27
         have H' := Aside0.mk H
         clear H
         have p117 : 0 ≤ (x38_2 : Int) := tD
         have q117 : x38_2 < ((rd_L66 t102 (rd x5_1 0)).length : Int) := tD
         obtain ⟨ad117, e117, hx117_0, hx117_1⟩ := at_T66 HR116_0.out x38_2 p117 q117
         cases e117
         replace hx117_0 := tH HB hx117_0
         replace hx117_1 := tH HB hx117_1
         replace p117 := eq_true p117
         replace q117 := eq_true q117
         go_wp2_with (first | ((with_reducible refine gate_dst (N := 9) rfl ?_); refine tBx 9 66 #[.int .i64 0, .int .i64 0] ?_; intro gb118 hg w28 hbox hb; replace HO_4 := Aside0.mk (Kd.R_below (tR HO_4) hb); replace HO_5 := Aside0.mk (Kd.Q_below (tR HO_5) hb); have BK118 := Aside0.mk (hbox); have GW118 := tW HB hg; have GE118 := tW HB hg; replace HB := tA HB hb; have NB101_118 := tNl BK101 hg; have NB118_101 := tNg BK101 hg; replace BK101 := tL BK101 hb; clear hb hbox hg; have hnb29 := NB118_101.out; have hnc29 := NB101_118.out; obtain ⟨hcz30_0, hcz30_1, hfz30_0, hfz30_1⟩ := zc2 BK118))
         (try simp only [← hl4_2])
         (try rw [show (⟨go36, (rd x5_1 0).toNat, none⟩ : Addr) = (⟨go36, 0, none⟩ : Addr).add (rd x5_1 0).toNat from (add_plain _ _).symm])
         go_roundg k2
         case measure => have := HK1.out; have := HK2.out; omega
         case rel => exact ⟨(x4_2), (x5_2), (wrap64 (x38_2 + 1)), tU, H', ⟨by have := HK1.out; have := HK2.out; omega⟩, ⟨by (try simp only [hl4_2]); (with_reducible repeat (first | apply Kd.R_alloc | apply Kd.R_drewN | apply Kd.R_drew)); exact Kd.R_mono (Kd.R_far (p := ⟨gb118, 1, none⟩) (Kd.R_far (p := ⟨gb118, 0, none⟩) (Kd.R_types HO_4.out BK118.out (by decide)) (fun _ hk => hk.2) (.int .i64 ((rd_T66 (rd_L66 t102 (rd x5_1 0)) x38_2).f0))) (fun _ hk => hk.2) (.int .i64 ((rd_T66 (rd_L66 t102 (rd x5_1 0)) x38_2).f1))) (fun _ hk => hk.1)⟩, ⟨by (try simp only [hl4_2]); (with_reducible repeat (first | apply Kd.Q_alloc | apply Kd.Q_drewN | apply Kd.Q_drew)); exact Kd.Q_mono (Kd.Q_far (p := ⟨gb118, 1, none⟩) (Kd.Q_far (p := ⟨gb118, 0, none⟩) (Kd.Q_types HO_5.out BK118.out (by decide)) (fun _ hk => hk.2) (.int .i64 ((rd_T66 (rd_L66 t102 (rd x5_1 0)) x38_2).f0))) (fun _ hk => hk.2) (.int .i64 ((rd_T66 (rd_L66 t102 (rd x5_1 0)) x38_2).f1))) (fun _ hk => hk.1)⟩, ⟨by (try simp only [hl4_2]); (with_reducible repeat (first | refine blk_drewN ?_ _ | refine blk_drew ?_ | refine blk_alloc ?_ _)); refine blk_far ?_ NB101_118.out _; (with_reducible repeat (first | refine blk_drewN ?_ _ | refine blk_drew ?_ | refine blk_alloc ?_ _)); refine blk_far ?_ NB101_118.out _; (with_reducible repeat (first | refine blk_drewN ?_ _ | refine blk_drew ?_ | refine blk_alloc ?_ _)); exact BK101.out⟩, ⟨tB⟩⟩
        rw [if_neg c27] at H
        have c27b0 := beq_eq_false_iff_ne.mpr c27
        have c27b1 := bne_iff_ne.mpr c27
        replace H := tF H
        obtain ⟨c31, H⟩ := H
        have c31b0 := decide_eq_true c31
        clear c31
        replace H := tF H
        obtain ⟨c32, H⟩ := H
        have c32b0 := decide_eq_true c32
        clear c32
        by_cases c33 : (rd x4_2 ((rd_T66 (rd_L66 t102 (rd x5_1 0)) x38_2).f1)) = 0
        ·rw [if_pos c33] at H
         have c33b0 := beq_iff_eq.mpr c33
         have c33b1 := bne_eq_false_iff_eq.mpr c33
         clear c33
         replace H := tF H
         obtain ⟨c34, H⟩ := H
         have c34b0 := decide_eq_true c34
         clear c34
         replace H := tF H
         obtain ⟨c35, H⟩ := H
         have c35b0 := decide_eq_true c35
         clear c35
         obtain ⟨y121, hy121⟩ : ∃ y_ : List Int, y_ = (x4_2.set (((rd_T66 (rd_L66 t102 (rd x5_1 0)) x38_2).f1) : Int).toNat (wrap64 ((rd x4_2 (rd x5_1 0)) + 1))) := ⟨_, rfl⟩
         replace H : (if x5_2.length < 17592186044416 then (witness_Diameter.l1 k2 t102 y121 (x5_2 ++ [(rd_T66 (rd_L66 t102 (rd x5_1 0)) x38_2).f1]) ji19 (rd x5_1 0) (rd_L66 t102 (rd x5_1 0)) ((rd_L66 t102 (rd x5_1 0)).length : Int) (wrap64 (x38_2 + 1))) else (none)) = some r := tQ hy121 H
         have Ny121 := Aside0.mk hy121
         clear hy121
         replace H := tF H
         obtain ⟨c37, H⟩ := H
         have LMc37 := Aside0.mk c37
         clear c37
         obtain ⟨y122, hy122⟩ : ∃ y_ : List Int, y_ = (x5_2 ++ [(rd_T66 (rd_L66 t102 (rd x5_1 0)) x38_2).f1]) := ⟨_, rfl⟩
         replace H : (witness_Diameter.l1 k2 t102 y121 y122 ji19 (rd x5_1 0) (rd_L66 t102 (rd x5_1 0)) ((rd_L66 t102 (rd x5_1 0)).length : Int) (wrap64 (x38_2 + 1))) = some r := tQ hy122 H
         have Ny122 := Aside0.mk hy122
         clear hy122
         have H' := Aside0.mk H
         clear H
         have p117 : 0 ≤ (x38_2 : Int) := tD
         have q117 : x38_2 < ((rd_L66 t102 (rd x5_1 0)).length : Int) := tD
         obtain ⟨ad117, e117, hx117_0, hx117_1⟩ := at_T66 HR116_0.out x38_2 p117 q117
         cases e117
         replace hx117_0 := tH HB hx117_0
         replace hx117_1 := tH HB hx117_1
         replace p117 := eq_true p117
         replace q117 := eq_true q117
         try go_wp2_with (first | ((with_reducible refine gate_dst (N := 9) rfl ?_); refine tBx 9 66 #[.int .i64 0, .int .i64 0] ?_; intro gb118 hg w38 hbox hb; replace HO_4 := Aside0.mk (Kd.R_below (tR HO_4) hb); replace HO_5 := Aside0.mk (Kd.Q_below (tR HO_5) hb); have BK118 := Aside0.mk (hbox); have GW118 := tW HB hg; have GE118 := tW HB hg; replace HB := tA HB hb; have NB101_118 := tNl BK101 hg; have NB118_101 := tNg BK101 hg; replace BK101 := tL BK101 hb; clear hb hbox hg; have hnb39 := NB118_101.out; have hnc39 := NB101_118.out; obtain ⟨hcz40_0, hcz40_1, hfz40_0, hfz40_1⟩ := zc2 BK118; have p119 : 0 ≤ (((rd_T66 (rd_L66 t102 (rd x5_1 0)) x38_2).f1) : Int) := tD; have q119 : ((rd_T66 (rd_L66 t102 (rd x5_1 0)) x38_2).f1) < (x4_2.length : Int) := tD; obtain ⟨ad119, e119, hx119_0⟩ := Kd.at_int (Kd.R_reads' HO_4.out).2.2 ((rd_T66 (rd_L66 t102 (rd x5_1 0)) x38_2).f1) p119 q119; obtain rfl : ad115 = ad119 := (by injection e119); have hn119_0 : ad115.block ≠ gb118 := Kd.own_blk (Kd.R_ne HO_4.out BK118.out (by decide)); have hn119_1 : ad115.block ≠ gb118 := Kd.own_blk (Kd.R_ne HO_4.out BK118.out (by decide)); replace hx119_0 := (cell_far (p := ⟨gb118, 0, none⟩) (by first | (rw [add_block]; exact hn119_0) | (show (Addr.add _ _).block ≠ _; rw [add_block]; exact hn119_0) | exact hn119_0) (.int .i64 ((rd_T66 (rd_L66 t102 (rd x5_1 0)) x38_2).f0))).trans hx119_0; replace hx119_0 := (cell_far (p := ⟨gb118, 1, none⟩) (by first | (rw [add_block]; exact hn119_1) | (show (Addr.add _ _).block ≠ _; rw [add_block]; exact hn119_1) | exact hn119_1) (.int .i64 ((rd_T66 (rd_L66 t102 (rd x5_1 0)) x38_2).f1))).trans hx119_0; clear hn119_0; clear hn119_1; replace p119 := eq_true p119; replace q119 := eq_true q119))
         have n0_ : Aside0 (Kd.R (Kd.int .i64) 3 ((w38.setCell ⟨gb118, 0, none⟩ (.int .i64 ((rd_T66 (rd_L66 t102 (rd x5_1 0)) x38_2).f0))).setCell ⟨gb118, 1, none⟩ (.int .i64 ((rd_T66 (rd_L66 t102 (rd x5_1 0)) x38_2).f1))) w.heap.size (fun k_ => some k_ ≠ (u5 : Value).ownBlock) (.slice (some ad115) x4_2.length co23) x4_2) := ⟨by (with_reducible repeat (first | apply Kd.R_alloc | apply Kd.R_drewN | apply Kd.R_drew)); exact Kd.R_mono (Kd.R_far (p := ⟨gb118, 1, none⟩) (Kd.R_far (p := ⟨gb118, 0, none⟩) (Kd.R_types HO_4.out BK118.out (by decide)) (fun _ hk => hk.2) (.int .i64 ((rd_T66 (rd_L66 t102 (rd x5_1 0)) x38_2).f0))) (fun _ hk => hk.2) (.int .i64 ((rd_T66 (rd_L66 t102 (rd x5_1 0)) x38_2).f1))) (fun _ hk => hk.1)⟩
         have n1_ : Aside0 (Kd.Q (Kd.int .i64) 3 ((w38.setCell ⟨gb118, 0, none⟩ (.int .i64 ((rd_T66 (rd_L66 t102 (rd x5_1 0)) x38_2).f0))).setCell ⟨gb118, 1, none⟩ (.int .i64 ((rd_T66 (rd_L66 t102 (rd x5_1 0)) x38_2).f1))) w.heap.size (fun k_ => some k_ ≠ (.slice (some ad115) x4_2.length co23 : Value).ownBlock) u5 x5_2) := ⟨by (with_reducible repeat (first | apply Kd.Q_alloc | apply Kd.Q_drewN | apply Kd.Q_drew)); exact Kd.Q_mono (Kd.Q_far (p := ⟨gb118, 1, none⟩) (Kd.Q_far (p := ⟨gb118, 0, none⟩) (Kd.Q_types HO_5.out BK118.out (by decide)) (fun _ hk => hk.2) (.int .i64 ((rd_T66 (rd_L66 t102 (rd x5_1 0)) x38_2).f0))) (fun _ hk => hk.2) (.int .i64 ((rd_T66 (rd_L66 t102 (rd x5_1 0)) x38_2).f1))) (fun _ hk => hk.1)⟩
         have n2_ : Aside0 (((w38.setCell ⟨gb118, 0, none⟩ (.int .i64 ((rd_T66 (rd_L66 t102 (rd x5_1 0)) x38_2).f0))).setCell ⟨gb118, 1, none⟩ (.int .i64 ((rd_T66 (rd_L66 t102 (rd x5_1 0)) x38_2).f1))).heap[gb101]? = some (.cells #[.slice A0_0 l0_0.length c0_0, .slice A0_1 l0_1.length c0_1, .bool a0_2] 25 (0, 0))) := ⟨by (with_reducible repeat (first | refine blk_drewN ?_ _ | refine blk_drew ?_ | refine blk_alloc ?_ _)); refine blk_far ?_ NB101_118.out _; (with_reducible repeat (first | refine blk_drewN ?_ _ | refine blk_drew ?_ | refine blk_alloc ?_ _)); refine blk_far ?_ NB101_118.out _; (with_reducible repeat (first | refine blk_drewN ?_ _ | refine blk_drew ?_ | refine blk_alloc ?_ _)); exact BK101.out⟩
         have n3_ : Aside0 (((w38.setCell ⟨gb118, 0, none⟩ (.int .i64 ((rd_T66 (rd_L66 t102 (rd x5_1 0)) x38_2).f0))).setCell ⟨gb118, 1, none⟩ (.int .i64 ((rd_T66 (rd_L66 t102 (rd x5_1 0)) x38_2).f1))).heap[gb118]? = some (.cells #[.int .i64 ((rd_T66 (rd_L66 t102 (rd x5_1 0)) x38_2).f0), .int .i64 ((rd_T66 (rd_L66 t102 (rd x5_1 0)) x38_2).f1)] 66 (0, 0))) := ⟨by (with_reducible repeat (first | refine blk_drewN ?_ _ | refine blk_drew ?_ | refine blk_alloc ?_ _)); refine blk_put (cs := #[.int .i64 ((rd_T66 (rd_L66 t102 (rd x5_1 0)) x38_2).f0), .int .i64 0]) ?_ 1 _ rfl; (with_reducible repeat (first | refine blk_drewN ?_ _ | refine blk_drew ?_ | refine blk_alloc ?_ _)); refine blk_put (cs := #[.int .i64 0, .int .i64 0]) ?_ 0 _ rfl; (with_reducible repeat (first | refine blk_drewN ?_ _ | refine blk_drew ?_ | refine blk_alloc ?_ _)); exact BK118.out⟩
         have n4_ : Aside0 (Below w.heap.size w ((w38.setCell ⟨gb118, 0, none⟩ (.int .i64 ((rd_T66 (rd_L66 t102 (rd x5_1 0)) x38_2).f0))).setCell ⟨gb118, 1, none⟩ (.int .i64 ((rd_T66 (rd_L66 t102 (rd x5_1 0)) x38_2).f1)))) := ⟨tB⟩
         (try clear HO_4)
         (try clear HO_5)
         (try clear BK101)
         (try clear BK118)
         (try clear HB)
         generalize ((w38.setCell ⟨gb118, 0, none⟩ (.int .i64 ((rd_T66 (rd_L66 t102 (rd x5_1 0)) x38_2).f0))).setCell ⟨gb118, 1, none⟩ (.int .i64 ((rd_T66 (rd_L66 t102 (rd x5_1 0)) x38_2).f1))) = w41 at n0_ n1_ n2_ n3_ n4_ ⊢
         have HO_4 := n0_
         have HO_5 := n1_
         have BK101 := n2_
         have BK118 := n3_
         have HB := n4_
         clear n0_ n1_ n2_ n3_ n4_
         replace HO_4 := Aside0.mk (Kd.R_drew HO_4.out)
         replace HO_5 := Aside0.mk (Kd.Q_drew HO_5.out)
         replace BK101 := Aside0.mk (blk_drew BK101.out)
         replace BK118 := Aside0.mk (blk_drew BK118.out)
         replace HB := Aside0.mk (below_drew1 HB.out)
         have p120 : 0 ≤ ((rd x5_1 0) : Int) := tD
         have q120 : (rd x5_1 0) < (x4_2.length : Int) := tD
         obtain ⟨ad120, e120, hx120_0⟩ := Kd.at_int (Kd.R_reads' HO_4.out).2.2 (rd x5_1 0) p120 q120
         obtain rfl : ad115 = ad120 := (by injection e120)
         replace p120 := eq_true p120
         replace q120 := eq_true q120
         have p36 : 0 ≤ (((rd_T66 (rd_L66 t102 (rd x5_1 0)) x38_2).f1) : Int) := tD
         have q36 : (((rd_T66 (rd_L66 t102 (rd x5_1 0)) x38_2).f1) : Int) < ((x4_2.length : Int) : Int) := tD
         obtain ⟨go36, co36, eo36, gb36, gl36, cl36, HG36⟩ := Kd.R_form HO_4.out (by omega)
         (first | cases eo36 | (injection eo36 with ea_ en_ ec_; (first | subst ea_ | (injection ea_ with ea_; subst ea_)); subst ec_; clear en_))
         have GB36 := Aside0.mk gb36
         have GG36 := Aside0.mk HG36
         clear gb36 gl36 HG36
         (first | simp only [add_plain] at hx115_0 | skip)
         (first | simp only [add_plain] at hx119_0 | skip)
         (first | simp only [add_plain] at hx120_0 | skip)
         obtain ⟨hx36_0, hf36_0⟩ := Kd.R_celln 0 HO_4.out (((rd_T66 (rd_L66 t102 (rd x5_1 0)) x38_2).f1) : Int) p36 q36
         replace p36 := eq_true p36
         replace q36 := eq_true q36
         have HP43 := Kd.R_putn HO_4.out (((rd_T66 (rd_L66 t102 (rd x5_1 0)) x38_2).f1) : Int) (wrap64 ((rd x4_2 (rd x5_1 0)) + 1))
         rw [← Ny121.out] at HP43
         have HQ43 := Aside0.mk HP43
         clear HP43
         refine sS3 10 [9] rfl witness_Diameter.tab15 witness_Diameter.bits15 ⟨tz BK118 0, tz BK118 1, hx120_0⟩ (fun hHeld HT_ HW_ => ?_)
         generalize w41.drew = w42 at HO_4 HO_5 BK101 BK118 HB GG36 HQ43 hf36_0 hx119_0 hx120_0 hx36_0 hHeld ⊢
         refine sP 0 53 HT_ rfl rfl ?_
         refine sP 1 54 HT_ rfl rfl ?_
         refine sP 3 56 HT_ rfl rfl ?_
         refine sP 4 57 HT_ rfl rfl ?_
         refine sP 5 58 HT_ rfl rfl ?_
         refine sT 2 55 HT_ HW_ rfl rfl hHeld ?_
         refine sT 6 59 HT_ HW_ rfl rfl hHeld ?_
         refine sP 7 60 HT_ rfl rfl ?_
         refine sP 8 61 HT_ rfl rfl ?_
         refine sL 9 none HT_ rfl rfl (fun K hK => ?_)
         refine skip_ (w1 := ?_) (by rfl) rfl ?_ ?_
         rotate_left
         ·go_simp
          rfl
         refine hK.out _ _ ?_
         clear hK K
         refine sD HT_ ?_
         obtain ⟨hcz44_0, hcz44_1, hfz44_0, hfz44_1⟩ := zc2 BK118
         have hnbx_ : go36 ≠ gb118 := by have h_ := Kd.R_ne HO_4.out BK118.out (by decide); intro e_; exact h_ (by rw [e_]; rfl)
         have hnby_ : gb118 ≠ go36 := fun e_ => hnbx_ e_.symm
         try go_wp2_with (first | ((with_reducible refine gate_builtin (b := .append) (xs := #[.tmp 62, .tmp 65]) rfl ?_); at_builtin; refine Kd.Q_append (Kd.int .i64) (w0 := w) w.heap.size rfl (.tmp 62) (.tmp 65) 28 3 (.int .i64 0) 8 rfl Try.underlying28 info3 rfl (by decide) (by omega) u5 x5_2 ((rd_T66 (rd_L66 t102 (rd x5_1 0)) x38_2).f1) [.int .i64 ((rd_T66 (rd_L66 t102 (rd x5_1 0)) x38_2).f1)] (fun k_ => some k_ ≠ (.slice (some ⟨go36, 0, none⟩) x4_2.length co23 : Value).ownBlock) (fun _ => False) rfl (by first | (go_simp; done) | (go_simp; rfl)) ?aP (fun _ hk => hk.elim) ?aF ?aO ?aB ?aS ?aL ?_; (case aP => exact rfl); (case aB => exact (by repeat (first | (with_reducible first | exact HB.out | apply below_alloc | apply pw_below_drewN | apply below_drew1 | refine below_set ?_ GB36.out | refine below_set ?_ GE101.out | refine below_set ?_ GE118.out) | exact HB.out))); (case aF => exact (fun k_ hk => Kd.fresh' (Kd.R_lt (tR HQ43)) k_ hk)); (case aO => exact (by (with_reducible repeat (first | apply Kd.Q_alloc | apply Kd.Q_drewN | apply Kd.Q_drew)); exact Kd.Q_mono (Kd.Q_far (p := ⟨go36, (((rd_T66 (rd_L66 t102 (rd x5_1 0)) x38_2).f1) : Int).toNat, none⟩) (Kd.Q_mono HO_5.out (fun k_ hk => (⟨hk, fun e_ => hk (by rw [e_]; rfl)⟩ : _ ∧ k_ ≠ go36))) (fun _ hk => hk.2) (.int .i64 (wrap64 ((rd x4_2 (rd x5_1 0)) + 1)))) (fun _ hk => hk.1))); (case aS => exact (below_size (by repeat (first | (with_reducible first | exact HB.out | apply below_alloc | apply pw_below_drewN | apply below_drew1 | refine below_set ?_ GB36.out | refine below_set ?_ GE101.out | refine below_set ?_ GE118.out) | exact HB.out)))); (case aL => have := LMc37.out; omega); intro v123 w45 ho hb hg hat; rw [← Ny122.out] at ho; replace BK101 := Aside0.mk (blk_grown (g := gb101) (o := .cells #[.slice A0_0 l0_0.length c0_0, .slice A0_1 l0_1.length c0_1, .bool a0_2] 25 (0, 0)) (by (with_reducible repeat (first | refine blk_drewN ?_ _ | refine blk_drew ?_ | refine blk_alloc ?_ _)); refine blk_far ?_ (by have h_ := Kd.R_ne HO_4.out BK101.out (by decide); intro e_; exact h_ (by rw [e_]; rfl)) _; (with_reducible repeat (first | refine blk_drewN ?_ _ | refine blk_drew ?_ | refine blk_alloc ?_ _)); exact BK101.out) hg (Kd.Q_ne HO_5.out BK101.out (by decide))); replace BK118 := Aside0.mk (blk_grown (g := gb118) (o := .cells #[.int .i64 ((rd_T66 (rd_L66 t102 (rd x5_1 0)) x38_2).f0), .int .i64 ((rd_T66 (rd_L66 t102 (rd x5_1 0)) x38_2).f1)] 66 (0, 0)) (by (with_reducible repeat (first | refine blk_drewN ?_ _ | refine blk_drew ?_ | refine blk_alloc ?_ _)); refine blk_far ?_ (by have h_ := Kd.R_ne HO_4.out BK118.out (by decide); intro e_; exact h_ (by rw [e_]; rfl)) _; (with_reducible repeat (first | refine blk_drewN ?_ _ | refine blk_drew ?_ | refine blk_alloc ?_ _)); exact BK118.out) hg (Kd.Q_ne HO_5.out BK118.out (by decide))); replace HO_4 := Aside0.mk (Kd.R_after (ok := (fun _ => True)) (by (with_reducible repeat (first | apply Kd.R_alloc | apply Kd.R_drewN | apply Kd.R_drew)); exact Kd.R_mono HQ43.out (fun _ hk => ⟨trivial, hk⟩)) hg hat); replace HB := Aside0.mk (hb); have HO124 := Aside0.mk (ho); clear HO_5; clear ho hb hg hat))
         (try simp only [← hl4_2])
         (try rw [show (⟨go36, (rd x5_1 0).toNat, none⟩ : Addr) = (⟨go36, 0, none⟩ : Addr).add (rd x5_1 0).toNat from (add_plain _ _).symm])
         go_roundg k2
         case measure => have := HK1.out; have := HK2.out; omega
         case rel => exact ⟨(y121), (y122), (wrap64 (x38_2 + 1)), tU, H', ⟨by have := HK1.out; have := HK2.out; omega⟩, ⟨by (try simp only [hl4_2]); (with_reducible repeat (first | apply Kd.R_alloc | apply Kd.R_drewN | apply Kd.R_drew)); exact Kd.R_mono HO_4.out (fun _ hk => hk.2)⟩, ⟨by (try simp only [hl4_2]); (with_reducible repeat (first | apply Kd.Q_alloc | apply Kd.Q_drewN | apply Kd.Q_drew)); exact HO124.out⟩, ⟨by (try simp only [hl4_2]); (with_reducible repeat (first | refine blk_drewN ?_ _ | refine blk_drew ?_ | refine blk_alloc ?_ _)); exact BK101.out⟩, ⟨tB⟩⟩
        rw [if_neg c33] at H
        have c33b0 := beq_eq_false_iff_ne.mpr c33
        have c33b1 := bne_iff_ne.mpr c33
        have H' := Aside0.mk H
        clear H
        have p117 : 0 ≤ (x38_2 : Int) := tD
        have q117 : x38_2 < ((rd_L66 t102 (rd x5_1 0)).length : Int) := tD
        obtain ⟨ad117, e117, hx117_0, hx117_1⟩ := at_T66 HR116_0.out x38_2 p117 q117
        cases e117
        replace hx117_0 := tH HB hx117_0
        replace hx117_1 := tH HB hx117_1
        replace p117 := eq_true p117
        replace q117 := eq_true q117
        go_wp2_with (first | ((with_reducible refine gate_dst (N := 9) rfl ?_); refine tBx 9 66 #[.int .i64 0, .int .i64 0] ?_; intro gb118 hg w46 hbox hb; replace HO_4 := Aside0.mk (Kd.R_below (tR HO_4) hb); replace HO_5 := Aside0.mk (Kd.Q_below (tR HO_5) hb); have BK118 := Aside0.mk (hbox); have GW118 := tW HB hg; have GE118 := tW HB hg; replace HB := tA HB hb; have NB101_118 := tNl BK101 hg; have NB118_101 := tNg BK101 hg; replace BK101 := tL BK101 hb; clear hb hbox hg; have hnb47 := NB118_101.out; have hnc47 := NB101_118.out; obtain ⟨hcz48_0, hcz48_1, hfz48_0, hfz48_1⟩ := zc2 BK118; have p119 : 0 ≤ (((rd_T66 (rd_L66 t102 (rd x5_1 0)) x38_2).f1) : Int) := tD; have q119 : ((rd_T66 (rd_L66 t102 (rd x5_1 0)) x38_2).f1) < (x4_2.length : Int) := tD; obtain ⟨ad119, e119, hx119_0⟩ := Kd.at_int (Kd.R_reads' HO_4.out).2.2 ((rd_T66 (rd_L66 t102 (rd x5_1 0)) x38_2).f1) p119 q119; obtain rfl : ad115 = ad119 := (by injection e119); have hn119_0 : ad115.block ≠ gb118 := Kd.own_blk (Kd.R_ne HO_4.out BK118.out (by decide)); have hn119_1 : ad115.block ≠ gb118 := Kd.own_blk (Kd.R_ne HO_4.out BK118.out (by decide)); replace hx119_0 := (cell_far (p := ⟨gb118, 0, none⟩) (by first | (rw [add_block]; exact hn119_0) | (show (Addr.add _ _).block ≠ _; rw [add_block]; exact hn119_0) | exact hn119_0) (.int .i64 ((rd_T66 (rd_L66 t102 (rd x5_1 0)) x38_2).f0))).trans hx119_0; replace hx119_0 := (cell_far (p := ⟨gb118, 1, none⟩) (by first | (rw [add_block]; exact hn119_1) | (show (Addr.add _ _).block ≠ _; rw [add_block]; exact hn119_1) | exact hn119_1) (.int .i64 ((rd_T66 (rd_L66 t102 (rd x5_1 0)) x38_2).f1))).trans hx119_0; clear hn119_0; clear hn119_1; replace p119 := eq_true p119; replace q119 := eq_true q119))
        (try simp only [← hl4_2])
        (try rw [show (⟨go36, (rd x5_1 0).toNat, none⟩ : Addr) = (⟨go36, 0, none⟩ : Addr).add (rd x5_1 0).toNat from (add_plain _ _).symm])
        go_roundg k2
        case measure => have := HK1.out; have := HK2.out; omega
        case rel => exact ⟨(x4_2), (x5_2), (wrap64 (x38_2 + 1)), tU, H', ⟨by have := HK1.out; have := HK2.out; omega⟩, ⟨by (try simp only [hl4_2]); (with_reducible repeat (first | apply Kd.R_alloc | apply Kd.R_drewN | apply Kd.R_drew)); exact Kd.R_mono (Kd.R_far (p := ⟨gb118, 1, none⟩) (Kd.R_far (p := ⟨gb118, 0, none⟩) (Kd.R_types HO_4.out BK118.out (by decide)) (fun _ hk => hk.2) (.int .i64 ((rd_T66 (rd_L66 t102 (rd x5_1 0)) x38_2).f0))) (fun _ hk => hk.2) (.int .i64 ((rd_T66 (rd_L66 t102 (rd x5_1 0)) x38_2).f1))) (fun _ hk => hk.1)⟩, ⟨by (try simp only [hl4_2]); (with_reducible repeat (first | apply Kd.Q_alloc | apply Kd.Q_drewN | apply Kd.Q_drew)); exact Kd.Q_mono (Kd.Q_far (p := ⟨gb118, 1, none⟩) (Kd.Q_far (p := ⟨gb118, 0, none⟩) (Kd.Q_types HO_5.out BK118.out (by decide)) (fun _ hk => hk.2) (.int .i64 ((rd_T66 (rd_L66 t102 (rd x5_1 0)) x38_2).f0))) (fun _ hk => hk.2) (.int .i64 ((rd_T66 (rd_L66 t102 (rd x5_1 0)) x38_2).f1))) (fun _ hk => hk.1)⟩, ⟨by (try simp only [hl4_2]); (with_reducible repeat (first | refine blk_drewN ?_ _ | refine blk_drew ?_ | refine blk_alloc ?_ _)); refine blk_far ?_ NB101_118.out _; (with_reducible repeat (first | refine blk_drewN ?_ _ | refine blk_drew ?_ | refine blk_alloc ?_ _)); refine blk_far ?_ NB101_118.out _; (with_reducible repeat (first | refine blk_drewN ?_ _ | refine blk_drew ?_ | refine blk_alloc ?_ _)); exact BK101.out⟩, ⟨tB⟩⟩
       rw [if_neg c24] at H
       have c24b0 := decide_eq_false c24
       clear c24
       have H' := Aside0.mk H
       clear H
       go_wp2
       (try simp only [← hl4_2])
       (try rw [show (⟨go36, (rd x5_1 0).toNat, none⟩ : Addr) = (⟨go36, 0, none⟩ : Addr).add (rd x5_1 0).toNat from (add_plain _ _).symm])
       go_roundg k2
       case measure => have := HK1.out; have := HK2.out; omega
       case rel => exact ⟨(x4_2), (x5_2), (ji19), (by first | rfl | (simp; done) | (simp only [← hji19] <;> (first | rfl | simp)) | (simp [*]; done)), H', ⟨by have := HK1.out; have := HK2.out; omega⟩, ⟨by (try simp only [hl4_2]); (with_reducible repeat (first | apply Kd.R_alloc | apply Kd.R_drewN | apply Kd.R_drew)); exact HO_4.out⟩, ⟨by (try simp only [hl4_2]); (with_reducible repeat (first | apply Kd.Q_alloc | apply Kd.Q_drewN | apply Kd.Q_drew)); exact HO_5.out⟩, ⟨by (try simp only [hl4_2]); (with_reducible repeat (first | refine blk_drewN ?_ _ | refine blk_drew ?_ | refine blk_alloc ?_ _)); exact BK101.out⟩, ⟨tB⟩⟩
    rw [if_neg c14] at H
    have c14b0 := tdHi c14
    have c14b1 : decide (0 < x5_1.length) = false := decide_eq_false (by omega)
    clear c14
    obtain rfl := Option.some.inj H
    obtain ⟨Ao49, co49, eo49, _⟩ := Kd.Q_slice HO_5.out
    subst eo49
    go_wp2
    go_ret
    (try refine reb0_ HBS1.out ?_)
    exact ⟨tE, tB⟩
 rw [if_neg c6] at H
 exact absurd H (by simp)
def r16_single.f (l0_0 : List (List Int)) (l0_1 : List (S80)) (a0_2 : Bool) (a1 : Int) : Option (List Bool) := if 0 ≤ (l0_0.length : Int) then (if ((l0_0.length : Int) : Int).toNat ≤ 281474976710656 then ((some (List.replicate ((l0_0.length : Int) : Int).toNat false : List Bool)).bind fun y102 => (if 0 ≤ a1 then (if a1 < (y102.length : Int) then (some (y102.set (a1 : Int).toNat true)) else (none)) else (none))) else (none)) else (none)
def r16_Between.j0 : Nat → Int → Int → Bool → List (List Int) → List (S80) → Bool → Option (List Int × Bool)
 | 0, _, _, _, _, _, _ => none
 | k + 1, x1, x2, x27, x102000, x102001, x102002 => if x27 = true then (some (([] : List Int), false)) else ((r16_Table.f k x102000 x102001 x102002).bind fun t102 => ((r16_single.f x102000 x102001 x102002 x2).bind fun t105 => ((r16_follow.f k t102 x1 t105).bind fun bt108 => (some (bt108.1, bt108.2)))))
def r16_Between.f (k : Nat) (l0_0 : List (List Int)) (l0_1 : List (S80)) (a0_2 : Bool) (a1 : Int) (a2 : Int) : Option (List Int × Bool) := if a1 < 0 then (r16_Between.j0 k a1 a2 true l0_0 l0_1 a0_2) else (if a1 ≥ (l0_0.length : Int) then (r16_Between.j0 k a1 a2 true l0_0 l0_1 a0_2) else (if a2 < 0 then (r16_Between.j0 k a1 a2 true l0_0 l0_1 a0_2) else (r16_Between.j0 k a1 a2 (decide (a2 ≥ (l0_0.length : Int))) l0_0 l0_1 a0_2)))
end Go.Proofs.Ytfnjbgggmddgpaa.Q
end
section
set_option linter.unusedVariables false
set_option linter.unusedSimpArgs false
namespace Go.Proofs.Ytfnjbgggmddgpaa.Q
open Go.RowKit Go.Proofs.Fn Go.Proofs.YtfnjbgggmddgpaaW.PrintWords Go.Proofs.Gr
inductive Path (T : List (List S80)) : Nat → List Int → Nat → Prop
  | nil (s : Nat) : Path T s [] s
  | cons (s : Nat) (e : S80) (t : Nat) (l : List Int) (z : Nat) : e ∈ T.getD s [] → e.f2 = (t : Int) → Path T t l z → Path T s (e.f1 :: l) z
theorem follow_in {n : Nat} {T : List (List S80)} (hT : OkT n T) (d : List Int) (hd : d.length = n) (s : Nat) (hs : s < n) (acc : List Int) (ha : acc.length ≤ 2000000) (h1 : 0 < D d s) (h2 : D d s ≤ 2000000) :
    ∀ (m p : Nat), p + m = (T.getD s []).length → (∃ e ∈ (T.getD s []).drop p, D d e.f2.toNat = D d s - 1) →
    ∃ t : Nat, ∃ u : Int, (∃ e ∈ T.getD s [], e.f1 = u ∧ e.f2 = (t : Int)) ∧ t < n ∧ D d t = D d s - 1 ∧ (∀ r, Evn (fun k => witness_follow.l0 k (T.map (List.map pr)) d (t : Int) (acc ++ [u])) r → Evn (fun k => witness_follow.l1 k (T.map (List.map pr)) d (s : Int) acc ((T.getD s []).map pr) ((T.getD s []).length : Int) (p : Int)) r) ∧
      (∀ r, Evn (fun k => r16_follow.l0 k T d (acc ++ [u]) (t : Int)) r → Evn (fun k => r16_follow.l1 k T d acc (s : Int) (p : Int)) r) := by
  have hsm := hT.small
  have hln := hT.len
  have hrow := hT.rows s hs
  intro m
  induction m with
  | zero =>
    intro p hp he
    obtain ⟨e, he, _⟩ := he
    rw [List.drop_of_length_le (by omega)] at he
    cases he
  | succ m ih =>
    intro p hp he
    have hpl : p < (T.getD s []).length := by omega
    have hm : rd_T80 (T.getD s []) (p : Int) ∈ T.getD s [] := by rw [rd80 hpl]; exact List.getElem_mem _
    have htg := hT.tgt s hs _ hm
    obtain ⟨t, ht⟩ : ∃ t : Nat, (rd_T80 (T.getD s []) (p : Int)).f2 = (t : Int) := ⟨_, (Int.toNat_of_nonneg htg.1).symm⟩
    have htn : t < n := by omega
    have ht2 : (rd_T66 ((T.getD s []).map pr) (p : Int)).f1 = (t : Int) := by rw [rd66map]; exact ht
    have hu2 : (rd_T66 ((T.getD s []).map pr) (p : Int)).f0 = (rd_T80 (T.getD s []) (p : Int)).f1 := by rw [rd66map]; rfl
    have hw : wrap64 (D d s - 1) = D d s - 1 := by unfold wrap64; omega
    rw [drop80 hpl] at he
    by_cases c : D d t = D d s - 1
    · refine ⟨t, (rd_T80 (T.getD s []) (p : Int)).f1, ⟨_, hm, rfl, ht⟩, htn, c, fun r hr => Evn.succ ?_, fun r hr => Evn.succ ?_⟩
      · simp only [witness_follow.l1, ht2, hu2, rdD, hd, hw, List.length_map]
        iterate 9 (first | refine Evn.pos (by first | assumption | omega | (simp; done) | (simp; omega)) ?_ | refine Evn.neg (by first | assumption | omega | (simp; done) | (simp; omega)) ?_)
        exact hr
      · simp only [r16_follow.l1, rdL80, ht, rdD, hd, hln, hw]
        iterate 9 (first | refine Evn.pos (by first | assumption | omega | (simp; done) | (simp; omega)) ?_ | refine Evn.neg (by first | assumption | omega | (simp; done) | (simp; omega)) ?_)
        exact hr
    · obtain ⟨t2, u, h0, h3, h4, h5, h6⟩ := ih (p + 1) (by omega) (by
        obtain ⟨e, he, h⟩ := he
        rcases List.mem_cons.1 he with rfl | he
        · rw [ht, Int.toNat_natCast] at h; exact absurd h c
        · exact ⟨e, he, h⟩)
      refine ⟨t2, u, h0, h3, h4, fun r hr => Evn.succ ?_, fun r hr => Evn.succ ?_⟩
      · have := h5 r hr
        simp only [witness_follow.l1, ht2, hu2, rdD, hd, hw, List.length_map, wrap_succ (show p < 9223372036854775807 by omega)]
        iterate 8 (first | refine Evn.pos (by first | assumption | omega | (simp; done) | (simp; omega)) ?_ | refine Evn.neg (by first | assumption | omega | (simp; done) | (simp; omega)) ?_)
        exact this
      · have := h6 r hr
        simp only [r16_follow.l1, rdL80, ht, rdD, hd, hln, hw, wrap_succ (show p < 9223372036854775807 by omega)]
        iterate 8 (first | refine Evn.pos (by first | assumption | omega | (simp; done) | (simp; omega)) ?_ | refine Evn.neg (by first | assumption | omega | (simp; done) | (simp; omega)) ?_)
        exact this
theorem follow_both {n : Nat} {T : List (List S80)} (hT : OkT n T) {g : Nat → Prop} (d : List Int) (hd : d.length = n) (hL : Lab n (E T) g (D d)) :
    ∀ (m s : Nat) (acc : List Int), s < n → D d s = m → acc.length + m ≤ 2000000 →
    ∃ r, (∃ l t, r = acc ++ l ∧ l.length = m ∧ Path T s l t ∧ t < n ∧ g t) ∧ Evn (fun k => witness_follow.l0 k (T.map (List.map pr)) d (s : Int) acc) r ∧ Evn (fun k => r16_follow.l0 k T d acc (s : Int)) (r, true) := by
  have hsm := hT.small
  have hln := hT.len
  intro m
  induction m with
  | zero =>
    intro s acc hs h0 ha
    refine ⟨acc, ⟨[], s, by simp, rfl, .nil s, hs, (hL.zero s hs).1 h0⟩, Evn.succ ?_, Evn.succ ?_⟩
    · simp only [witness_follow.l0, rdD, hd]
      iterate 3 (first | refine Evn.pos (by first | assumption | omega | (simp; done) | (simp; omega)) ?_ | refine Evn.neg (by first | assumption | omega | (simp; done) | (simp; omega)) ?_)
      exact Evn.const _
    · simp only [r16_follow.l0, rdD, hd]
      iterate 3 (first | refine Evn.pos (by first | assumption | omega | (simp; done) | (simp; omega)) ?_ | refine Evn.neg (by first | assumption | omega | (simp; done) | (simp; omega)) ?_)
      exact Evn.const _
  | succ m ih =>
    intro s acc hs h0 ha
    obtain ⟨j, hj, ⟨e, he, ht⟩, hdj⟩ := hL.step s hs (by omega)
    obtain ⟨t, u, ⟨e, he, hu, het⟩, h1, h2, h3, h4⟩ := follow_in hT d hd s hs acc (by omega) (by omega) (by omega) _ 0 (by rw [Nat.zero_add]) ⟨e, by simpa using he, by rw [ht, Int.toNat_natCast]; exact hdj⟩
    obtain ⟨r, ⟨l, z, hl, hlm, hpath, hz, hgz⟩, hr1, hr2⟩ := ih t (acc ++ [u]) h1 (by omega) (by simp; omega)
    refine ⟨r, ⟨u :: l, z, by rw [hl]; simp, by simp [hlm], hu ▸ Path.cons s e t l z he het hpath, hz, hgz⟩, Evn.succ ?_, Evn.succ ?_⟩
    · simp only [witness_follow.l0, rdD, hd, List.length_map, hln, rdmap]
      iterate 4 (first | refine Evn.pos (by first | assumption | omega | (simp; done) | (simp; omega)) ?_ | refine Evn.neg (by first | assumption | omega | (simp; done) | (simp; omega)) ?_)
      exact h3 r hr1
    · simp only [r16_follow.l0, rdD, hd]
      iterate 3 (first | refine Evn.pos (by first | assumption | omega | (simp; done) | (simp; omega)) ?_ | refine Evn.neg (by first | assumption | omega | (simp; done) | (simp; omega)) ?_)
      exact h4 _ hr2
structure Found (n : Nat) (T : List (List S80)) (g : Nat → Bool) (a : Int) (l : List Int) (ok : Bool) : Prop where
  out : ¬ (0 ≤ a ∧ a < (n : Int)) → l = [] ∧ ok = false
  len : ∀ s : Nat, a = (s : Int) → s < n → ∀ d, Lab n (E T) (fun i => g i = true) d → (l.length : Int) = (if d s < 0 then 0 else d s) ∧ (ok = true ↔ 0 ≤ d s)
  no : ok = false → l = []
  way : ok = true → ∃ s t : Nat, a = (s : Int) ∧ s < n ∧ t < n ∧ Path T s l t ∧ g t = true
theorem search_both {n : Nat} {T : List (List S80)} (hT : OkT n T) (φ : Int → Option Bool) (g : Nat → Bool) (hg : ∀ i, i < n → φ (i : Int) = some (g i)) (a : Int) :
    ∃ l ok, Found n T g a l ok ∧ Evn (fun k => witness_search.f k (T.map (List.map pr)) a φ) (l, ok) ∧ Evn (fun k => r16_follow.f k T a ((List.range n).map g)) (l, ok) := by
  have hsm := hT.small
  have hln := hT.len
  by_cases ha : 0 ≤ a ∧ a < (n : Int)
  · obtain ⟨s, rfl⟩ : ∃ s : Nat, a = (s : Int) := ⟨a.toNat, by omega⟩
    have hs : s < n := by omega
    obtain ⟨d, ⟨hd, hL, hle⟩, hev⟩ := distances_ev hT φ g hg
    obtain ⟨d', ⟨hd', hL'⟩, hev'⟩ := rdistances_ev hT g
    obtain rfl : d = d' := by
      apply List.ext_getElem (by omega)
      intro i h1 h2
      have := hL.unique hL' i (by omega)
      simpa [D, h1, h2] using this
    have wit : ∀ r, Evn (fun k => (witness_distances.f k (T.map (List.map pr)) φ).bind fun t101 => (if 0 ≤ (s : Int) then (if (s : Int) < (t101.length : Int) then (if (rd t101 (s : Int)) < 0 then (some (([] : List Int), false)) else ((witness_follow.f k (T.map (List.map pr)) t101 (s : Int)).bind fun t105 => (some (t105, true)))) else (none)) else (none))) r → Evn (fun k => witness_search.f k (T.map (List.map pr)) (s : Int) φ) r := by
      intro r hr
      simp only [witness_search.f, List.length_map, hln]
      (first | refine Evn.pos (by first | assumption | omega | (simp; done) | (simp; omega)) ?_ | refine Evn.neg (by first | assumption | omega | (simp; done) | (simp; omega)) ?_)
      refine Evn.succ ?_
      simp only [witness_search.j0]
      refine Evn.neg (by simp; omega) ?_
      exact hr
    have ref : ∀ r, Evn (fun k => (r16_distances.f k T ((List.range n).map g)).bind fun t101 => (if 0 ≤ (s : Int) then (if (s : Int) < (t101.length : Int) then (if (rd t101 (s : Int)) < 0 then (some (([] : List Int), false)) else (r16_follow.l0 k T t101 ([] : List Int) (s : Int))) else (none)) else (none))) r → Evn (fun k => r16_follow.f k T (s : Int) ((List.range n).map g)) r := by
      intro r hr
      simp only [r16_follow.f, hln]
      (first | refine Evn.pos (by first | assumption | omega | (simp; done) | (simp; omega)) ?_ | refine Evn.neg (by first | assumption | omega | (simp; done) | (simp; omega)) ?_)
      refine Evn.succ ?_
      simp only [r16_follow.j0]
      refine Evn.neg (by simp; omega) ?_
      exact hr
    by_cases c : D d s < 0
    · refine ⟨[], false, ⟨fun _ => ⟨rfl, rfl⟩, fun s' hs' hsn d' hd' => ?_, fun _ => rfl, (fun h => by cases h)⟩, wit _ (Evn.bind hev ?_), ref _ (Evn.bind hev' ?_)⟩
      · obtain rfl : s = s' := by omega
        rw [← hL.unique hd' s hs, if_pos c]
        exact ⟨rfl, by simp; omega⟩
      · simp only [rdD, hd]
        iterate 3 (first | refine Evn.pos (by first | assumption | omega | (simp; done) | (simp; omega)) ?_ | refine Evn.neg (by first | assumption | omega | (simp; done) | (simp; omega)) ?_)
        exact Evn.const _
      · simp only [rdD, hd]
        iterate 3 (first | refine Evn.pos (by first | assumption | omega | (simp; done) | (simp; omega)) ?_ | refine Evn.neg (by first | assumption | omega | (simp; done) | (simp; omega)) ?_)
        exact Evn.const _
    · have hle2 := hle s hs
      obtain ⟨r, ⟨l, t, hl, hlm, hpath, htn, hgt⟩, h1, h2⟩ := follow_both hT d hd hL (D d s).toNat s [] hs (by omega) (by simp; omega)
      obtain rfl : r = l := by simpa using hl
      refine ⟨r, true, ⟨fun h => absurd ha h, fun s' hs' hsn d' hd' => ?_, (fun h => by cases h), fun _ => ⟨s, t, rfl, hs, htn, hpath, hgt⟩⟩, wit _ (Evn.bind hev ?_), ref _ (Evn.bind hev' ?_)⟩
      · obtain rfl : s = s' := by omega
        rw [← hL.unique hd' s hs, if_neg c]
        exact ⟨by omega, by simp; omega⟩
      · simp only [rdD, hd]
        iterate 3 (first | refine Evn.pos (by first | assumption | omega | (simp; done) | (simp; omega)) ?_ | refine Evn.neg (by first | assumption | omega | (simp; done) | (simp; omega)) ?_)
        refine Evn.bind (a := r) ?_ (Evn.const _)
        exact h1
      · simp only [rdD, hd]
        iterate 3 (first | refine Evn.pos (by first | assumption | omega | (simp; done) | (simp; omega)) ?_ | refine Evn.neg (by first | assumption | omega | (simp; done) | (simp; omega)) ?_)
        exact h2
  · refine ⟨[], false, ⟨fun _ => ⟨rfl, rfl⟩, fun s hs hsn => by omega, fun _ => rfl, (fun h => by cases h)⟩, ?_, ?_⟩
    · simp only [witness_search.f, List.length_map, hln]
      by_cases c : a < 0
      · refine Evn.pos c (Evn.succ ?_)
        simp only [witness_search.j0]
        (first | refine Evn.pos (by first | assumption | omega | (simp; done) | (simp; omega)) ?_ | refine Evn.neg (by first | assumption | omega | (simp; done) | (simp; omega)) ?_)
        exact Evn.const _
      · refine Evn.neg c (Evn.succ ?_)
        simp only [witness_search.j0]
        refine Evn.pos (by simp; omega) ?_
        exact Evn.const _
    · simp only [r16_follow.f, hln]
      by_cases c : a < 0
      · refine Evn.pos c (Evn.succ ?_)
        simp only [r16_follow.j0]
        (first | refine Evn.pos (by first | assumption | omega | (simp; done) | (simp; omega)) ?_ | refine Evn.neg (by first | assumption | omega | (simp; done) | (simp; omega)) ?_)
        exact Evn.const _
      · refine Evn.neg c (Evn.succ ?_)
        simp only [r16_follow.j0]
        refine Evn.pos (by simp; omega) ?_
        exact Evn.const _
end Go.Proofs.Ytfnjbgggmddgpaa.Q
end
section
namespace Go.Proofs.Ytfnjbgggmddgpaa.Q
open Go.RowKit Go.Proofs.Fn Go.Proofs.YtfnjbgggmddgpaaW.PrintWords Go.Proofs.YtfnjbgggmddgpaaW.PrintLast Go.Proofs.YtfnjbgggmddgpaaW.PrintMore
attribute [local go_sem] max2_int min2_int max_two min_two max_three min_three max_four min_four
set_option linter.unusedVariables false
set_option linter.unusedSimpArgs false
def r04_Same.l0 : Nat → List Int → List Int → Int → Option (Bool)
 | 0, _, _, _ => none
 | k + 1, x0, x1, x5 => if x5 < (x0.length : Int) then (if 0 ≤ x5 then (if x5 < (x1.length : Int) then (if (rd x0 x5) = (rd x1 x5) then (r04_Same.l0 k x0 x1 (wrap64 (x5 + 1))) else (some false)) else (none)) else (none)) else (some true)
def r04_Same.f (k : Nat) (l0 : List Int) (l1 : List Int) : Option (Bool) := if (l0.length : Int) = (l1.length : Int) then (r04_Same.l0 k l0 l1 0) else (some false)
set_option maxHeartbeats 8000000 in
set_option maxRecDepth 100000 in
theorem r04_Same.calls (k : Nat) (A0 : Option Addr) (c0 : Nat) (l0 : List Int) (A1 : Option Addr) (c1 : Nat) (l1 : List Int) (r : Bool) (w : World) (hr0 : Kd.C (Kd.int .i64) w A0 l0.length l0) (hc0 : l0.length ≤ c0) (hr1 : Kd.C (Kd.int .i64) w A1 l1.length l1) (hc1 : l1.length ≤ c1) (h : r04_Same.f k l0 l1 = some r) :
  Calls Try.prog 13 #[.slice A0 l0.length c0, .slice A1 l1.length c1] w fun e w' => e = .returned (.bool r) ∧ Drawn0 w w' := by
 have HR0 := Aside0.mk hr0
 have HC0 := Aside0.mk hc0
 clear hr0 hc0
 have HR1 := Aside0.mk hr1
 have HC1 := Aside0.mk hc1
 clear hr1 hc1
 have H : (if (l0.length : Int) = (l1.length : Int) then (r04_Same.l0 k l0 l1 0) else (some false)) = some r := h
 clear h
 by_cases c3 : (l0.length : Int) = (l1.length : Int)
 ·rw [if_pos c3] at H
  have c3b0 := beq_iff_eq.mpr c3
  have c3b1 := bne_eq_false_iff_eq.mpr c3
  have c3b2 : (l0.length == l1.length) = true := by first | simpa using c3 | (simp at c3 ⊢; omega)
  clear c3
  have H' := Aside0.mk H
  clear H
  go_enter Try.func13, Try.ntmps13
  go_wp2
  repeat (go_quiet (fail); try go_wp2)
  go_loopg [5] k (fun kq v5 w' => ∃ (x5_1 : Int), v5 = .int .i64 x5_1 ∧ Aside0 (r04_Same.l0 kq l0 l1 x5_1 = some r) ∧ Aside0 (kq ≤ k) ∧ Drawn0 w w')
  case atStart => exact ⟨(0), tU, H', ⟨Nat.le_refl _⟩, by repeat (first | exact Drawn0.refl _ | apply Drawn0.step)⟩
  case round =>
   clear H'
   (try clear c1); (try clear p2); (try clear c3); (try clear c3b0); (try clear c3b1); (try clear c3b2)
   obtain ⟨x5_1, rfl, HA, HK1, ⟨m1, rfl⟩⟩ := hrel
   cases gk with
   | zero => exact absurd HA.out (by simp [r04_Same.l0])
   | succ k1 =>
    have H := HA.out
    clear HA
    simp only [r04_Same.l0] at H
    by_cases c4 : x5_1 < (l0.length : Int)
    ·rw [if_pos c4] at H
     have c4b0 := decide_eq_true c4
     clear c4
     replace H := tF H
     obtain ⟨c5, H⟩ := H
     have c5b0 := decide_eq_true c5
     clear c5
     replace H := tF H
     obtain ⟨c6, H⟩ := H
     have c6b0 := decide_eq_true c6
     clear c6
     by_cases c7 : (rd l0 x5_1) = (rd l1 x5_1)
     ·rw [if_pos c7] at H
      have c7b0 := beq_iff_eq.mpr c7
      have c7b1 := bne_eq_false_iff_eq.mpr c7
      clear c7
      have H' := Aside0.mk H
      clear H
      have p101 : 0 ≤ (x5_1 : Int) := tD
      have q101 : x5_1 < (l0.length : Int) := tD
      obtain ⟨ad101, e101, hx101_0⟩ := Kd.at_int HR0.out x5_1 p101 q101
      cases e101
      replace p101 := eq_true p101
      replace q101 := eq_true q101
      have p102 : 0 ≤ (x5_1 : Int) := tD
      have q102 : x5_1 < (l1.length : Int) := tD
      obtain ⟨ad102, e102, hx102_0⟩ := Kd.at_int HR1.out x5_1 p102 q102
      cases e102
      replace p102 := eq_true p102
      replace q102 := eq_true q102
      go_wp2
      repeat (go_quiet (fail); try go_wp2)
      go_roundg k1
      case measure => have := HK1.out; omega
      case rel => exact ⟨(wrap64 (x5_1 + 1)), tU, H', ⟨by have := HK1.out; omega⟩, by repeat (first | exact Drawn0.refl _ | apply Drawn0.step)⟩
     rw [if_neg c7] at H
     have c7b0 := beq_eq_false_iff_ne.mpr c7
     have c7b1 := bne_iff_ne.mpr c7
     obtain rfl := Option.some.inj H
     have p101 : 0 ≤ (x5_1 : Int) := tD
     have q101 : x5_1 < (l0.length : Int) := tD
     obtain ⟨ad101, e101, hx101_0⟩ := Kd.at_int HR0.out x5_1 p101 q101
     cases e101
     replace p101 := eq_true p101
     replace q101 := eq_true q101
     have p102 : 0 ≤ (x5_1 : Int) := tD
     have q102 : x5_1 < (l1.length : Int) := tD
     obtain ⟨ad102, e102, hx102_0⟩ := Kd.at_int HR1.out x5_1 p102 q102
     cases e102
     replace p102 := eq_true p102
     replace q102 := eq_true q102
     go_wp2
     repeat (go_quiet (fail); try go_wp2)
     go_ret
     exact ⟨by first | rfl | (simp; done) | (simp [*]; done), by repeat (first | exact Drawn0.refl _ | apply Drawn0.step)⟩
    rw [if_neg c4] at H
    have c4b0 := decide_eq_false c4
    clear c4
    obtain rfl := Option.some.inj H
    go_wp2
    repeat (go_quiet (fail); try go_wp2)
    go_ret
    exact ⟨by first | rfl | (simp; done) | (simp [*]; done), by repeat (first | exact Drawn0.refl _ | apply Drawn0.step)⟩
 rw [if_neg c3] at H
 have c3b0 := beq_eq_false_iff_ne.mpr c3
 have c3b1 := bne_iff_ne.mpr c3
 have c3b2 : (l0.length == l1.length) = false := by first | simpa using c3 | (simp at c3 ⊢; omega)
 obtain rfl := Option.some.inj H
 go_enter Try.func13, Try.ntmps13
 go_wp2
 repeat (go_quiet (fail); try go_wp2)
 go_ret
 exact ⟨by first | rfl | (simp; done) | (simp [*]; done), by repeat (first | exact Drawn0.refl _ | apply Drawn0.step)⟩
def l16_step.f  : Option ((List (List Int)) × (List (S80)) × Bool) := some ((([(([1] : List Int)), (([0] : List Int))] : List (List Int))), (([(⟨0, 0, 1⟩ : S80)] : List (S80))), true)
set_option maxHeartbeats 8000000 in
set_option maxRecDepth 100000 in
theorem l16_step.calls  (r1 : List (List Int)) (r2 : List (S80)) (r3 : Bool) (w : World) (h : l16_step.f  = some (r1, r2, r3)) :
  Calls Try.prog 33 #[] w fun e w' => ∃ v0_ v1_ : Value, e = .returned (.agg #[v0_, v1_, .bool r3]) ∧ Kd.N (Kd.slice 3 (Kd.int .i64)) 28 w' w.heap.size (fun k_ => (w.heap.size ≤ k_) ∧ some k_ ≠ (v1_ : Value).ownBlock) v0_ r1 ∧ Kd.R k80 80 w' w.heap.size (fun k_ => (w.heap.size ≤ k_)) v1_ r2 ∧ Below w.heap.size w w' := by
 have hu25 := Try.underlying25
 have hu80 := Try.underlying80
 have HB := Aside0.mk (Below.refl w.heap.size w)
 have H : (some ((([(([1] : List Int)), (([0] : List Int))] : List (List Int))), (([(⟨0, 0, 1⟩ : S80)] : List (S80))), true)) = some (r1, r2, r3) := h
 clear h
 obtain ⟨y102, hy102⟩ : ∃ y_ : List Int, y_ = (([1] : List Int)) := ⟨_, rfl⟩
 replace H : (some ((([y102, (([0] : List Int))] : List (List Int))), (([(⟨0, 0, 1⟩ : S80)] : List (S80))), true)) = some (r1, r2, r3) := tQ hy102 H
 have Ny102 := Aside0.mk hy102
 clear hy102
 obtain ⟨y105, hy105⟩ : ∃ y_ : List Int, y_ = (([0] : List Int)) := ⟨_, rfl⟩
 replace H : (some ((([y102, y105] : List (List Int))), (([(⟨0, 0, 1⟩ : S80)] : List (S80))), true)) = some (r1, r2, r3) := tQ hy105 H
 have Ny105 := Aside0.mk hy105
 clear hy105
 obtain ⟨y108, hy108⟩ : ∃ y_ : List (List Int), y_ = (([y102, y105] : List (List Int))) := ⟨_, rfl⟩
 replace H : (some (y108, (([(⟨0, 0, 1⟩ : S80)] : List (S80))), true)) = some (r1, r2, r3) := tQ hy108 H
 have Ny108 := Aside0.mk hy108
 clear hy108
 obtain ⟨y111, hy111⟩ : ∃ y_ : List (S80), y_ = (([(⟨0, 0, 1⟩ : S80)] : List (S80))) := ⟨_, rfl⟩
 replace H : (some (y108, y111, true)) = some (r1, r2, r3) := tQ hy111 H
 have Ny111 := Aside0.mk hy111
 clear hy111
 simp only [Option.some.injEq, Prod.mk.injEq] at H
 obtain ⟨rfl, rfl, rfl⟩ := H
 go_enter Try.func33, Try.ntmps33
 go_wp2_with (first | ((with_reducible refine gate_dst (N := 0) rfl ?_); refine tBx 0 25 #[.slice none 0 0, .slice none 0 0, .bool false] ?_; intro gb101 hg w1 hbox hb; have BK101 := Aside0.mk (hbox); have GW101 := tW HB hg; have GE101 := tW HB hg; replace HB := tA HB hb; clear hb hbox hg) | ((with_reducible refine gate_dst (N := 1) rfl ?_); refine Kd.R_lit (Kd.int .i64) _ 3 ?hg (N := 1) ?hd (xs := ([1] : List Int)) (inner := [.int .i64 1]) (ok := fun _ => True) (okp := fun _ => True) ?hr ?hp (fun _ hk => hk) trivial (Below.refl _ _) (Nat.le_refl _) (by simp) ?_; (case hd => rfl); (case hg => rfl); (case hr => first | (go_simp; done) | (go_simp; rfl)); (case hp => exact (Reps.one (show Kd.M (Kd.int .i64) _ _ _ 1 [.int .i64 1] from rfl) (Reps.none _ _))); intro v103 w2 ho3 hb hg_ hnew_; clear hg_ hnew_; (first | rw [← Ny102.out] at ho3 | (simp only [Int.reduceToNat] at ho3; rw [← Ny102.out] at ho3)); have HO104 := Aside0.mk (Kd.R_lower (Kd.R_newM (M := fun k_ => (w.heap.size ≤ k_)) ho3 (below_size (tB)) (fun k_ h_ => h_)) (below_size (tB))); replace BK101 := tL BK101 hb; replace HB := tA HB hb; clear hb ho3) | ((with_reducible refine gate_dst (N := 2) rfl ?_); refine Kd.R_lit (Kd.int .i64) _ 3 ?hg (N := 2) ?hd (xs := ([0] : List Int)) (inner := [.int .i64 0]) (ok := fun _ => True) (okp := fun _ => True) ?hr ?hp (fun _ hk => hk) trivial (Below.refl _ _) (Nat.le_refl _) (by simp) ?_; (case hd => rfl); (case hg => rfl); (case hr => first | (go_simp; done) | (go_simp; rfl)); (case hp => exact (Reps.one (show Kd.M (Kd.int .i64) _ _ _ 0 [.int .i64 0] from rfl) (Reps.none _ _))); intro v106 w4 ho5 hb hg_ hnew_; clear hg_ hnew_; (first | rw [← Ny105.out] at ho5 | (simp only [Int.reduceToNat] at ho5; rw [← Ny105.out] at ho5)); have HO107 := Aside0.mk (Kd.R_lower (Kd.R_new' (Kd.R_newM (M := fun k_ => (w.heap.size ≤ k_)) ho5 (below_size (tB)) (fun k_ h_ => h_)) (Kd.R_lt (tR HO104))) (below_size (tB))); replace HO104 := Aside0.mk (Kd.R_elder' (tR HO104) (Kd.R_base ho5) hb); replace BK101 := tL BK101 hb; replace HB := tA HB hb; clear hb ho5; obtain ⟨Ao6, co6, eo6⟩ := Kd.R_slice HO104.out; subst eo6; obtain ⟨Ao7, co7, eo7⟩ := Kd.R_slice HO107.out; subst eo7) | ((with_reducible refine gate_dst (N := 3) rfl ?_); refine Kd.N_lit (Kd.slice 3 (Kd.int .i64)) _ 28 ?hg (N' := 3) ?hd (xs := ([y102, y105] : List (List Int))) (inner := [.slice Ao6 y102.length co6, .slice Ao7 y105.length co7]) (ok := (fun k_ => (w.heap.size ≤ k_) ∧ k_ ≠ gb101)) (okp := (fun k_ => (w.heap.size ≤ k_) ∧ k_ ≠ gb101)) ?hr ?hp (fun _ hk => hk) ((show ∀ k_, w4.heap.size ≤ k_ → (fun k_ => (w.heap.size ≤ k_) ∧ k_ ≠ gb101) k_ from fun k_ hk => ⟨(Nat.le_trans (below_size (tB)) hk), Kd.freshB (g := gb101) (o := .cells #[.slice none 0 0, .slice none 0 0, .bool false] 25 (0, 0)) (tK BK101) k_ hk⟩) _ (Nat.le_refl _)) (Below.refl _ _) (Nat.le_refl _) (by simp) ?_; (case hd => rfl); (case hg => rfl); (case hr => first | (go_simp; done) | (go_simp; rfl)); (case hp => exact (Reps.one (show Kd.FK (Kd.slice 3 (Kd.int .i64)) _ _ y102 [.slice Ao6 y102.length co6] from (Kd.FK_slice_mk (Kd.R_reads' (Kd.R_mono (ok' := (fun k_ => (w.heap.size ≤ k_) ∧ k_ ≠ gb101)) (Kd.R_types (HO104.out) BK101.out (by decide)) (fun k_ hk => ⟨hk.1.1.1, hk.2⟩))).2.1 (Kd.R_F (Kd.R_mono (ok' := (fun k_ => (w.heap.size ≤ k_) ∧ k_ ≠ gb101)) (Kd.R_types (HO104.out) BK101.out (by decide)) (fun k_ hk => ⟨hk.1.1.1, hk.2⟩))))) (Reps.one (show Kd.FK (Kd.slice 3 (Kd.int .i64)) _ _ y105 [.slice Ao7 y105.length co7] from (Kd.FK_slice_mk (Kd.R_reads' (Kd.R_mono (ok' := (fun k_ => (w.heap.size ≤ k_) ∧ k_ ≠ gb101)) (Kd.R_types (HO107.out) BK101.out (by decide)) (fun k_ hk => ⟨hk.1.1.1, hk.2⟩))).2.1 (Kd.R_F (Kd.R_mono (ok' := (fun k_ => (w.heap.size ≤ k_) ∧ k_ ≠ gb101)) (Kd.R_types (HO107.out) BK101.out (by decide)) (fun k_ hk => ⟨hk.1.1.1, hk.2⟩))))) (Reps.none _ _)))); intro v109 w8 ho9 hb hg_ hnew_; clear hg_ hnew_; (first | rw [← Ny108.out] at ho9 | (simp only [Int.reduceToNat] at ho9; rw [← Ny108.out] at ho9)); have HO110 := Aside0.mk (Kd.N_lower ho9 (below_size (tB))); replace BK101 := tL BK101 hb; replace HB := tA HB hb; clear HO104 HO107; clear hb ho9) | ((with_reducible refine gate_dst (N := 5) rfl ?_); refine Kd.R_lit k80 _ 80 ?hg (N := 5) ?hd (xs := ([(⟨0, 0, 1⟩ : S80)] : List (S80))) (inner := [.int .i64 0, .int .i64 0, .int .i64 1]) (ok := fun _ => True) (okp := fun _ => True) ?hr ?hp (fun _ hk => hk) trivial (Below.refl _ _) (Nat.le_refl _) (by simp) ?_; (case hd => rfl); (case hg => rfl); (case hr => first | (go_simp; done) | (go_simp; rfl)); (case hp => exact (Reps.c3 (show Kd.M k80 _ _ _ (⟨0, 0, 1⟩ : S80) [.int .i64 0, .int .i64 0, .int .i64 1] from (k80_mkM _ _ _ (⟨0, 0, 1⟩ : S80) )) (Reps.none _ _))); intro v112 w10 ho11 hb hg_ hnew_; clear hg_ hnew_; (first | rw [← Ny111.out] at ho11 | (simp only [Int.reduceToNat] at ho11; rw [← Ny111.out] at ho11)); replace HO110 := Aside0.mk (Kd.N_elder' (tR HO110) (Kd.R_base ho11) hb); have HO113 := Aside0.mk (Kd.R_lower (Kd.R_newM (M := fun k_ => (w.heap.size ≤ k_)) ho11 (below_size (tB)) (fun k_ h_ => h_)) (below_size (tB))); replace BK101 := tL BK101 hb; replace HB := tA HB hb; clear hb ho11; obtain ⟨Ao12, co12, eo12⟩ := Kd.R_slice HO113.out; subst eo12; obtain ⟨Ao13, co13, eo13⟩ := Kd.N_slice HO110.out; subst eo13; obtain ⟨hcz14_0, hcz14_1, hcz14_2, hfz14_0, hfz14_1, hfz14_2⟩ := zc3 BK101))
 refine bodyPost_ret (results_cell_row rfl _ _ gb101 25 #[.slice Ao13 y108.length co13, .slice Ao12 y111.length co12, .bool true] (0, 0) _ rfl (by (with_reducible repeat (first | refine blk_drewN ?_ _ | refine blk_drew ?_ | refine blk_alloc ?_ _)); refine blk_put (cs := #[.slice Ao13 y108.length co13, .slice Ao12 y111.length co12, .bool false]) ?_ 2 _ rfl; (with_reducible repeat (first | refine blk_drewN ?_ _ | refine blk_drew ?_ | refine blk_alloc ?_ _)); refine blk_put (cs := #[.slice Ao13 y108.length co13, .slice none 0 0, .bool false]) ?_ 1 _ rfl; (with_reducible repeat (first | refine blk_drewN ?_ _ | refine blk_drew ?_ | refine blk_alloc ?_ _)); refine blk_put (cs := #[.slice none 0 0, .slice none 0 0, .bool false]) ?_ 0 _ rfl; (with_reducible repeat (first | refine blk_drewN ?_ _ | refine blk_drew ?_ | refine blk_alloc ?_ _)); exact BK101.out) Try.underlying25 rfl (by kernel_rfl)) rfl ?_
 exact ⟨_, _, tE, by (with_reducible repeat (first | apply Kd.N_alloc | apply Kd.N_drewN | apply Kd.N_drew)); exact Kd.N_mono (Kd.N_far (p := ⟨gb101, 2, none⟩) (Kd.N_far (p := ⟨gb101, 1, none⟩) (Kd.N_far (p := ⟨gb101, 0, none⟩) (Kd.N_mono HO110.out (fun k_ hk => (⟨hk, hk.1.2⟩ : _ ∧ k_ ≠ gb101))) (fun _ hk => hk.2) (.slice Ao13 y108.length co13)) (fun _ hk => hk.2) (.slice Ao12 y111.length co12)) (fun _ hk => hk.2) (.bool true)) (fun _ hk => ⟨hk.1.1.1, hk.1.2⟩), by (with_reducible repeat (first | apply Kd.R_alloc | apply Kd.R_drewN | apply Kd.R_drew)); exact Kd.R_mono (Kd.R_far (p := ⟨gb101, 2, none⟩) (Kd.R_far (p := ⟨gb101, 1, none⟩) (Kd.R_far (p := ⟨gb101, 0, none⟩) (Kd.R_types HO113.out BK101.out (by decide)) (fun _ hk => hk.2) (.slice Ao13 y108.length co13)) (fun _ hk => hk.2) (.slice Ao12 y111.length co12)) (fun _ hk => hk.2) (.bool true)) (fun _ hk => hk.1.1), tB⟩
def l16_alive.f (k : Nat)  : Option (Bool) := (l16_step.f).bind fun bt101 => ((witness_Dead.f k bt101.1 bt101.2.1 bt101.2.2).bind fun bt108 => (if bt108.2 = true then ((r04_Same.f k bt108.1 (([0] : List Int))).bind fun t115 => (if t115 = true then ((l16_step.f).bind fun bt116 => ((witness_Diameter.f k bt116.1 bt116.2.1 bt116.2.2).bind fun t123 => (if t123 = 1 then ((witness_Diameter.f k ([] : List (List Int)) ([] : List (S80)) false).bind fun t124 => (some (t124 == (-1)))) else (some false)))) else (some false))) else (some false)))
set_option maxHeartbeats 8000000 in
set_option maxRecDepth 100000 in
theorem l16_alive.calls (k : Nat)  (r : Bool) (w : World) (h : l16_alive.f k  = some r) :
  Calls Try.prog 10 #[] w fun e w' => e = .returned (.bool r) ∧ Below w.heap.size w w' := by
 have hu25 := Try.underlying25
 have HB := Aside0.mk (Below.refl w.heap.size w)
 have H : ((l16_step.f).bind fun bt101 => ((witness_Dead.f k bt101.1 bt101.2.1 bt101.2.2).bind fun bt108 => (if bt108.2 = true then ((r04_Same.f k bt108.1 (([0] : List Int))).bind fun t115 => (if t115 = true then ((l16_step.f).bind fun bt116 => ((witness_Diameter.f k bt116.1 bt116.2.1 bt116.2.2).bind fun t123 => (if t123 = 1 then ((witness_Diameter.f k ([] : List (List Int)) ([] : List (S80)) false).bind fun t124 => (some (t124 == (-1)))) else (some false)))) else (some false))) else (some false)))) = some r := h
 clear h
 replace H := Option.bind_eq_some_iff.mp H
 obtain ⟨⟨t101, t104, t107⟩, A10, H⟩ := H
 (try dsimp only at H)
 have A1 := Aside0.mk A10
 clear A10
 replace H := Option.bind_eq_some_iff.mp H
 obtain ⟨⟨t108, t111⟩, A20, H⟩ := H
 (try dsimp only at H)
 have A2 := Aside0.mk A20
 clear A20
 by_cases c3 : t111 = true
 ·subst c3
  rw [if_pos rfl] at H
  obtain ⟨y112, hy112⟩ : ∃ y_ : List Int, y_ = (([0] : List Int)) := ⟨_, rfl⟩
  replace H : ((r04_Same.f k t108 y112).bind fun t115 => (if t115 = true then ((l16_step.f).bind fun bt116 => ((witness_Diameter.f k bt116.1 bt116.2.1 bt116.2.2).bind fun t123 => (if t123 = 1 then ((witness_Diameter.f k ([] : List (List Int)) ([] : List (S80)) false).bind fun t124 => (some (t124 == (-1)))) else (some false)))) else (some false))) = some r := tQ hy112 H
  have Ny112 := Aside0.mk hy112
  clear hy112
  replace H := Option.bind_eq_some_iff.mp H
  obtain ⟨t115, A40, H⟩ := H
  (try dsimp only at H)
  have A4 := Aside0.mk A40
  clear A40
  by_cases c5 : t115 = true
  ·subst c5
   rw [if_pos rfl] at H
   replace H := Option.bind_eq_some_iff.mp H
   obtain ⟨⟨t116, t119, t122⟩, A60, H⟩ := H
   (try dsimp only at H)
   have A6 := Aside0.mk A60
   clear A60
   replace H := Option.bind_eq_some_iff.mp H
   obtain ⟨t123, A70, H⟩ := H
   (try dsimp only at H)
   have A7 := Aside0.mk A70
   clear A70
   by_cases c8 : t123 = 1
   ·rw [if_pos c8] at H
    have c8b0 := beq_iff_eq.mpr c8
    have c8b1 := bne_eq_false_iff_eq.mpr c8
    clear c8
    replace H := Option.bind_eq_some_iff.mp H
    obtain ⟨t124, A90, H⟩ := H
    (try dsimp only at H)
    have A9 := Aside0.mk A90
    clear A90
    obtain rfl := Option.some.inj H
    go_enter Try.func10, Try.ntmps10
    go_wp2_with (first | ((with_reducible refine gate_callee (f := 33) rfl ?_); refine goesL_ (some 4) rfl rfl Try.func33 (by kernel_rfl) rfl #[] rfl (by (try simp only [List.map_toArray, List.map_cons, List.map_nil]); first | done | rfl | (simp only [List.length_drop, List.length_take]; rfl)) ?_; (with_reducible refine (l16_step.calls  t101 t104 t107 _ A1.out).mono ?_); rintro e w10 ⟨v102, v105, rfl, ho0, ho1, hb⟩; refine ⟨_, rfl, ?_⟩; have HO103 := Aside0.mk (Kd.N_lower (Kd.N_mono (ok' := fun k_ => some k_ ≠ (v105 : Value).ownBlock) ho0 (fun k_ hk_ => hk_.2)) (below_size (tB))); have HO106 := Aside0.mk (Kd.R_lower (Kd.R_mono (ok' := fun k_ => True) ho1 (fun _ hk_ => trivial)) (below_size (tB))); replace HB := tA HB hb; (try clear hb); (try clear hb2); (try clear hk); (try clear hi); (try clear ho0); (try clear ho1); obtain ⟨Ao11, co11, eo11⟩ := Kd.N_slice HO103.out; subst eo11; obtain ⟨Ao12, co12, eo12⟩ := Kd.R_slice HO106.out; subst eo12) | ((with_reducible refine gate_callee (f := 11) rfl ?_); refine goesL_ (some 5) rfl rfl Try.func11 (by kernel_rfl) rfl #[.agg #[.slice Ao11 t101.length co11, .slice Ao12 t104.length co12, .bool t107]] rfl (by (try simp only [List.map_toArray, List.map_cons, List.map_nil]); first | done | rfl | (simp only [List.length_drop, List.length_take]; rfl)) ?_; (with_reducible refine (witness_Dead.calls k _ _ t101 _ _ t104 t107 t108 true _ (tC (Kd.N_reads' HO103.out).2.2) ((Kd.N_reads' HO103.out).2.1) (tC (Kd.R_reads' HO106.out).2.2) ((Kd.R_reads' HO106.out).2.1) A2.out).mono ?_); rintro e w13 ⟨v109, rfl, ho0, hb⟩; refine ⟨_, rfl, ?_⟩; replace HO103 := Aside0.mk (Kd.N_elder' (tR HO103) (Kd.R_base ho0) hb); replace HO106 := Aside0.mk (Kd.R_below (tR HO106) hb); have HO110 := Aside0.mk (Kd.R_lower ho0 (below_size (tB))); replace HB := tA HB hb; (try clear hb); (try clear hb2); (try clear hk); (try clear hi); (try clear ho0)) | ((with_reducible refine gate_dst (N := 11) rfl ?_); (try (refine gate_guard (by rfl) ?_; dsimp only)); refine Kd.R_lit (Kd.int .i64) _ 3 ?hg (N := 11) ?hd (xs := ([0] : List Int)) (inner := [.int .i64 0]) (ok := fun _ => True) (okp := fun _ => True) ?hr ?hp (fun _ hk => hk) trivial (Below.refl _ _) (Nat.le_refl _) (by simp) ?_; (case hd => rfl); (case hg => rfl); (case hr => first | (go_simp; done) | (go_simp; rfl)); (case hp => exact (Reps.one (show Kd.M (Kd.int .i64) _ _ _ 0 [.int .i64 0] from rfl) (Reps.none _ _))); intro v113 w14 ho15 hb hg_ hnew_; clear hg_ hnew_; (first | rw [← Ny112.out] at ho15 | (simp only [Int.reduceToNat] at ho15; rw [← Ny112.out] at ho15)); replace HO103 := Aside0.mk (Kd.N_elder' (tR HO103) (Kd.R_base ho15) hb); replace HO106 := Aside0.mk (Kd.R_below (tR HO106) hb); have HO114 := Aside0.mk (Kd.R_lower (Kd.R_new' ho15 (Kd.R_lt (tR HO110))) (below_size (tB))); replace HO110 := Aside0.mk (Kd.R_elder' (tR HO110) (Kd.R_base ho15) hb); replace HB := tA HB hb; clear hb ho15; obtain ⟨Ao16, co16, eo16⟩ := Kd.R_slice HO110.out; subst eo16; obtain ⟨Ao17, co17, eo17⟩ := Kd.R_slice HO114.out; subst eo17) | (go_at_call 13; (with_reducible refine (r04_Same.calls k _ _ t108 _ _ y112 true _ (tC (Kd.R_reads' HO110.out).2.2) ((Kd.R_reads' HO110.out).2.1) (tC (Kd.R_reads' HO114.out).2.2) ((Kd.R_reads' HO114.out).2.1) A4.out).mono ?_); rintro e w' ⟨rfl, ⟨nd, rfl⟩⟩) | (go_at_call 33; (with_reducible refine (l16_step.calls  t116 t119 t122 _ A6.out).mono ?_); rintro e w18 ⟨v117, v120, rfl, ho0, ho1, hb⟩; have HO118 := Aside0.mk (Kd.N_lower (Kd.N_mono (ok' := fun k_ => some k_ ≠ (v120 : Value).ownBlock ∧ some k_ ≠ (.slice Ao11 t101.length co11 : Value).ownBlock ∧ some k_ ≠ (.slice Ao12 t104.length co12 : Value).ownBlock ∧ some k_ ≠ (.slice Ao16 t108.length co16 : Value).ownBlock ∧ some k_ ≠ (.slice Ao17 y112.length co17 : Value).ownBlock) ho0 (fun k_ hk_ => ⟨hk_.2, (Kd.fresh' (Kd.N_lt (tR HO103)) k_ hk_.1), (Kd.fresh' (Kd.R_lt (tR HO106)) k_ hk_.1), (Kd.fresh' (Kd.R_lt (tR HO110)) k_ hk_.1), (Kd.fresh' (Kd.R_lt (tR HO114)) k_ hk_.1)⟩)) (below_size (tB))); replace HO103 := Aside0.mk (Kd.N_mono (Kd.N_told (Kd.N_told (Kd.N_old (tR HO103) hb) (Kd.N_base ho0)) (Kd.R_base ho1)) (fun _ h_ => h_.1)); replace HO110 := Aside0.mk (Kd.R_below (tR HO110) hb); replace HO114 := Aside0.mk (Kd.R_below (tR HO114) hb); have HO121 := Aside0.mk (Kd.R_lower (Kd.R_new' (Kd.R_mono (ok' := fun k_ => True) ho1 (fun _ hk_ => trivial)) (Kd.R_lt (tR HO106))) (below_size (tB))); replace HO106 := Aside0.mk (Kd.R_elder' (tR HO106) (Kd.R_base ho1) hb); replace HB := tA HB hb; (try clear hb); (try clear hb2); (try clear hk); (try clear hi); (try clear ho0); (try clear ho1); obtain ⟨Ao19, co19, eo19⟩ := Kd.N_slice HO118.out; subst eo19; obtain ⟨Ao20, co20, eo20⟩ := Kd.R_slice HO121.out; subst eo20) | (go_at_call 14; (with_reducible refine (witness_Diameter.calls k _ _ t116 _ _ t119 t122 t123 _ (tC (Kd.N_reads' HO118.out).2.2) ((Kd.N_reads' HO118.out).2.1) (tC (Kd.R_reads' HO121.out).2.2) ((Kd.R_reads' HO121.out).2.1) A7.out).mono ?_); rintro e w21 ⟨rfl, hb⟩; replace HO103 := Aside0.mk (Kd.N_below (tR HO103) hb); replace HO106 := Aside0.mk (Kd.R_below (tR HO106) hb); replace HO110 := Aside0.mk (Kd.R_below (tR HO110) hb); replace HO114 := Aside0.mk (Kd.R_below (tR HO114) hb); replace HO118 := Aside0.mk (Kd.N_below (tR HO118) hb); replace HO121 := Aside0.mk (Kd.R_below (tR HO121) hb); replace HB := tA HB hb; (try clear hb); (try clear hb2); (try clear hk); (try clear hi)) | (go_at_call 14; (refine (witness_Diameter.calls k _ _ ([] : List (List Int)) _ _ ([] : List (S80)) false t124 _ ?side1 ?side2 ?side3 ?side4 A9.out).mono ?_); (case side1 => exact Kd.C_nil _ _); (case side2 => exact Nat.le_refl _); (case side3 => exact Kd.C_nil _ _); (case side4 => exact Nat.le_refl _); rintro e w22 ⟨rfl, hb⟩; replace HO103 := Aside0.mk (Kd.N_below (tR HO103) hb); replace HO106 := Aside0.mk (Kd.R_below (tR HO106) hb); replace HO110 := Aside0.mk (Kd.R_below (tR HO110) hb); replace HO114 := Aside0.mk (Kd.R_below (tR HO114) hb); replace HO118 := Aside0.mk (Kd.N_below (tR HO118) hb); replace HO121 := Aside0.mk (Kd.R_below (tR HO121) hb); replace HB := tA HB hb; (try clear hb); (try clear hb2); (try clear hk); (try clear hi)))
    go_ret
    exact ⟨tE, tB⟩
   rw [if_neg c8] at H
   have c8b0 := beq_eq_false_iff_ne.mpr c8
   have c8b1 := bne_iff_ne.mpr c8
   obtain rfl := Option.some.inj H
   go_enter Try.func10, Try.ntmps10
   go_wp2_with (first | ((with_reducible refine gate_callee (f := 33) rfl ?_); refine goesL_ (some 4) rfl rfl Try.func33 (by kernel_rfl) rfl #[] rfl (by (try simp only [List.map_toArray, List.map_cons, List.map_nil]); first | done | rfl | (simp only [List.length_drop, List.length_take]; rfl)) ?_; (with_reducible refine (l16_step.calls  t101 t104 t107 _ A1.out).mono ?_); rintro e w23 ⟨v102, v105, rfl, ho0, ho1, hb⟩; refine ⟨_, rfl, ?_⟩; have HO103 := Aside0.mk (Kd.N_lower (Kd.N_mono (ok' := fun k_ => some k_ ≠ (v105 : Value).ownBlock) ho0 (fun k_ hk_ => hk_.2)) (below_size (tB))); have HO106 := Aside0.mk (Kd.R_lower (Kd.R_mono (ok' := fun k_ => True) ho1 (fun _ hk_ => trivial)) (below_size (tB))); replace HB := tA HB hb; (try clear hb); (try clear hb2); (try clear hk); (try clear hi); (try clear ho0); (try clear ho1); obtain ⟨Ao24, co24, eo24⟩ := Kd.N_slice HO103.out; subst eo24; obtain ⟨Ao25, co25, eo25⟩ := Kd.R_slice HO106.out; subst eo25) | ((with_reducible refine gate_callee (f := 11) rfl ?_); refine goesL_ (some 5) rfl rfl Try.func11 (by kernel_rfl) rfl #[.agg #[.slice Ao24 t101.length co24, .slice Ao25 t104.length co25, .bool t107]] rfl (by (try simp only [List.map_toArray, List.map_cons, List.map_nil]); first | done | rfl | (simp only [List.length_drop, List.length_take]; rfl)) ?_; (with_reducible refine (witness_Dead.calls k _ _ t101 _ _ t104 t107 t108 true _ (tC (Kd.N_reads' HO103.out).2.2) ((Kd.N_reads' HO103.out).2.1) (tC (Kd.R_reads' HO106.out).2.2) ((Kd.R_reads' HO106.out).2.1) A2.out).mono ?_); rintro e w26 ⟨v109, rfl, ho0, hb⟩; refine ⟨_, rfl, ?_⟩; replace HO103 := Aside0.mk (Kd.N_elder' (tR HO103) (Kd.R_base ho0) hb); replace HO106 := Aside0.mk (Kd.R_below (tR HO106) hb); have HO110 := Aside0.mk (Kd.R_lower ho0 (below_size (tB))); replace HB := tA HB hb; (try clear hb); (try clear hb2); (try clear hk); (try clear hi); (try clear ho0)) | ((with_reducible refine gate_dst (N := 11) rfl ?_); (try (refine gate_guard (by rfl) ?_; dsimp only)); refine Kd.R_lit (Kd.int .i64) _ 3 ?hg (N := 11) ?hd (xs := ([0] : List Int)) (inner := [.int .i64 0]) (ok := fun _ => True) (okp := fun _ => True) ?hr ?hp (fun _ hk => hk) trivial (Below.refl _ _) (Nat.le_refl _) (by simp) ?_; (case hd => rfl); (case hg => rfl); (case hr => first | (go_simp; done) | (go_simp; rfl)); (case hp => exact (Reps.one (show Kd.M (Kd.int .i64) _ _ _ 0 [.int .i64 0] from rfl) (Reps.none _ _))); intro v113 w27 ho28 hb hg_ hnew_; clear hg_ hnew_; (first | rw [← Ny112.out] at ho28 | (simp only [Int.reduceToNat] at ho28; rw [← Ny112.out] at ho28)); replace HO103 := Aside0.mk (Kd.N_elder' (tR HO103) (Kd.R_base ho28) hb); replace HO106 := Aside0.mk (Kd.R_below (tR HO106) hb); have HO114 := Aside0.mk (Kd.R_lower (Kd.R_new' ho28 (Kd.R_lt (tR HO110))) (below_size (tB))); replace HO110 := Aside0.mk (Kd.R_elder' (tR HO110) (Kd.R_base ho28) hb); replace HB := tA HB hb; clear hb ho28; obtain ⟨Ao29, co29, eo29⟩ := Kd.R_slice HO110.out; subst eo29; obtain ⟨Ao30, co30, eo30⟩ := Kd.R_slice HO114.out; subst eo30) | (go_at_call 13; (with_reducible refine (r04_Same.calls k _ _ t108 _ _ y112 true _ (tC (Kd.R_reads' HO110.out).2.2) ((Kd.R_reads' HO110.out).2.1) (tC (Kd.R_reads' HO114.out).2.2) ((Kd.R_reads' HO114.out).2.1) A4.out).mono ?_); rintro e w' ⟨rfl, ⟨nd, rfl⟩⟩) | (go_at_call 33; (with_reducible refine (l16_step.calls  t116 t119 t122 _ A6.out).mono ?_); rintro e w31 ⟨v117, v120, rfl, ho0, ho1, hb⟩; have HO118 := Aside0.mk (Kd.N_lower (Kd.N_mono (ok' := fun k_ => some k_ ≠ (v120 : Value).ownBlock ∧ some k_ ≠ (.slice Ao24 t101.length co24 : Value).ownBlock ∧ some k_ ≠ (.slice Ao25 t104.length co25 : Value).ownBlock ∧ some k_ ≠ (.slice Ao29 t108.length co29 : Value).ownBlock ∧ some k_ ≠ (.slice Ao30 y112.length co30 : Value).ownBlock) ho0 (fun k_ hk_ => ⟨hk_.2, (Kd.fresh' (Kd.N_lt (tR HO103)) k_ hk_.1), (Kd.fresh' (Kd.R_lt (tR HO106)) k_ hk_.1), (Kd.fresh' (Kd.R_lt (tR HO110)) k_ hk_.1), (Kd.fresh' (Kd.R_lt (tR HO114)) k_ hk_.1)⟩)) (below_size (tB))); replace HO103 := Aside0.mk (Kd.N_mono (Kd.N_told (Kd.N_told (Kd.N_old (tR HO103) hb) (Kd.N_base ho0)) (Kd.R_base ho1)) (fun _ h_ => h_.1)); replace HO110 := Aside0.mk (Kd.R_below (tR HO110) hb); replace HO114 := Aside0.mk (Kd.R_below (tR HO114) hb); have HO121 := Aside0.mk (Kd.R_lower (Kd.R_new' (Kd.R_mono (ok' := fun k_ => True) ho1 (fun _ hk_ => trivial)) (Kd.R_lt (tR HO106))) (below_size (tB))); replace HO106 := Aside0.mk (Kd.R_elder' (tR HO106) (Kd.R_base ho1) hb); replace HB := tA HB hb; (try clear hb); (try clear hb2); (try clear hk); (try clear hi); (try clear ho0); (try clear ho1); obtain ⟨Ao32, co32, eo32⟩ := Kd.N_slice HO118.out; subst eo32; obtain ⟨Ao33, co33, eo33⟩ := Kd.R_slice HO121.out; subst eo33) | (go_at_call 14; (with_reducible refine (witness_Diameter.calls k _ _ t116 _ _ t119 t122 t123 _ (tC (Kd.N_reads' HO118.out).2.2) ((Kd.N_reads' HO118.out).2.1) (tC (Kd.R_reads' HO121.out).2.2) ((Kd.R_reads' HO121.out).2.1) A7.out).mono ?_); rintro e w34 ⟨rfl, hb⟩; replace HO103 := Aside0.mk (Kd.N_below (tR HO103) hb); replace HO106 := Aside0.mk (Kd.R_below (tR HO106) hb); replace HO110 := Aside0.mk (Kd.R_below (tR HO110) hb); replace HO114 := Aside0.mk (Kd.R_below (tR HO114) hb); replace HO118 := Aside0.mk (Kd.N_below (tR HO118) hb); replace HO121 := Aside0.mk (Kd.R_below (tR HO121) hb); replace HB := tA HB hb; (try clear hb); (try clear hb2); (try clear hk); (try clear hi)))
   go_ret
   exact ⟨tE, tB⟩
  replace c5 := Bool.eq_false_iff.mpr c5
  subst c5
  rw [if_neg (show ¬ (false = true) by decide)] at H
  obtain rfl := Option.some.inj H
  go_enter Try.func10, Try.ntmps10
  go_wp2_with (first | ((with_reducible refine gate_callee (f := 33) rfl ?_); refine goesL_ (some 4) rfl rfl Try.func33 (by kernel_rfl) rfl #[] rfl (by (try simp only [List.map_toArray, List.map_cons, List.map_nil]); first | done | rfl | (simp only [List.length_drop, List.length_take]; rfl)) ?_; (with_reducible refine (l16_step.calls  t101 t104 t107 _ A1.out).mono ?_); rintro e w35 ⟨v102, v105, rfl, ho0, ho1, hb⟩; refine ⟨_, rfl, ?_⟩; have HO103 := Aside0.mk (Kd.N_lower (Kd.N_mono (ok' := fun k_ => some k_ ≠ (v105 : Value).ownBlock) ho0 (fun k_ hk_ => hk_.2)) (below_size (tB))); have HO106 := Aside0.mk (Kd.R_lower (Kd.R_mono (ok' := fun k_ => True) ho1 (fun _ hk_ => trivial)) (below_size (tB))); replace HB := tA HB hb; (try clear hb); (try clear hb2); (try clear hk); (try clear hi); (try clear ho0); (try clear ho1); obtain ⟨Ao36, co36, eo36⟩ := Kd.N_slice HO103.out; subst eo36; obtain ⟨Ao37, co37, eo37⟩ := Kd.R_slice HO106.out; subst eo37) | ((with_reducible refine gate_callee (f := 11) rfl ?_); refine goesL_ (some 5) rfl rfl Try.func11 (by kernel_rfl) rfl #[.agg #[.slice Ao36 t101.length co36, .slice Ao37 t104.length co37, .bool t107]] rfl (by (try simp only [List.map_toArray, List.map_cons, List.map_nil]); first | done | rfl | (simp only [List.length_drop, List.length_take]; rfl)) ?_; (with_reducible refine (witness_Dead.calls k _ _ t101 _ _ t104 t107 t108 true _ (tC (Kd.N_reads' HO103.out).2.2) ((Kd.N_reads' HO103.out).2.1) (tC (Kd.R_reads' HO106.out).2.2) ((Kd.R_reads' HO106.out).2.1) A2.out).mono ?_); rintro e w38 ⟨v109, rfl, ho0, hb⟩; refine ⟨_, rfl, ?_⟩; replace HO103 := Aside0.mk (Kd.N_elder' (tR HO103) (Kd.R_base ho0) hb); replace HO106 := Aside0.mk (Kd.R_below (tR HO106) hb); have HO110 := Aside0.mk (Kd.R_lower ho0 (below_size (tB))); replace HB := tA HB hb; (try clear hb); (try clear hb2); (try clear hk); (try clear hi); (try clear ho0)) | ((with_reducible refine gate_dst (N := 11) rfl ?_); (try (refine gate_guard (by rfl) ?_; dsimp only)); refine Kd.R_lit (Kd.int .i64) _ 3 ?hg (N := 11) ?hd (xs := ([0] : List Int)) (inner := [.int .i64 0]) (ok := fun _ => True) (okp := fun _ => True) ?hr ?hp (fun _ hk => hk) trivial (Below.refl _ _) (Nat.le_refl _) (by simp) ?_; (case hd => rfl); (case hg => rfl); (case hr => first | (go_simp; done) | (go_simp; rfl)); (case hp => exact (Reps.one (show Kd.M (Kd.int .i64) _ _ _ 0 [.int .i64 0] from rfl) (Reps.none _ _))); intro v113 w39 ho40 hb hg_ hnew_; clear hg_ hnew_; (first | rw [← Ny112.out] at ho40 | (simp only [Int.reduceToNat] at ho40; rw [← Ny112.out] at ho40)); replace HO103 := Aside0.mk (Kd.N_elder' (tR HO103) (Kd.R_base ho40) hb); replace HO106 := Aside0.mk (Kd.R_below (tR HO106) hb); have HO114 := Aside0.mk (Kd.R_lower (Kd.R_new' ho40 (Kd.R_lt (tR HO110))) (below_size (tB))); replace HO110 := Aside0.mk (Kd.R_elder' (tR HO110) (Kd.R_base ho40) hb); replace HB := tA HB hb; clear hb ho40; obtain ⟨Ao41, co41, eo41⟩ := Kd.R_slice HO110.out; subst eo41; obtain ⟨Ao42, co42, eo42⟩ := Kd.R_slice HO114.out; subst eo42) | (go_at_call 13; (with_reducible refine (r04_Same.calls k _ _ t108 _ _ y112 false _ (tC (Kd.R_reads' HO110.out).2.2) ((Kd.R_reads' HO110.out).2.1) (tC (Kd.R_reads' HO114.out).2.2) ((Kd.R_reads' HO114.out).2.1) A4.out).mono ?_); rintro e w' ⟨rfl, ⟨nd, rfl⟩⟩))
  go_ret
  exact ⟨tE, tB⟩
 replace c3 := Bool.eq_false_iff.mpr c3
 subst c3
 rw [if_neg (show ¬ (false = true) by decide)] at H
 obtain rfl := Option.some.inj H
 go_enter Try.func10, Try.ntmps10
 go_wp2_with (first | ((with_reducible refine gate_callee (f := 33) rfl ?_); refine goesL_ (some 4) rfl rfl Try.func33 (by kernel_rfl) rfl #[] rfl (by (try simp only [List.map_toArray, List.map_cons, List.map_nil]); first | done | rfl | (simp only [List.length_drop, List.length_take]; rfl)) ?_; (with_reducible refine (l16_step.calls  t101 t104 t107 _ A1.out).mono ?_); rintro e w43 ⟨v102, v105, rfl, ho0, ho1, hb⟩; refine ⟨_, rfl, ?_⟩; have HO103 := Aside0.mk (Kd.N_lower (Kd.N_mono (ok' := fun k_ => some k_ ≠ (v105 : Value).ownBlock) ho0 (fun k_ hk_ => hk_.2)) (below_size (tB))); have HO106 := Aside0.mk (Kd.R_lower (Kd.R_mono (ok' := fun k_ => True) ho1 (fun _ hk_ => trivial)) (below_size (tB))); replace HB := tA HB hb; (try clear hb); (try clear hb2); (try clear hk); (try clear hi); (try clear ho0); (try clear ho1); obtain ⟨Ao44, co44, eo44⟩ := Kd.N_slice HO103.out; subst eo44; obtain ⟨Ao45, co45, eo45⟩ := Kd.R_slice HO106.out; subst eo45) | ((with_reducible refine gate_callee (f := 11) rfl ?_); refine goesL_ (some 5) rfl rfl Try.func11 (by kernel_rfl) rfl #[.agg #[.slice Ao44 t101.length co44, .slice Ao45 t104.length co45, .bool t107]] rfl (by (try simp only [List.map_toArray, List.map_cons, List.map_nil]); first | done | rfl | (simp only [List.length_drop, List.length_take]; rfl)) ?_; (with_reducible refine (witness_Dead.calls k _ _ t101 _ _ t104 t107 t108 false _ (tC (Kd.N_reads' HO103.out).2.2) ((Kd.N_reads' HO103.out).2.1) (tC (Kd.R_reads' HO106.out).2.2) ((Kd.R_reads' HO106.out).2.1) A2.out).mono ?_); rintro e w46 ⟨v109, rfl, ho0, hb⟩; refine ⟨_, rfl, ?_⟩; replace HO103 := Aside0.mk (Kd.N_elder' (tR HO103) (Kd.R_base ho0) hb); replace HO106 := Aside0.mk (Kd.R_below (tR HO106) hb); have HO110 := Aside0.mk (Kd.R_lower ho0 (below_size (tB))); replace HB := tA HB hb; (try clear hb); (try clear hb2); (try clear hk); (try clear hi); (try clear ho0)))
 go_ret
 exact ⟨tE, tB⟩
end Go.Proofs.Ytfnjbgggmddgpaa.Q
end
section
set_option linter.unusedVariables false
set_option linter.unusedSimpArgs false
namespace Go.Proofs.Ytfnjbgggmddgpaa.Q
open Go.RowKit Go.Proofs.Fn Go.Proofs.YtfnjbgggmddgpaaW.PrintWords Go.Proofs.Gr
theorem mem_row {n : Nat} {es : List S80} {s : Int} {e : S80} (h : e ∈ row n es s) : e ∈ es ∧ cnt n s e = true := by
  have key : ∀ (l a : List S80), e ∈ l.foldl (fun l e => insE e l) a → e ∈ a ∨ e ∈ l := by
    intro l
    induction l with
    | nil => intro a h; exact .inl h
    | cons x l ih =>
      intro a h
      rcases ih _ h with h | h
      · rcases mem_insE h with rfl | h
        · exact .inr List.mem_cons_self
        · exact .inl h
      · exact .inr (List.mem_cons_of_mem _ h)
  rcases key _ _ h with h | h
  · cases h
  · exact List.mem_filter.1 h
theorem row_len (n : Nat) (es : List S80) (s : Int) : (row n es s).length ≤ es.length := by
  have key : ∀ (l a : List S80), (l.foldl (fun l e => insE e l) a).length ≤ a.length + l.length := by
    intro l
    induction l with
    | nil => intro a; simp
    | cons x l ih =>
      intro a
      have h1 := ih (insE x a)
      have h2 := insE_len x a
      simp only [List.foldl_cons, List.length_cons]; omega
  have h1 := key (es.filter (cnt n s)) []
  have h2 := List.length_filter_le (cnt n s) es
  have h3 : (row n es s).length ≤ ([] : List S80).length + (es.filter (cnt n s)).length := h1
  simp only [List.length_nil] at h3
  omega
theorem tab_get {n : Nat} {es : List S80} {i : Nat} (h : i < n) : (tab n es).getD i [] = row n es (i : Int) := by simp [tab, h]
theorem tab_ok {n : Nat} {es : List S80} (hn : n ≤ 1000000) (he : es.length ≤ 1000000) : OkT n (tab n es) := by
  refine ⟨by simp [tab], hn, fun i hi => ?_, fun i hi e h => ?_⟩
  · rw [tab_get hi]; exact Nat.le_trans (row_len _ _ _) he
  · rw [tab_get hi] at h
    have := (mem_row h).2
    simp only [cnt, Bool.and_eq_true, decide_eq_true_eq] at this
    omega
theorem Found.none {n : Nat} {T : List (List S80)} {g : Nat → Bool} {a : Int} {l : List Int} {ok : Bool} (h : Found n T g a l ok) (hg : ∀ i, i < n → g i = false) : l = [] ∧ ok = false := by
  cases ok with
  | false => exact ⟨h.no rfl, rfl⟩
  | true =>
    obtain ⟨s, t, _, _, ht, _, h2⟩ := h.way rfl
    rw [hg t ht] at h2; cases h2
theorem between_both (st : List (List Int)) (es : List S80) (b : Bool) (hn : st.length ≤ 1000000) (he : es.length ≤ 1000000) (a c : Int) :
    ∃ l ok, Found st.length (tab st.length es) (fun i => (i : Int) == c) a l ok ∧ Evn (fun k => witness_Between.f k st es b a c) (l, ok) ∧ Evn (fun k => r16_Between.f k st es b a c) (l, ok) := by
  have hT := tab_ok (n := st.length) hn he
  obtain ⟨l, ok, hF, h1, h2⟩ := search_both hT (fun s => some (s == c)) (fun i => (i : Int) == c) (fun i hi => rfl) a
  refine ⟨l, ok, hF, Evn.bind (steps_ev st es b hn he) h1, ?_⟩
  have out : (a < 0 ∨ a ≥ (st.length : Int) ∨ c < 0 ∨ c ≥ (st.length : Int)) → l = [] ∧ ok = false := by
    intro h
    by_cases ha : 0 ≤ a ∧ a < (st.length : Int)
    · refine hF.none (fun i hi => ?_)
      simp; omega
    · exact hF.out ha
  have j0 : ∀ f : Bool, f = decide (a < 0 ∨ a ≥ (st.length : Int) ∨ c < 0 ∨ c ≥ (st.length : Int)) → Evn (fun k => r16_Between.j0 k a c f st es b) (l, ok) := by
    intro f hf
    subst hf
    refine Evn.succ ?_
    simp only [r16_Between.j0]
    by_cases h : a < 0 ∨ a ≥ (st.length : Int) ∨ c < 0 ∨ c ≥ (st.length : Int)
    · refine Evn.pos (by simpa using h) ?_
      obtain ⟨rfl, rfl⟩ := out h
      exact Evn.const _
    · refine Evn.neg (by simpa using h) ?_
      refine Evn.bind (table_ev st es b hn he) ?_
      obtain ⟨c', rfl⟩ : ∃ c' : Nat, c = (c' : Int) := ⟨c.toNat, by omega⟩
      have hs : r16_single.f st es b (c' : Int) = some ((List.range st.length).map (fun (i : Nat) => (i : Int) == (c' : Int))) := by
        unfold r16_single.f
        rw [if_pos (by omega), if_pos (by simp only [Int.toNat_natCast]; omega), Option.bind_some, if_pos (by omega), if_pos (by simp; omega)]
        congr 1
        apply List.ext_getElem (by simp)
        intro i h1 h2
        rw [List.getElem_set]
        simp only [Int.toNat_natCast, List.getElem_replicate, List.getElem_map, List.getElem_range]
        split
        · symm; simp; omega
        · symm; simp; omega
      rw [hs]
      refine Evn.bind (Evn.const _) ?_
      refine Evn.bind h2 ?_
      exact Evn.const _
  unfold r16_Between.f
  by_cases c1 : a < 0
  · refine Evn.pos c1 (j0 _ ?_)
    symm; simp; omega
  · refine Evn.neg c1 ?_
    by_cases c2 : a ≥ (st.length : Int)
    · refine Evn.pos c2 (j0 _ ?_)
      symm; simp; omega
    · refine Evn.neg c2 ?_
      by_cases c3 : c < 0
      · refine Evn.pos c3 (j0 _ ?_)
        symm; simp; omega
      · refine Evn.neg c3 (j0 _ ?_)
        rw [Bool.eq_iff_iff]; simp only [decide_eq_true_eq]; omega
theorem dead_both (st : List (List Int)) (es : List S80) (b : Bool) (hn : st.length ≤ 1000000) (he : es.length ≤ 1000000) :
    ∃ l ok, Found st.length (tab st.length es) (fun i => ((((tab st.length es).getD i []).length : Int) == 0)) 0 l ok ∧ Evn (fun k => witness_Dead.f k st es b) (l, ok) ∧ Evn (fun k => r16_Dead.f k st es b) (l, ok) := by
  have hT := tab_ok (n := st.length) hn he
  have hln := hT.len
  generalize hTT : tab st.length es = T at hT hln
  obtain ⟨l, ok, hF, h1, h2⟩ := search_both hT (dead1 (T.map (List.map pr))) (fun i => (((T.getD i []).length : Int) == 0)) (fun i hi => by
    unfold dead1
    rw [if_pos (by omega), if_pos (by rw [List.length_map, hln]; omega), rdmap, List.length_map]) 0
  refine ⟨l, ok, hF, ?_, ?_⟩
  · have := steps_ev st es b hn he
    rw [hTT] at this
    exact Evn.bind this h1
  · have := table_ev st es b hn he
    rw [hTT] at this
    refine Evn.bind this ?_
    have key : ∀ (m i : Nat), i + m = st.length → Evn (fun k => r16_Dead.l0 k T ((List.range i).map (fun i => (((T.getD i []).length : Int) == 0))) (i : Int)) (l, ok) := by
      intro m
      induction m with
      | zero =>
        intro i hi
        obtain rfl : i = st.length := by omega
        refine Evn.succ ?_
        simp only [r16_Dead.l0, hln]
        (first | refine Evn.pos (by first | assumption | omega | (simp; done) | (simp; omega)) ?_ | refine Evn.neg (by first | assumption | omega | (simp; done) | (simp; omega)) ?_)
        refine Evn.bind h2 ?_
        exact Evn.const _
      | succ m ih =>
        intro i hi
        have := ih (i + 1) (by omega)
        rw [List.range_succ, List.map_append, List.map_singleton] at this
        refine Evn.succ ?_
        simp only [r16_Dead.l0, hln, rdL80, wrap_succ (show i < 9223372036854775807 by omega)]
        (first | refine Evn.pos (by first | assumption | omega | (simp; done) | (simp; omega)) ?_ | refine Evn.neg (by first | assumption | omega | (simp; done) | (simp; omega)) ?_); (first | refine Evn.pos (by first | assumption | omega | (simp; done) | (simp; omega)) ?_ | refine Evn.neg (by first | assumption | omega | (simp; done) | (simp; omega)) ?_)
        refine Evn.pos (by simp; omega) ?_
        exact this
    exact key st.length 0 (by omega)
theorem alive_ev : Evn (fun k => l16_alive.f k) true :=
  ⟨20, fun k hk => by
    obtain ⟨n, rfl⟩ := Nat.exists_eq_add_of_le' hk
    kernel_rfl⟩
theorem Found.short {n : Nat} {T : List (List S80)} {g : Nat → Bool} {a : Int} {l : List Int} {ok : Bool} (hT : OkT n T) (h : Found n T g a l ok) : l.length ≤ 2000000 := by
  by_cases ha : 0 ≤ a ∧ a < (n : Int)
  · obtain ⟨s, rfl⟩ : ∃ s : Nat, a = (s : Int) := ⟨a.toNat, by omega⟩
    obtain ⟨d, ⟨hd, hL, hle⟩, _⟩ := distances_ev hT (fun i => some (g i.toNat)) g (fun i hi => by simp)
    have := (h.len s rfl (by omega) _ hL).1
    have := hle s (by omega)
    have := hT.small
    split at * <;> omega
  · rw [(h.out ha).1]; simp
end Go.Proofs.Ytfnjbgggmddgpaa.Q
end
section
namespace Go.Proofs.Ytfnjbgggmddgpaa.Q
open Go.RowKit Go.Proofs.Fn Go.Proofs.YtfnjbgggmddgpaaW.PrintWords Go.Proofs.YtfnjbgggmddgpaaW.PrintLast Go.Proofs.YtfnjbgggmddgpaaW.PrintMore
attribute [local go_sem] max2_int min2_int max_two min_two max_three min_three max_four min_four
set_option linter.unusedVariables false
set_option linter.unusedSimpArgs false
mutual
def r16_Fires.l0 : Nat → Int → List (List (S80)) → List Bool → Int → Option (List Int × Bool)
 | 0, _, _, _, _ => none
 | k + 1, x1, x6, x7, x8 => if x8 < (x6.length : Int) then (r16_Fires.l1 k x1 x6 x7 x8 false 0) else ((r16_follow.f k x6 0 x7).bind fun bt105 => (if bt105.2 = true then (if bt105.1.length < 17592186044416 then (some ((bt105.1 ++ [x1]), bt105.2)) else (none)) else (some (bt105.1, bt105.2))))
def r16_Fires.l1 : Nat → Int → List (List (S80)) → List Bool → Int → Bool → Int → Option (List Int × Bool)
 | 0, _, _, _, _, _, _ => none
 | k + 1, x1, x6, x7, x8, x9, x10 => if 0 ≤ x8 then (if x8 < (x6.length : Int) then (if x10 < ((rd_L80 x6 x8).length : Int) then (if x9 = true then (r16_Fires.l1 k x1 x6 x7 x8 true (wrap64 (x10 + 1))) else (if 0 ≤ x10 then (r16_Fires.l1 k x1 x6 x7 x8 (((rd_T80 (rd_L80 x6 x8) x10).f1) == x1) (wrap64 (x10 + 1))) else (none))) else (if x7.length < 140737488355328 then (r16_Fires.l0 k x1 x6 (x7 ++ [x9]) (wrap64 (x8 + 1))) else (none))) else (none)) else (none)
end
def r16_Fires.f (k : Nat) (l0_0 : List (List Int)) (l0_1 : List (S80)) (a0_2 : Bool) (a1 : Int) : Option (List Int × Bool) := (r16_Table.f k l0_0 l0_1 a0_2).bind fun t102 => (r16_Fires.l0 k a1 t102 ([] : List Bool) 0)
end Go.Proofs.Ytfnjbgggmddgpaa.Q
end
section
set_option linter.unusedVariables false
set_option linter.unusedSimpArgs false
namespace Go.Proofs.Ytfnjbgggmddgpaa.Q
open Go.RowKit Go.Proofs.Fn Go.Proofs.YtfnjbgggmddgpaaW.PrintWords Go.Proofs.Gr
def hasT (T : List (List S80)) (t : Int) (i : Nat) : Bool := (T.getD i []).any (fun e => e.f1 == t)
theorem rfires_l1 {n : Nat} {T : List (List S80)} (hT : OkT n T) (t : Int) (x7 : List Bool) (i : Nat) (hi : i < n) (r : List Int × Bool) (h7 : x7.length = i)
    (next : Evn (fun k => r16_Fires.l0 k t T (x7 ++ [hasT T t i]) ((i + 1 : Nat) : Int)) r) :
    ∀ (m p : Nat) (f : Bool), p + m = (T.getD i []).length → (f || ((T.getD i []).drop p).any (fun e => e.f1 == t)) = hasT T t i → Evn (fun k => r16_Fires.l1 k t T x7 (i : Int) f (p : Int)) r := by
  have hsm := hT.small
  have hln := hT.len
  have hrow := hT.rows i hi
  intro m
  induction m with
  | zero =>
    intro p f hp hf
    rw [List.drop_of_length_le (by omega), List.any_nil, Bool.or_false] at hf
    refine Evn.succ ?_
    simp only [r16_Fires.l1, rdL80, hln, wrap_succ (show i < 9223372036854775807 by omega)]
    iterate 3 (first | refine Evn.pos (by first | assumption | omega | (simp; done) | (simp; omega)) ?_ | refine Evn.neg (by first | assumption | omega | (simp; done) | (simp; omega)) ?_)
    refine Evn.pos (by omega) ?_
    rw [hf]; exact next
  | succ m ih =>
    intro p f hp hf
    have hpl : p < (T.getD i []).length := by omega
    rw [drop80 hpl, List.any_cons] at hf
    refine Evn.succ ?_
    simp only [r16_Fires.l1, rdL80, hln, wrap_succ (show p < 9223372036854775807 by omega)]
    iterate 3 (first | refine Evn.pos (by first | assumption | omega | (simp; done) | (simp; omega)) ?_ | refine Evn.neg (by first | assumption | omega | (simp; done) | (simp; omega)) ?_)
    cases f with
    | true => refine Evn.pos rfl ?_; exact ih (p + 1) true (by omega) (by rw [← hf]; simp)
    | false =>
      refine Evn.neg (by simp) ?_
      (first | refine Evn.pos (by first | assumption | omega | (simp; done) | (simp; omega)) ?_ | refine Evn.neg (by first | assumption | omega | (simp; done) | (simp; omega)) ?_)
      exact ih (p + 1) _ (by omega) (by rw [← hf]; simp)
theorem fires_both (st : List (List Int)) (es : List S80) (b : Bool) (hn : st.length ≤ 1000000) (he : es.length ≤ 1000000) (t : Int) :
    ∃ l ok, Found st.length (tab st.length es) (hasT (tab st.length es) t) 0 l ok ∧ Evn (fun k => witness_Fires.f k st es b t) (if ok = true then l ++ [t] else [], ok) ∧ Evn (fun k => r16_Fires.f k st es b t) (if ok = true then l ++ [t] else [], ok) := by
  have hT := tab_ok (n := st.length) hn he
  have hln := hT.len
  have hst := steps_ev st es b hn he
  have htb := table_ev st es b hn he
  revert hT hln hst htb
  generalize tab st.length es = T
  intro hT hln hst htb
  obtain ⟨l, ok, hF, h1, h2⟩ := search_both hT (fires1 (T.map (List.map pr)) t) (hasT T t) (fun i hi => by
    unfold fires1
    rw [if_pos (by omega), if_pos (by rw [List.length_map, hln]; omega), rdmap]
    congr 1
    unfold hasT
    rw [List.any_map]; rfl) 0
  have hsh := hF.short hT
  refine ⟨l, ok, hF, ?_, ?_⟩
  · refine Evn.bind hst ?_
    refine Evn.bind (a := (l, ok)) (Evn.pos ?_ h1) ?_
    · rw [List.all_eq_true]
      intro r hr
      obtain ⟨r', hr', rfl⟩ := List.mem_map.1 hr
      obtain ⟨i, hi, e⟩ := List.mem_iff_getElem.1 hr'
      have := hT.rows i (by omega)
      have e2 : T.getD i [] = r' := by rw [← e]; simp [hi]
      rw [e2] at this
      simp; omega
    · cases ok with
      | true =>
        refine Evn.pos rfl ?_
        refine Evn.pos (by simp only; omega) ?_
        exact Evn.const _
      | false => refine Evn.neg (by simp) ?_; exact Evn.const _
  · refine Evn.bind htb ?_
    have key : ∀ (m i : Nat), i + m = st.length → Evn (fun k => r16_Fires.l0 k t T ((List.range i).map (hasT T t)) (i : Int)) (if ok = true then l ++ [t] else [], ok) := by
      intro m
      induction m with
      | zero =>
        intro i hi
        obtain rfl : i = st.length := by omega
        refine Evn.succ ?_
        simp only [r16_Fires.l0, hln]
        (first | refine Evn.pos (by first | assumption | omega | (simp; done) | (simp; omega)) ?_ | refine Evn.neg (by first | assumption | omega | (simp; done) | (simp; omega)) ?_)
        refine Evn.bind h2 ?_
        cases ok with
        | true =>
          refine Evn.pos rfl ?_
          refine Evn.pos (by simp only; omega) ?_
          exact Evn.const _
        | false =>
          refine Evn.neg (by simp) ?_
          rw [hF.no rfl]
          exact Evn.const _
      | succ m ih =>
        intro i hi
        have := ih (i + 1) (by omega)
        rw [List.range_succ, List.map_append, List.map_singleton] at this
        refine Evn.succ ?_
        simp only [r16_Fires.l0, hln]
        (first | refine Evn.pos (by first | assumption | omega | (simp; done) | (simp; omega)) ?_ | refine Evn.neg (by first | assumption | omega | (simp; done) | (simp; omega)) ?_)
        exact rfires_l1 hT t _ i (by omega) _ (by simp) this _ 0 false (by rw [Nat.zero_add]) (by simp [hasT])
    exact key st.length 0 (by omega)
end Go.Proofs.Ytfnjbgggmddgpaa.Q
end
section
namespace Go.Proofs.Ytfnjbgggmddgpaa.Q
open Go.RowKit Go.Proofs.Fn Go.Proofs.YtfnjbgggmddgpaaW.PrintWords Go.Proofs.YtfnjbgggmddgpaaW.PrintLast Go.Proofs.YtfnjbgggmddgpaaW.PrintMore
attribute [local go_sem] max2_int min2_int max_two min_two max_three min_three max_four min_four
set_option linter.unusedVariables false
set_option linter.unusedSimpArgs false
def witness_To.f (k : Nat) (l0_0 : List (List Int)) (l0_1 : List (S80)) (a0_2 : Bool) (a1 : Int) : Option (List Int × Bool) := (witness_Between.f k l0_0 l0_1 a0_2 0 a1).bind fun bt102 => (some (bt102.1, bt102.2))
set_option maxHeartbeats 8000000 in
set_option maxRecDepth 100000 in
theorem witness_To.calls (k : Nat) (A0_0 : Option Addr) (c0_0 : Nat) (l0_0 : List (List Int)) (A0_1 : Option Addr) (c0_1 : Nat) (l0_1 : List (S80)) (a0_2 : Bool) (a1 : Int) (r1 : List Int) (r2 : Bool) (w : World) (hr0_0 : Kd.C (Kd.slice 3 (Kd.int .i64)) w A0_0 l0_0.length l0_0) (hc0_0 : l0_0.length ≤ c0_0) (hr0_1 : Kd.C k80 w A0_1 l0_1.length l0_1) (hc0_1 : l0_1.length ≤ c0_1) (h : witness_To.f k l0_0 l0_1 a0_2 a1 = some (r1, r2)) :
  Calls Try.prog 18 #[.agg #[.slice A0_0 l0_0.length c0_0, .slice A0_1 l0_1.length c0_1, .bool a0_2], .int .i64 a1] w fun e w' => ∃ v0_ : Value, e = .returned (.tuple #[v0_, .bool r2]) ∧ Kd.R (Kd.int .i64) 3 w' w.heap.size (fun _ => True) v0_ r1 ∧ Below w.heap.size w w' := by
 have hu25 := Try.underlying25
 have HR0_0 := Aside0.mk hr0_0
 have HC0_0 := Aside0.mk hc0_0
 clear hr0_0 hc0_0
 have HR0_1 := Aside0.mk hr0_1
 have HC0_1 := Aside0.mk hc0_1
 clear hr0_1 hc0_1
 have HB := Aside0.mk (Below.refl w.heap.size w)
 have H : ((witness_Between.f k l0_0 l0_1 a0_2 0 a1).bind fun bt102 => (some (bt102.1, bt102.2))) = some (r1, r2) := h
 clear h
 replace H := Option.bind_eq_some_iff.mp H
 obtain ⟨⟨t102, t105⟩, A30, H⟩ := H
 (try dsimp only at H)
 have A3 := Aside0.mk A30
 clear A30
 simp only [Option.some.injEq, Prod.mk.injEq] at H
 obtain ⟨rfl, rfl⟩ := H
 go_enter Try.func18, Try.ntmps18
 go_wp2_with (first | ((with_reducible refine gate_dst (N := 2) rfl ?_); refine tBx 2 25 #[.slice A0_0 l0_0.length c0_0, .slice A0_1 l0_1.length c0_1, .bool a0_2] ?_; intro gb101 hg w4 hbox hb; have BK101 := Aside0.mk (hbox); have GW101 := tW HB hg; have GE101 := tW HB hg; replace HB := tA HB hb; clear hb hbox hg; obtain ⟨hcz5_0, hcz5_1, hcz5_2, hfz5_0, hfz5_1, hfz5_2⟩ := zc3 BK101) | ((with_reducible refine gate_callee (f := 16) rfl ?_); refine goesL_ (some 8) rfl rfl Try.func16 (by kernel_rfl) rfl #[.agg #[.slice A0_0 l0_0.length c0_0, .slice A0_1 l0_1.length c0_1, .bool a0_2], .int .i64 0, .int .i64 a1] rfl (by (try simp only [List.map_toArray, List.map_cons, List.map_nil]); first | done | rfl | (simp only [List.length_drop, List.length_take]; rfl)) ?_; (with_reducible refine (witness_Between.calls k _ _ l0_0 _ _ l0_1 a0_2 0 a1 t102 t105 _ (tG HR0_0 HB) HC0_0.out (tG HR0_1 HB) HC0_1.out A3.out).mono ?_); rintro e w6 ⟨v103, rfl, ho0, hb⟩; refine ⟨_, rfl, ?_⟩; have HO104 := Aside0.mk (Kd.R_lower ho0 (below_size (tB))); replace BK101 := tL BK101 hb; replace HB := tA HB hb; (try clear hb); (try clear hb2); (try clear hk); (try clear hi); (try clear ho0)))
 go_ret2
 exact ⟨_, tE, by (with_reducible repeat (first | apply Kd.R_alloc | apply Kd.R_drewN | apply Kd.R_drew)); exact HO104.out, tB⟩
mutual
def r09_Small.j0 : Nat → Bool → ByteArray → List (S71) → List (S74) → Option (ByteArray × (List (S71)) × (List (S74)) × Bool)
 | 0, _, _, _, _ => none
 | k + 1, x22, x102000, x102001, x102002 => if x22 = true then (some ((⟨#[]⟩ : ByteArray), ([] : List (S71)), ([] : List (S74)), false)) else (r09_Small.l0 k 0 x102000 x102001 x102002)
def r09_Small.l0 : Nat → Int → ByteArray → List (S71) → List (S74) → Option (ByteArray × (List (S71)) × (List (S74)) × Bool)
 | 0, _, _, _, _ => none
 | k + 1, x4, x102000, x102001, x102002 => if x4 < (x102001.length : Int) then (if 0 ≤ x4 then (if (((rd_T71 x102001 x4).f0).size : Int) > 20 then (some ((⟨#[]⟩ : ByteArray), ([] : List (S71)), ([] : List (S74)), false)) else (r09_Small.l0 k (wrap64 (x4 + 1)) x102000 x102001 x102002)) else (none)) else (r09_Small.l1 k 0 x102000 x102001 x102002)
def r09_Small.l1 : Nat → Int → ByteArray → List (S71) → List (S74) → Option (ByteArray × (List (S71)) × (List (S74)) × Bool)
 | 0, _, _, _, _ => none
 | k + 1, x5, x102000, x102001, x102002 => if x5 < (x102002.length : Int) then (if 0 ≤ x5 then (if (((rd_T74 x102002 x5).f0).size : Int) > 20 then (some ((⟨#[]⟩ : ByteArray), ([] : List (S71)), ([] : List (S74)), false)) else (if (((rd_T74 x102002 x5).f1).length : Int) > 26 then (some ((⟨#[]⟩ : ByteArray), ([] : List (S71)), ([] : List (S74)), false)) else (if (((rd_T74 x102002 x5).f2).length : Int) > 26 then (some ((⟨#[]⟩ : ByteArray), ([] : List (S71)), ([] : List (S74)), false)) else (if (((rd_T74 x102002 x5).f3).length : Int) > 26 then (some ((⟨#[]⟩ : ByteArray), ([] : List (S71)), ([] : List (S74)), false)) else (r09_Small.l1 k (wrap64 (x5 + 1)) x102000 x102001 x102002))))) else (none)) else (some (x102000, x102001, x102002, true))
end
def r09_Small.f (k : Nat) (a0_0 : ByteArray) (l0_1 : List (S71)) (l0_2 : List (S74)) : Option (ByteArray × (List (S71)) × (List (S74)) × Bool) := if (l0_1.length : Int) > 26 then (r09_Small.j0 k true a0_0 l0_1 l0_2) else (if (l0_2.length : Int) > 26 then (r09_Small.j0 k true a0_0 l0_1 l0_2) else (r09_Small.j0 k (decide ((a0_0.size : Int) > 20)) a0_0 l0_1 l0_2))
set_option maxHeartbeats 8000000 in
set_option maxRecDepth 100000 in
theorem r09_Small.calls (k : Nat) (a0_0 : ByteArray) (A0_1 : Option Addr) (c0_1 : Nat) (l0_1 : List (S71)) (A0_2 : Option Addr) (c0_2 : Nat) (l0_2 : List (S74)) (r1 : ByteArray) (r2 : List (S71)) (r3 : List (S74)) (r4 : Bool) (w : World) (hr0_1 : Kd.C k71 w A0_1 l0_1.length l0_1) (hc0_1 : l0_1.length ≤ c0_1) (hr0_2 : Kd.C k74 w A0_2 l0_2.length l0_2) (hc0_2 : l0_2.length ≤ c0_2) (h : r09_Small.f k a0_0 l0_1 l0_2 = some (r1, r2, r3, r4)) :
  Calls Try.prog 41 #[.agg #[.string a0_0, .slice A0_1 l0_1.length c0_1, .slice A0_2 l0_2.length c0_2]] w fun e w' => ∃ v1_ v2_ : Value, e = .returned (.tuple #[.agg #[.string r1, v1_, v2_], .bool r4]) ∧ (∃ A_ n_ c_, v1_ = .slice A_ n_ c_) ∧ (∃ A_ n_ c_, v2_ = .slice A_ n_ c_) ∧ Below w.heap.size w w' := by
 have hu39 := Try.underlying39
 have hu74 := Try.underlying74
 have HR0_1 := Aside0.mk hr0_1
 have HC0_1 := Aside0.mk hc0_1
 clear hr0_1 hc0_1
 have HR0_2 := Aside0.mk hr0_2
 have HC0_2 := Aside0.mk hc0_2
 clear hr0_2 hc0_2
 have HB := Aside0.mk (Below.refl w.heap.size w)
 have H : (if (l0_1.length : Int) > 26 then (r09_Small.j0 k true a0_0 l0_1 l0_2) else (if (l0_2.length : Int) > 26 then (r09_Small.j0 k true a0_0 l0_1 l0_2) else (r09_Small.j0 k (decide ((a0_0.size : Int) > 20)) a0_0 l0_1 l0_2))) = some (r1, r2, r3, r4) := h
 clear h
 have HC2 := Aside0.mk H
 clear H
 go_enter Try.func41, Try.ntmps41
 go_upto_region 1 with (first | ((with_reducible refine gate_dst (N := 1) rfl ?_); (try (refine gate_guard (by rfl) ?_; dsimp only)); refine tBx 1 39 #[.string a0_0, .slice A0_1 l0_1.length c0_1, .slice A0_2 l0_2.length c0_2] ?_; intro gb101 hg w3 hbox hb; have BK101 := Aside0.mk (hbox); have GW101 := tW HB hg; have GE101 := tW HB hg; replace HB := tA HB hb; clear hb hbox hg) | ((with_reducible refine gate_dst (N := 2) rfl ?_); (try (refine gate_guard (by rfl) ?_; dsimp only)); refine tBx 2 39 #[.string (⟨#[]⟩ : ByteArray), .slice none 0 0, .slice none 0 0] ?_; intro gb102 hg w4 hbox hb; have BK102 := Aside0.mk (hbox); have GW102 := tW HB hg; have GE102 := tW HB hg; replace HB := tA HB hb; have NB101_102 := tNl BK101 hg; have NB102_101 := tNg BK101 hg; replace BK101 := tL BK101 hb; clear hb hbox hg))
 (try simp only [Act.put, List.setIfInBounds_toArray, List.set_cons_zero, List.set_cons_succ])
 go_cut [22] (fun v22 wc => ∃ (kq : Nat) (x22_1 : Bool), v22 = .bool x22_1 ∧ Aside0 (r09_Small.j0 kq x22_1 a0_0 l0_1 l0_2 = some (r1, r2, r3, r4)) ∧ Aside0 (kq ≤ k) ∧ Aside0 (wc.heap[gb101]? = some (.cells #[.string a0_0, (.slice A0_1 l0_1.length c0_1), (.slice A0_2 l0_2.length c0_2)] 39 (0, 0))) ∧ Aside0 (wc.heap[gb102]? = some (.cells #[.string (⟨#[]⟩ : ByteArray), (.slice none 0 0), (.slice none 0 0)] 39 (0, 0))) ∧ Aside0 (Below w.heap.size w wc))
 case first =>
  have H := HC2.out
  clear HC2
  by_cases c5 : (l0_1.length : Int) > 26
  ·rw [if_pos c5] at H
   have c5b0 := tdGi c5
   have c5b1 : decide (26 < l0_1.length) = true := decide_eq_true (by omega)
   clear c5
   (first | rw [c5b0] | (simp only [i64_w, i32_w]; rw [c5b0]) | skip)
   have H' := Aside0.mk H
   clear H
   have hnb6 := NB101_102.out
   have hnc6 := NB102_101.out
   obtain ⟨hcz7_0, hcz7_1, hcz7_2, hfz7_0, hfz7_1, hfz7_2⟩ := zc3 BK101
   go_wp2
   go_meet
   case rel => exact ⟨_, (true), tU, H', ⟨by first | omega | exact Nat.le_refl _⟩, ⟨tK BK101⟩, ⟨tK BK102⟩, ⟨tB⟩⟩
  rw [if_neg c5] at H
  have c5b0 := tdHi c5
  have c5b1 : decide (26 < l0_1.length) = false := decide_eq_false (by omega)
  clear c5
  (first | rw [c5b0] | (simp only [i64_w, i32_w]; rw [c5b0]) | skip)
  by_cases c8 : (l0_2.length : Int) > 26
  ·rw [if_pos c8] at H
   have c8b0 := tdGi c8
   have c8b1 : decide (26 < l0_2.length) = true := decide_eq_true (by omega)
   clear c8
   have H' := Aside0.mk H
   clear H
   have hnb9 := NB101_102.out
   have hnc9 := NB102_101.out
   obtain ⟨hcz10_0, hcz10_1, hcz10_2, hfz10_0, hfz10_1, hfz10_2⟩ := zc3 BK101
   go_wp2
   go_meet
   case rel => exact ⟨_, (true), tU, H', ⟨by first | omega | exact Nat.le_refl _⟩, ⟨tK BK101⟩, ⟨tK BK102⟩, ⟨tB⟩⟩
  rw [if_neg c8] at H
  have c8b0 := tdHi c8
  have c8b1 : decide (26 < l0_2.length) = false := decide_eq_false (by omega)
  clear c8
  have H' := Aside0.mk H
  clear H
  have hnb11 := NB101_102.out
  have hnc11 := NB102_101.out
  obtain ⟨hcz12_0, hcz12_1, hcz12_2, hfz12_0, hfz12_1, hfz12_2⟩ := zc3 BK101
  go_wp2
  go_meet
  case rel => exact ⟨_, (decide ((a0_0.size : Int) > 20)), tU, H', ⟨by first | omega | exact Nat.le_refl _⟩, ⟨tK BK101⟩, ⟨tK BK102⟩, ⟨tB⟩⟩
 case rest =>
  clear HC2
  (try clear c1); (try clear p2); (try clear c4); (try clear c5); (try clear c5b0); (try clear c5b1); (try clear c6); (try clear c8); (try clear c8b0); (try clear c8b1); (try clear c9); (try clear c11); (try clear hcz10_0 hcz10_1 hcz10_2 hfz10_0 hfz10_1 hfz10_2); (try clear hcz12_0 hcz12_1 hcz12_2 hfz12_0 hfz12_1 hfz12_2); (try clear hcz7_0 hcz7_1 hcz7_2 hfz7_0 hfz7_1 hfz7_2)
  obtain ⟨kq, x22_1, rfl, HA, HJ1, BK101, BK102, HB⟩ := hcut
  cases kq with
  | zero => exact absurd HA.out (by simp [r09_Small.j0])
  | succ kj1 =>
   have H := HA.out
   clear HA
   simp only [r09_Small.j0] at H
   by_cases c13 : x22_1 = true
   ·subst c13
    rw [if_pos rfl] at H
    simp only [Option.some.injEq, Prod.mk.injEq] at H
    obtain ⟨rfl, rfl, rfl, rfl⟩ := H
    have hnb14 := NB102_101.out
    have hnc14 := NB101_102.out
    obtain ⟨hcz15_0, hcz15_1, hcz15_2, hfz15_0, hfz15_1, hfz15_2⟩ := zc3 BK102
    go_wp2
    refine bodyPost_ret (results_ct rfl _ _ gb102 39 #[.string (⟨#[]⟩ : ByteArray), .slice none 0 0, .slice none 0 0] (0, 0) _ rfl (by (with_reducible repeat (first | refine blk_drewN ?_ _ | refine blk_drew ?_ | refine blk_alloc ?_ _)); refine blk_put (cs := #[.string (⟨#[]⟩ : ByteArray), .slice none 0 0, .slice none 0 0]) ?_ 2 _ rfl; (with_reducible repeat (first | refine blk_drewN ?_ _ | refine blk_drew ?_ | refine blk_alloc ?_ _)); refine blk_put (cs := #[.string (⟨#[]⟩ : ByteArray), .slice none 0 0, .slice none 0 0]) ?_ 1 _ rfl; (with_reducible repeat (first | refine blk_drewN ?_ _ | refine blk_drew ?_ | refine blk_alloc ?_ _)); refine blk_put (cs := #[.string (⟨#[]⟩ : ByteArray), .slice none 0 0, .slice none 0 0]) ?_ 0 _ rfl; (with_reducible repeat (first | refine blk_drewN ?_ _ | refine blk_drew ?_ | refine blk_alloc ?_ _)); exact BK102.out) Try.underlying39 rfl (by kernel_rfl)) rfl ?_
    exact ⟨_, _, tE, ⟨_, _, _, rfl⟩, ⟨_, _, _, rfl⟩, tB⟩
   replace c13 := Bool.eq_false_iff.mpr c13
   subst c13
   rw [if_neg (show ¬ (false = true) by decide)] at H
   have H' := Aside0.mk H
   clear H
   go_wp2
   go_loopg [4] kj1 (fun kq v4 w' => ∃ (x4_2 : Int) (x103000_2 : ByteArray), v4 = .int .i64 x4_2 ∧ Aside0 (r09_Small.l0 kq x4_2 a0_0 l0_1 l0_2 = some (r1, r2, r3, r4)) ∧ Aside0 (kq ≤ kj1) ∧ Aside0 (w'.heap[gb101]? = some (.cells #[.string a0_0, (.slice A0_1 l0_1.length c0_1), (.slice A0_2 l0_2.length c0_2)] 39 (0, 0))) ∧ Aside0 (w'.heap[gb102]? = some (.cells #[.string x103000_2, (.slice none 0 0), (.slice none 0 0)] 39 (0, 0))) ∧ Aside0 (Below w.heap.size w w'))
   case atStart => exact ⟨(0), ((⟨#[]⟩ : ByteArray)), tU, H', ⟨Nat.le_refl _⟩, ⟨tK BK101⟩, ⟨tK BK102⟩, ⟨tB⟩⟩
   case round =>
    clear H'
    (try clear c1); (try clear p2); (try clear c4); (try clear c5); (try clear c5b0); (try clear c5b1); (try clear c6); (try clear c8); (try clear c8b0); (try clear c8b1); (try clear c9); (try clear c11); (try clear c13); (try clear c14); (try clear hcz10_0 hcz10_1 hcz10_2 hfz10_0 hfz10_1 hfz10_2); (try clear hcz12_0 hcz12_1 hcz12_2 hfz12_0 hfz12_1 hfz12_2); (try clear hcz15_0 hcz15_1 hcz15_2 hfz15_0 hfz15_1 hfz15_2); (try clear hcz7_0 hcz7_1 hcz7_2 hfz7_0 hfz7_1 hfz7_2)
    obtain ⟨x4_2, x103000_2, rfl, HA, HK2, BK101, BK102, HB⟩ := hrel
    cases gk with
    | zero => exact absurd HA.out (by simp [r09_Small.l0])
    | succ k2 =>
     have H := HA.out
     clear HA
     simp only [r09_Small.l0] at H
     by_cases c16 : x4_2 < (l0_1.length : Int)
     ·rw [if_pos c16] at H
      have c16b0 := decide_eq_true c16
      clear c16
      replace H := tF H
      obtain ⟨c17, H⟩ := H
      have c17b0 := decide_eq_true c17
      clear c17
      by_cases c18 : (((rd_T71 l0_1 x4_2).f0).size : Int) > 20
      ·rw [if_pos c18] at H
       have c18b0 := tdGi c18
       have c18b1 : decide (20 < ((rd_T71 l0_1 x4_2).f0).size) = true := decide_eq_true (by omega)
       clear c18
       simp only [Option.some.injEq, Prod.mk.injEq] at H
       obtain ⟨rfl, rfl, rfl, rfl⟩ := H
       have hnb19 := NB101_102.out
       have hnc19 := NB102_101.out
       obtain ⟨hcz20_0, hcz20_1, hcz20_2, hfz20_0, hfz20_1, hfz20_2⟩ := zc3 BK101
       have p103 : 0 ≤ (x4_2 : Int) := tD
       have q103 : x4_2 < (l0_1.length : Int) := tD
       obtain ⟨ad103, e103, hx103_0, hx103_1, hx103_2⟩ := at_T71 HR0_1.out x4_2 p103 q103
       cases e103
       replace hx103_0 := tH HB hx103_0
       replace hx103_1 := tH HB hx103_1
       replace hx103_2 := tH HB hx103_2
       replace p103 := eq_true p103
       replace q103 := eq_true q103
       obtain ⟨hcz21_0, hcz21_1, hcz21_2, hfz21_0, hfz21_1, hfz21_2⟩ := zc3 BK102
       go_wp2
       refine bodyPost_ret (results_ct rfl _ _ gb102 39 #[.string (⟨#[]⟩ : ByteArray), .slice none 0 0, .slice none 0 0] (0, 0) _ rfl (by (with_reducible repeat (first | refine blk_drewN ?_ _ | refine blk_drew ?_ | refine blk_alloc ?_ _)); refine blk_put (cs := #[.string (⟨#[]⟩ : ByteArray), .slice none 0 0, .slice none 0 0]) ?_ 2 _ rfl; (with_reducible repeat (first | refine blk_drewN ?_ _ | refine blk_drew ?_ | refine blk_alloc ?_ _)); refine blk_put (cs := #[.string (⟨#[]⟩ : ByteArray), .slice none 0 0, .slice none 0 0]) ?_ 1 _ rfl; (with_reducible repeat (first | refine blk_drewN ?_ _ | refine blk_drew ?_ | refine blk_alloc ?_ _)); refine blk_put (cs := #[.string x103000_2, .slice none 0 0, .slice none 0 0]) ?_ 0 _ rfl; (with_reducible repeat (first | refine blk_drewN ?_ _ | refine blk_drew ?_ | refine blk_alloc ?_ _)); exact BK102.out) Try.underlying39 rfl (by kernel_rfl)) rfl ?_
       exact ⟨_, _, tE, ⟨_, _, _, rfl⟩, ⟨_, _, _, rfl⟩, tB⟩
      rw [if_neg c18] at H
      have c18b0 := tdHi c18
      have c18b1 : decide (20 < ((rd_T71 l0_1 x4_2).f0).size) = false := decide_eq_false (by omega)
      clear c18
      have H' := Aside0.mk H
      clear H
      have hnb22 := NB101_102.out
      have hnc22 := NB102_101.out
      obtain ⟨hcz23_0, hcz23_1, hcz23_2, hfz23_0, hfz23_1, hfz23_2⟩ := zc3 BK101
      have p103 : 0 ≤ (x4_2 : Int) := tD
      have q103 : x4_2 < (l0_1.length : Int) := tD
      obtain ⟨ad103, e103, hx103_0, hx103_1, hx103_2⟩ := at_T71 HR0_1.out x4_2 p103 q103
      cases e103
      replace hx103_0 := tH HB hx103_0
      replace hx103_1 := tH HB hx103_1
      replace hx103_2 := tH HB hx103_2
      replace p103 := eq_true p103
      replace q103 := eq_true q103
      go_wp2
      go_roundg k2
      case measure => have := HJ1.out; have := HK2.out; omega
      case rel => exact ⟨(wrap64 (x4_2 + 1)), (x103000_2), tU, H', ⟨by have := HJ1.out; have := HK2.out; omega⟩, ⟨tK BK101⟩, ⟨tK BK102⟩, ⟨tB⟩⟩
     rw [if_neg c16] at H
     have c16b0 := decide_eq_false c16
     clear c16
     have H' := Aside0.mk H
     clear H
     have hnb24 := NB101_102.out
     have hnc24 := NB102_101.out
     obtain ⟨hcz25_0, hcz25_1, hcz25_2, hfz25_0, hfz25_1, hfz25_2⟩ := zc3 BK101
     go_wp2
     go_loopg [5] k2 (fun kq v5 w' => ∃ (x5_3 : Int) (x103000_3 : ByteArray), v5 = .int .i64 x5_3 ∧ Aside0 (r09_Small.l1 kq x5_3 a0_0 l0_1 l0_2 = some (r1, r2, r3, r4)) ∧ Aside0 (kq ≤ k2) ∧ Aside0 (w'.heap[gb101]? = some (.cells #[.string a0_0, (.slice A0_1 l0_1.length c0_1), (.slice A0_2 l0_2.length c0_2)] 39 (0, 0))) ∧ Aside0 (w'.heap[gb102]? = some (.cells #[.string x103000_3, (.slice none 0 0), (.slice none 0 0)] 39 (0, 0))) ∧ Aside0 (Below w.heap.size w w'))
     case atStart => exact ⟨(0), (x103000_2), tU, H', ⟨Nat.le_refl _⟩, ⟨tK BK101⟩, ⟨tK BK102⟩, ⟨tB⟩⟩
     case round =>
      clear H'
      (try clear c1); (try clear p1); (try clear q1); (try clear hx1); (try clear c2); (try clear p2); (try clear c4); (try clear c5); (try clear c5b0); (try clear c5b1); (try clear c6); (try clear p6); (try clear c8); (try clear c8b0); (try clear c8b1); (try clear c9); (try clear p10); (try clear q10); (try clear hx10); (try clear c11); (try clear c13); (try clear c14); (try clear c16); (try clear c16b0); (try clear c17); (try clear c17b0); (try clear c18); (try clear c18b0); (try clear c18b1); (try clear c19); (try clear c22); (try clear c24); (try clear hcz10_0 hcz10_1 hcz10_2 hfz10_0 hfz10_1 hfz10_2); (try clear hcz12_0 hcz12_1 hcz12_2 hfz12_0 hfz12_1 hfz12_2); (try clear hcz15_0 hcz15_1 hcz15_2 hfz15_0 hfz15_1 hfz15_2); (try clear hcz20_0 hcz20_1 hcz20_2 hfz20_0 hfz20_1 hfz20_2); (try clear hcz21_0 hcz21_1 hcz21_2 hfz21_0 hfz21_1 hfz21_2); (try clear hcz23_0 hcz23_1 hcz23_2 hfz23_0 hfz23_1 hfz23_2); (try clear hcz25_0 hcz25_1 hcz25_2 hfz25_0 hfz25_1 hfz25_2); (try clear hcz7_0 hcz7_1 hcz7_2 hfz7_0 hfz7_1 hfz7_2); (try clear hx103_0); (try clear hx103_1); (try clear hx103_2); (try clear p103); (try clear q103)
      obtain ⟨x5_3, x103000_3, rfl, HA, HK3, BK101, BK102, HB⟩ := hrel
      cases gk with
      | zero => exact absurd HA.out (by simp [r09_Small.l1])
      | succ k3 =>
       have H := HA.out
       clear HA
       simp only [r09_Small.l1] at H
       by_cases c26 : x5_3 < (l0_2.length : Int)
       ·rw [if_pos c26] at H
        have c26b0 := decide_eq_true c26
        clear c26
        replace H := tF H
        obtain ⟨c27, H⟩ := H
        have c27b0 := decide_eq_true c27
        clear c27
        by_cases c28 : (((rd_T74 l0_2 x5_3).f0).size : Int) > 20
        ·rw [if_pos c28] at H
         have c28b0 := tdGi c28
         have c28b1 : decide (20 < ((rd_T74 l0_2 x5_3).f0).size) = true := decide_eq_true (by omega)
         clear c28
         simp only [Option.some.injEq, Prod.mk.injEq] at H
         obtain ⟨rfl, rfl, rfl, rfl⟩ := H
         have hnb29 := NB101_102.out
         have hnc29 := NB102_101.out
         obtain ⟨hcz30_0, hcz30_1, hcz30_2, hfz30_0, hfz30_1, hfz30_2⟩ := zc3 BK101
         have p104 : 0 ≤ (x5_3 : Int) := tD
         have q104 : x5_3 < (l0_2.length : Int) := tD
         obtain ⟨ad104, A104_1, c104_1, A104_2, c104_2, A104_3, c104_3, e104, hx104_0, hx104_1, hx104_2, hx104_3, hx104_4, hl104_1, hi104_1, hl104_2, hi104_2, hl104_3, hi104_3⟩ := at_T74 HR0_2.out x5_3 p104 q104
         cases e104
         replace hx104_0 := tH HB hx104_0
         replace hx104_1 := tH HB hx104_1
         replace hx104_2 := tH HB hx104_2
         replace hx104_3 := tH HB hx104_3
         replace hx104_4 := tH HB hx104_4
         have HR104_1 := Aside0.mk hi104_1
         have HC104_1 := Aside0.mk hl104_1
         clear hi104_1 hl104_1
         have HR104_2 := Aside0.mk hi104_2
         have HC104_2 := Aside0.mk hl104_2
         clear hi104_2 hl104_2
         have HR104_3 := Aside0.mk hi104_3
         have HC104_3 := Aside0.mk hl104_3
         clear hi104_3 hl104_3
         replace p104 := eq_true p104
         replace q104 := eq_true q104
         go_wp2_with (first | ((with_reducible refine gate_dst (N := 6) rfl ?_); (try (refine gate_guard (by rfl) ?_; dsimp only)); refine tBx 6 74 #[.string (⟨#[]⟩ : ByteArray), .slice none 0 0, .slice none 0 0, .slice none 0 0, .int .i64 0] ?_; intro gb105 hg w31 hbox hb; have BK105 := Aside0.mk (hbox); have GW105 := tW HB hg; have GE105 := tW HB hg; replace HB := tA HB hb; have NB101_105 := tNl BK101 hg; have NB105_101 := tNg BK101 hg; replace BK101 := tL BK101 hb; have NB102_105 := tNl BK102 hg; have NB105_102 := tNg BK102 hg; replace BK102 := tL BK102 hb; clear hb hbox hg; have hnb32 := NB105_101.out; have hnc32 := NB101_105.out; have hnb33 := NB105_102.out; have hnc33 := NB102_105.out; obtain ⟨hcz34_0, hcz34_1, hcz34_2, hcz34_3, hcz34_4, hfz34_0, hfz34_1, hfz34_2, hfz34_3, hfz34_4⟩ := zc5 BK105; obtain ⟨hcz35_0, hcz35_1, hcz35_2, hfz35_0, hfz35_1, hfz35_2⟩ := zc3 BK102))
         refine bodyPost_ret (results_ct rfl _ _ gb102 39 #[.string (⟨#[]⟩ : ByteArray), .slice none 0 0, .slice none 0 0] (0, 0) _ rfl (by (with_reducible repeat (first | refine blk_drewN ?_ _ | refine blk_drew ?_ | refine blk_alloc ?_ _)); refine blk_put (cs := #[.string (⟨#[]⟩ : ByteArray), .slice none 0 0, .slice none 0 0]) ?_ 2 _ rfl; (with_reducible repeat (first | refine blk_drewN ?_ _ | refine blk_drew ?_ | refine blk_alloc ?_ _)); refine blk_put (cs := #[.string (⟨#[]⟩ : ByteArray), .slice none 0 0, .slice none 0 0]) ?_ 1 _ rfl; (with_reducible repeat (first | refine blk_drewN ?_ _ | refine blk_drew ?_ | refine blk_alloc ?_ _)); refine blk_put (cs := #[.string x103000_3, .slice none 0 0, .slice none 0 0]) ?_ 0 _ rfl; (with_reducible repeat (first | refine blk_drewN ?_ _ | refine blk_drew ?_ | refine blk_alloc ?_ _)); refine blk_far ?_ NB102_105.out _; (with_reducible repeat (first | refine blk_drewN ?_ _ | refine blk_drew ?_ | refine blk_alloc ?_ _)); refine blk_far ?_ NB102_105.out _; (with_reducible repeat (first | refine blk_drewN ?_ _ | refine blk_drew ?_ | refine blk_alloc ?_ _)); refine blk_far ?_ NB102_105.out _; (with_reducible repeat (first | refine blk_drewN ?_ _ | refine blk_drew ?_ | refine blk_alloc ?_ _)); refine blk_far ?_ NB102_105.out _; (with_reducible repeat (first | refine blk_drewN ?_ _ | refine blk_drew ?_ | refine blk_alloc ?_ _)); refine blk_far ?_ NB102_105.out _; (with_reducible repeat (first | refine blk_drewN ?_ _ | refine blk_drew ?_ | refine blk_alloc ?_ _)); exact BK102.out) Try.underlying39 rfl (by kernel_rfl)) rfl ?_
         exact ⟨_, _, tE, ⟨_, _, _, rfl⟩, ⟨_, _, _, rfl⟩, tB⟩
        rw [if_neg c28] at H
        have c28b0 := tdHi c28
        have c28b1 : decide (20 < ((rd_T74 l0_2 x5_3).f0).size) = false := decide_eq_false (by omega)
        clear c28
        by_cases c36 : (((rd_T74 l0_2 x5_3).f1).length : Int) > 26
        ·rw [if_pos c36] at H
         have c36b0 := tdGi c36
         have c36b1 : decide (26 < ((rd_T74 l0_2 x5_3).f1).length) = true := decide_eq_true (by omega)
         clear c36
         simp only [Option.some.injEq, Prod.mk.injEq] at H
         obtain ⟨rfl, rfl, rfl, rfl⟩ := H
         have hnb37 := NB101_102.out
         have hnc37 := NB102_101.out
         obtain ⟨hcz38_0, hcz38_1, hcz38_2, hfz38_0, hfz38_1, hfz38_2⟩ := zc3 BK101
         have p104 : 0 ≤ (x5_3 : Int) := tD
         have q104 : x5_3 < (l0_2.length : Int) := tD
         obtain ⟨ad104, A104_1, c104_1, A104_2, c104_2, A104_3, c104_3, e104, hx104_0, hx104_1, hx104_2, hx104_3, hx104_4, hl104_1, hi104_1, hl104_2, hi104_2, hl104_3, hi104_3⟩ := at_T74 HR0_2.out x5_3 p104 q104
         cases e104
         replace hx104_0 := tH HB hx104_0
         replace hx104_1 := tH HB hx104_1
         replace hx104_2 := tH HB hx104_2
         replace hx104_3 := tH HB hx104_3
         replace hx104_4 := tH HB hx104_4
         have HR104_1 := Aside0.mk hi104_1
         have HC104_1 := Aside0.mk hl104_1
         clear hi104_1 hl104_1
         have HR104_2 := Aside0.mk hi104_2
         have HC104_2 := Aside0.mk hl104_2
         clear hi104_2 hl104_2
         have HR104_3 := Aside0.mk hi104_3
         have HC104_3 := Aside0.mk hl104_3
         clear hi104_3 hl104_3
         replace p104 := eq_true p104
         replace q104 := eq_true q104
         go_wp2_with (first | ((with_reducible refine gate_dst (N := 6) rfl ?_); (try (refine gate_guard (by rfl) ?_; dsimp only)); refine tBx 6 74 #[.string (⟨#[]⟩ : ByteArray), .slice none 0 0, .slice none 0 0, .slice none 0 0, .int .i64 0] ?_; intro gb105 hg w39 hbox hb; have BK105 := Aside0.mk (hbox); have GW105 := tW HB hg; have GE105 := tW HB hg; replace HB := tA HB hb; have NB101_105 := tNl BK101 hg; have NB105_101 := tNg BK101 hg; replace BK101 := tL BK101 hb; have NB102_105 := tNl BK102 hg; have NB105_102 := tNg BK102 hg; replace BK102 := tL BK102 hb; clear hb hbox hg; have hnb40 := NB105_101.out; have hnc40 := NB101_105.out; have hnb41 := NB105_102.out; have hnc41 := NB102_105.out; obtain ⟨hcz42_0, hcz42_1, hcz42_2, hcz42_3, hcz42_4, hfz42_0, hfz42_1, hfz42_2, hfz42_3, hfz42_4⟩ := zc5 BK105; obtain ⟨hcz43_0, hcz43_1, hcz43_2, hfz43_0, hfz43_1, hfz43_2⟩ := zc3 BK102))
         refine bodyPost_ret (results_ct rfl _ _ gb102 39 #[.string (⟨#[]⟩ : ByteArray), .slice none 0 0, .slice none 0 0] (0, 0) _ rfl (by (with_reducible repeat (first | refine blk_drewN ?_ _ | refine blk_drew ?_ | refine blk_alloc ?_ _)); refine blk_put (cs := #[.string (⟨#[]⟩ : ByteArray), .slice none 0 0, .slice none 0 0]) ?_ 2 _ rfl; (with_reducible repeat (first | refine blk_drewN ?_ _ | refine blk_drew ?_ | refine blk_alloc ?_ _)); refine blk_put (cs := #[.string (⟨#[]⟩ : ByteArray), .slice none 0 0, .slice none 0 0]) ?_ 1 _ rfl; (with_reducible repeat (first | refine blk_drewN ?_ _ | refine blk_drew ?_ | refine blk_alloc ?_ _)); refine blk_put (cs := #[.string x103000_3, .slice none 0 0, .slice none 0 0]) ?_ 0 _ rfl; (with_reducible repeat (first | refine blk_drewN ?_ _ | refine blk_drew ?_ | refine blk_alloc ?_ _)); refine blk_far ?_ NB102_105.out _; (with_reducible repeat (first | refine blk_drewN ?_ _ | refine blk_drew ?_ | refine blk_alloc ?_ _)); refine blk_far ?_ NB102_105.out _; (with_reducible repeat (first | refine blk_drewN ?_ _ | refine blk_drew ?_ | refine blk_alloc ?_ _)); refine blk_far ?_ NB102_105.out _; (with_reducible repeat (first | refine blk_drewN ?_ _ | refine blk_drew ?_ | refine blk_alloc ?_ _)); refine blk_far ?_ NB102_105.out _; (with_reducible repeat (first | refine blk_drewN ?_ _ | refine blk_drew ?_ | refine blk_alloc ?_ _)); refine blk_far ?_ NB102_105.out _; (with_reducible repeat (first | refine blk_drewN ?_ _ | refine blk_drew ?_ | refine blk_alloc ?_ _)); exact BK102.out) Try.underlying39 rfl (by kernel_rfl)) rfl ?_
         exact ⟨_, _, tE, ⟨_, _, _, rfl⟩, ⟨_, _, _, rfl⟩, tB⟩
        rw [if_neg c36] at H
        have c36b0 := tdHi c36
        have c36b1 : decide (26 < ((rd_T74 l0_2 x5_3).f1).length) = false := decide_eq_false (by omega)
        clear c36
        by_cases c44 : (((rd_T74 l0_2 x5_3).f2).length : Int) > 26
        ·rw [if_pos c44] at H
         have c44b0 := tdGi c44
         have c44b1 : decide (26 < ((rd_T74 l0_2 x5_3).f2).length) = true := decide_eq_true (by omega)
         clear c44
         simp only [Option.some.injEq, Prod.mk.injEq] at H
         obtain ⟨rfl, rfl, rfl, rfl⟩ := H
         have hnb45 := NB101_102.out
         have hnc45 := NB102_101.out
         obtain ⟨hcz46_0, hcz46_1, hcz46_2, hfz46_0, hfz46_1, hfz46_2⟩ := zc3 BK101
         have p104 : 0 ≤ (x5_3 : Int) := tD
         have q104 : x5_3 < (l0_2.length : Int) := tD
         obtain ⟨ad104, A104_1, c104_1, A104_2, c104_2, A104_3, c104_3, e104, hx104_0, hx104_1, hx104_2, hx104_3, hx104_4, hl104_1, hi104_1, hl104_2, hi104_2, hl104_3, hi104_3⟩ := at_T74 HR0_2.out x5_3 p104 q104
         cases e104
         replace hx104_0 := tH HB hx104_0
         replace hx104_1 := tH HB hx104_1
         replace hx104_2 := tH HB hx104_2
         replace hx104_3 := tH HB hx104_3
         replace hx104_4 := tH HB hx104_4
         have HR104_1 := Aside0.mk hi104_1
         have HC104_1 := Aside0.mk hl104_1
         clear hi104_1 hl104_1
         have HR104_2 := Aside0.mk hi104_2
         have HC104_2 := Aside0.mk hl104_2
         clear hi104_2 hl104_2
         have HR104_3 := Aside0.mk hi104_3
         have HC104_3 := Aside0.mk hl104_3
         clear hi104_3 hl104_3
         replace p104 := eq_true p104
         replace q104 := eq_true q104
         go_wp2_with (first | ((with_reducible refine gate_dst (N := 6) rfl ?_); (try (refine gate_guard (by rfl) ?_; dsimp only)); refine tBx 6 74 #[.string (⟨#[]⟩ : ByteArray), .slice none 0 0, .slice none 0 0, .slice none 0 0, .int .i64 0] ?_; intro gb105 hg w47 hbox hb; have BK105 := Aside0.mk (hbox); have GW105 := tW HB hg; have GE105 := tW HB hg; replace HB := tA HB hb; have NB101_105 := tNl BK101 hg; have NB105_101 := tNg BK101 hg; replace BK101 := tL BK101 hb; have NB102_105 := tNl BK102 hg; have NB105_102 := tNg BK102 hg; replace BK102 := tL BK102 hb; clear hb hbox hg; have hnb48 := NB105_101.out; have hnc48 := NB101_105.out; have hnb49 := NB105_102.out; have hnc49 := NB102_105.out; obtain ⟨hcz50_0, hcz50_1, hcz50_2, hcz50_3, hcz50_4, hfz50_0, hfz50_1, hfz50_2, hfz50_3, hfz50_4⟩ := zc5 BK105; obtain ⟨hcz51_0, hcz51_1, hcz51_2, hfz51_0, hfz51_1, hfz51_2⟩ := zc3 BK102))
         refine bodyPost_ret (results_ct rfl _ _ gb102 39 #[.string (⟨#[]⟩ : ByteArray), .slice none 0 0, .slice none 0 0] (0, 0) _ rfl (by (with_reducible repeat (first | refine blk_drewN ?_ _ | refine blk_drew ?_ | refine blk_alloc ?_ _)); refine blk_put (cs := #[.string (⟨#[]⟩ : ByteArray), .slice none 0 0, .slice none 0 0]) ?_ 2 _ rfl; (with_reducible repeat (first | refine blk_drewN ?_ _ | refine blk_drew ?_ | refine blk_alloc ?_ _)); refine blk_put (cs := #[.string (⟨#[]⟩ : ByteArray), .slice none 0 0, .slice none 0 0]) ?_ 1 _ rfl; (with_reducible repeat (first | refine blk_drewN ?_ _ | refine blk_drew ?_ | refine blk_alloc ?_ _)); refine blk_put (cs := #[.string x103000_3, .slice none 0 0, .slice none 0 0]) ?_ 0 _ rfl; (with_reducible repeat (first | refine blk_drewN ?_ _ | refine blk_drew ?_ | refine blk_alloc ?_ _)); refine blk_far ?_ NB102_105.out _; (with_reducible repeat (first | refine blk_drewN ?_ _ | refine blk_drew ?_ | refine blk_alloc ?_ _)); refine blk_far ?_ NB102_105.out _; (with_reducible repeat (first | refine blk_drewN ?_ _ | refine blk_drew ?_ | refine blk_alloc ?_ _)); refine blk_far ?_ NB102_105.out _; (with_reducible repeat (first | refine blk_drewN ?_ _ | refine blk_drew ?_ | refine blk_alloc ?_ _)); refine blk_far ?_ NB102_105.out _; (with_reducible repeat (first | refine blk_drewN ?_ _ | refine blk_drew ?_ | refine blk_alloc ?_ _)); refine blk_far ?_ NB102_105.out _; (with_reducible repeat (first | refine blk_drewN ?_ _ | refine blk_drew ?_ | refine blk_alloc ?_ _)); exact BK102.out) Try.underlying39 rfl (by kernel_rfl)) rfl ?_
         exact ⟨_, _, tE, ⟨_, _, _, rfl⟩, ⟨_, _, _, rfl⟩, tB⟩
        rw [if_neg c44] at H
        have c44b0 := tdHi c44
        have c44b1 : decide (26 < ((rd_T74 l0_2 x5_3).f2).length) = false := decide_eq_false (by omega)
        clear c44
        by_cases c52 : (((rd_T74 l0_2 x5_3).f3).length : Int) > 26
        ·rw [if_pos c52] at H
         have c52b0 := tdGi c52
         have c52b1 : decide (26 < ((rd_T74 l0_2 x5_3).f3).length) = true := decide_eq_true (by omega)
         clear c52
         simp only [Option.some.injEq, Prod.mk.injEq] at H
         obtain ⟨rfl, rfl, rfl, rfl⟩ := H
         have hnb53 := NB101_102.out
         have hnc53 := NB102_101.out
         obtain ⟨hcz54_0, hcz54_1, hcz54_2, hfz54_0, hfz54_1, hfz54_2⟩ := zc3 BK101
         have p104 : 0 ≤ (x5_3 : Int) := tD
         have q104 : x5_3 < (l0_2.length : Int) := tD
         obtain ⟨ad104, A104_1, c104_1, A104_2, c104_2, A104_3, c104_3, e104, hx104_0, hx104_1, hx104_2, hx104_3, hx104_4, hl104_1, hi104_1, hl104_2, hi104_2, hl104_3, hi104_3⟩ := at_T74 HR0_2.out x5_3 p104 q104
         cases e104
         replace hx104_0 := tH HB hx104_0
         replace hx104_1 := tH HB hx104_1
         replace hx104_2 := tH HB hx104_2
         replace hx104_3 := tH HB hx104_3
         replace hx104_4 := tH HB hx104_4
         have HR104_1 := Aside0.mk hi104_1
         have HC104_1 := Aside0.mk hl104_1
         clear hi104_1 hl104_1
         have HR104_2 := Aside0.mk hi104_2
         have HC104_2 := Aside0.mk hl104_2
         clear hi104_2 hl104_2
         have HR104_3 := Aside0.mk hi104_3
         have HC104_3 := Aside0.mk hl104_3
         clear hi104_3 hl104_3
         replace p104 := eq_true p104
         replace q104 := eq_true q104
         go_wp2_with (first | ((with_reducible refine gate_dst (N := 6) rfl ?_); (try (refine gate_guard (by rfl) ?_; dsimp only)); refine tBx 6 74 #[.string (⟨#[]⟩ : ByteArray), .slice none 0 0, .slice none 0 0, .slice none 0 0, .int .i64 0] ?_; intro gb105 hg w55 hbox hb; have BK105 := Aside0.mk (hbox); have GW105 := tW HB hg; have GE105 := tW HB hg; replace HB := tA HB hb; have NB101_105 := tNl BK101 hg; have NB105_101 := tNg BK101 hg; replace BK101 := tL BK101 hb; have NB102_105 := tNl BK102 hg; have NB105_102 := tNg BK102 hg; replace BK102 := tL BK102 hb; clear hb hbox hg; have hnb56 := NB105_101.out; have hnc56 := NB101_105.out; have hnb57 := NB105_102.out; have hnc57 := NB102_105.out; obtain ⟨hcz58_0, hcz58_1, hcz58_2, hcz58_3, hcz58_4, hfz58_0, hfz58_1, hfz58_2, hfz58_3, hfz58_4⟩ := zc5 BK105; obtain ⟨hcz59_0, hcz59_1, hcz59_2, hfz59_0, hfz59_1, hfz59_2⟩ := zc3 BK102))
         refine bodyPost_ret (results_ct rfl _ _ gb102 39 #[.string (⟨#[]⟩ : ByteArray), .slice none 0 0, .slice none 0 0] (0, 0) _ rfl (by (with_reducible repeat (first | refine blk_drewN ?_ _ | refine blk_drew ?_ | refine blk_alloc ?_ _)); refine blk_put (cs := #[.string (⟨#[]⟩ : ByteArray), .slice none 0 0, .slice none 0 0]) ?_ 2 _ rfl; (with_reducible repeat (first | refine blk_drewN ?_ _ | refine blk_drew ?_ | refine blk_alloc ?_ _)); refine blk_put (cs := #[.string (⟨#[]⟩ : ByteArray), .slice none 0 0, .slice none 0 0]) ?_ 1 _ rfl; (with_reducible repeat (first | refine blk_drewN ?_ _ | refine blk_drew ?_ | refine blk_alloc ?_ _)); refine blk_put (cs := #[.string x103000_3, .slice none 0 0, .slice none 0 0]) ?_ 0 _ rfl; (with_reducible repeat (first | refine blk_drewN ?_ _ | refine blk_drew ?_ | refine blk_alloc ?_ _)); refine blk_far ?_ NB102_105.out _; (with_reducible repeat (first | refine blk_drewN ?_ _ | refine blk_drew ?_ | refine blk_alloc ?_ _)); refine blk_far ?_ NB102_105.out _; (with_reducible repeat (first | refine blk_drewN ?_ _ | refine blk_drew ?_ | refine blk_alloc ?_ _)); refine blk_far ?_ NB102_105.out _; (with_reducible repeat (first | refine blk_drewN ?_ _ | refine blk_drew ?_ | refine blk_alloc ?_ _)); refine blk_far ?_ NB102_105.out _; (with_reducible repeat (first | refine blk_drewN ?_ _ | refine blk_drew ?_ | refine blk_alloc ?_ _)); refine blk_far ?_ NB102_105.out _; (with_reducible repeat (first | refine blk_drewN ?_ _ | refine blk_drew ?_ | refine blk_alloc ?_ _)); exact BK102.out) Try.underlying39 rfl (by kernel_rfl)) rfl ?_
         exact ⟨_, _, tE, ⟨_, _, _, rfl⟩, ⟨_, _, _, rfl⟩, tB⟩
        rw [if_neg c52] at H
        have c52b0 := tdHi c52
        have c52b1 : decide (26 < ((rd_T74 l0_2 x5_3).f3).length) = false := decide_eq_false (by omega)
        clear c52
        have H' := Aside0.mk H
        clear H
        have hnb60 := NB101_102.out
        have hnc60 := NB102_101.out
        obtain ⟨hcz61_0, hcz61_1, hcz61_2, hfz61_0, hfz61_1, hfz61_2⟩ := zc3 BK101
        have p104 : 0 ≤ (x5_3 : Int) := tD
        have q104 : x5_3 < (l0_2.length : Int) := tD
        obtain ⟨ad104, A104_1, c104_1, A104_2, c104_2, A104_3, c104_3, e104, hx104_0, hx104_1, hx104_2, hx104_3, hx104_4, hl104_1, hi104_1, hl104_2, hi104_2, hl104_3, hi104_3⟩ := at_T74 HR0_2.out x5_3 p104 q104
        cases e104
        replace hx104_0 := tH HB hx104_0
        replace hx104_1 := tH HB hx104_1
        replace hx104_2 := tH HB hx104_2
        replace hx104_3 := tH HB hx104_3
        replace hx104_4 := tH HB hx104_4
        have HR104_1 := Aside0.mk hi104_1
        have HC104_1 := Aside0.mk hl104_1
        clear hi104_1 hl104_1
        have HR104_2 := Aside0.mk hi104_2
        have HC104_2 := Aside0.mk hl104_2
        clear hi104_2 hl104_2
        have HR104_3 := Aside0.mk hi104_3
        have HC104_3 := Aside0.mk hl104_3
        clear hi104_3 hl104_3
        replace p104 := eq_true p104
        replace q104 := eq_true q104
        go_wp2_with (first | ((with_reducible refine gate_dst (N := 6) rfl ?_); (try (refine gate_guard (by rfl) ?_; dsimp only)); refine tBx 6 74 #[.string (⟨#[]⟩ : ByteArray), .slice none 0 0, .slice none 0 0, .slice none 0 0, .int .i64 0] ?_; intro gb105 hg w62 hbox hb; have BK105 := Aside0.mk (hbox); have GW105 := tW HB hg; have GE105 := tW HB hg; replace HB := tA HB hb; have NB101_105 := tNl BK101 hg; have NB105_101 := tNg BK101 hg; replace BK101 := tL BK101 hb; have NB102_105 := tNl BK102 hg; have NB105_102 := tNg BK102 hg; replace BK102 := tL BK102 hb; clear hb hbox hg; have hnb63 := NB105_101.out; have hnc63 := NB101_105.out; have hnb64 := NB105_102.out; have hnc64 := NB102_105.out; obtain ⟨hcz65_0, hcz65_1, hcz65_2, hcz65_3, hcz65_4, hfz65_0, hfz65_1, hfz65_2, hfz65_3, hfz65_4⟩ := zc5 BK105))
        go_roundg k3
        case measure => have := HJ1.out; have := HK2.out; have := HK3.out; omega
        case rel => exact ⟨(wrap64 (x5_3 + 1)), (x103000_3), tU, H', ⟨by have := HJ1.out; have := HK2.out; have := HK3.out; omega⟩, ⟨by (with_reducible repeat (first | refine blk_drewN ?_ _ | refine blk_drew ?_ | refine blk_alloc ?_ _)); refine blk_far ?_ NB101_105.out _; (with_reducible repeat (first | refine blk_drewN ?_ _ | refine blk_drew ?_ | refine blk_alloc ?_ _)); refine blk_far ?_ NB101_105.out _; (with_reducible repeat (first | refine blk_drewN ?_ _ | refine blk_drew ?_ | refine blk_alloc ?_ _)); refine blk_far ?_ NB101_105.out _; (with_reducible repeat (first | refine blk_drewN ?_ _ | refine blk_drew ?_ | refine blk_alloc ?_ _)); refine blk_far ?_ NB101_105.out _; (with_reducible repeat (first | refine blk_drewN ?_ _ | refine blk_drew ?_ | refine blk_alloc ?_ _)); refine blk_far ?_ NB101_105.out _; (with_reducible repeat (first | refine blk_drewN ?_ _ | refine blk_drew ?_ | refine blk_alloc ?_ _)); exact BK101.out⟩, ⟨by (with_reducible repeat (first | refine blk_drewN ?_ _ | refine blk_drew ?_ | refine blk_alloc ?_ _)); refine blk_far ?_ NB102_105.out _; (with_reducible repeat (first | refine blk_drewN ?_ _ | refine blk_drew ?_ | refine blk_alloc ?_ _)); refine blk_far ?_ NB102_105.out _; (with_reducible repeat (first | refine blk_drewN ?_ _ | refine blk_drew ?_ | refine blk_alloc ?_ _)); refine blk_far ?_ NB102_105.out _; (with_reducible repeat (first | refine blk_drewN ?_ _ | refine blk_drew ?_ | refine blk_alloc ?_ _)); refine blk_far ?_ NB102_105.out _; (with_reducible repeat (first | refine blk_drewN ?_ _ | refine blk_drew ?_ | refine blk_alloc ?_ _)); refine blk_far ?_ NB102_105.out _; (with_reducible repeat (first | refine blk_drewN ?_ _ | refine blk_drew ?_ | refine blk_alloc ?_ _)); exact BK102.out⟩, ⟨tB⟩⟩
       rw [if_neg c26] at H
       have c26b0 := decide_eq_false c26
       clear c26
       simp only [Option.some.injEq, Prod.mk.injEq] at H
       obtain ⟨rfl, rfl, rfl, rfl⟩ := H
       have hnb66 := NB101_102.out
       have hnc66 := NB102_101.out
       obtain ⟨hcz67_0, hcz67_1, hcz67_2, hfz67_0, hfz67_1, hfz67_2⟩ := zc3 BK101
       obtain ⟨hcz68_0, hcz68_1, hcz68_2, hfz68_0, hfz68_1, hfz68_2⟩ := zc3 BK102
       go_wp2
       refine bodyPost_ret (results_ct rfl _ _ gb102 39 #[.string a0_0, .slice A0_1 l0_1.length c0_1, .slice A0_2 l0_2.length c0_2] (0, 0) _ rfl (by (with_reducible repeat (first | refine blk_drewN ?_ _ | refine blk_drew ?_ | refine blk_alloc ?_ _)); refine blk_put (cs := #[.string a0_0, .slice A0_1 l0_1.length c0_1, .slice none 0 0]) ?_ 2 _ rfl; (with_reducible repeat (first | refine blk_drewN ?_ _ | refine blk_drew ?_ | refine blk_alloc ?_ _)); refine blk_put (cs := #[.string a0_0, .slice none 0 0, .slice none 0 0]) ?_ 1 _ rfl; (with_reducible repeat (first | refine blk_drewN ?_ _ | refine blk_drew ?_ | refine blk_alloc ?_ _)); refine blk_put (cs := #[.string x103000_3, .slice none 0 0, .slice none 0 0]) ?_ 0 _ rfl; (with_reducible repeat (first | refine blk_drewN ?_ _ | refine blk_drew ?_ | refine blk_alloc ?_ _)); exact BK102.out) Try.underlying39 rfl (by kernel_rfl)) rfl ?_
       exact ⟨_, _, tE, ⟨_, _, _, rfl⟩, ⟨_, _, _, rfl⟩, tB⟩
end Go.Proofs.Ytfnjbgggmddgpaa.Q
end
