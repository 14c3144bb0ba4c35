/- Part 5 of a proof: Df. Words and walks that a program printed for this claim stand here without what the claim does not use. -/
import Derived.Outline
import Derived.RangeFuncNested
import Derived.RangeFuncLeaves
import Derived.OwnWalkIn
import Derived.Test.YtfnjbgggmddgpaaDf2
import Derived.Test.YtfnjbgggmddgpaaDf3
import Derived.Test.YtfnjbgggmddgpaaDf4
section
set_option linter.unusedVariables false
set_option linter.unusedSimpArgs false
namespace Go.Proofs.Ytfnjbgggmddgpaa.Q
open Go.RowKit Go.Proofs.Fn Go.Proofs.YtfnjbgggmddgpaaW.PrintWords Go.Proofs.YtfnjbgggmddgpaaW.PrintLast Go.Proofs.YtfnjbgggmddgpaaW.PrintMore
theorem fn39 (w : World) (b : Nat) (a : Int) (hc : w.cell? ⟨b, 0, none⟩ = some (.int .i64 a)) : FnB Try.prog 39 #[.pointer (some ⟨b, 0, none⟩)] w (fun s => some (s == a)) := by
  refine ⟨⟨Try.f39, Try.func39, by kernel_rfl, rfl⟩, fun x r W hb he => ?_⟩
  have hc2 : W.cell? ⟨b, 0, none⟩ = some (.int .i64 a) := (hb.cell (World.block_lt_of_cell? w _ hc)).trans hc
  obtain rfl := Option.some.inj he
  clear hc hb he
  show Calls Try.prog 39 #[.int .i64 x, .pointer (some ⟨b, 0, none⟩)] W _
  go_enter Try.func39, Try.ntmps39
  go_wp2
  go_ret
  exact ⟨rfl, Below.refl _ _⟩
def dead1 (l : List (List S66)) (s : Int) : Option Bool := if 0 ≤ s then (if s < (l.length : Int) then some (((rd_L66 l s).length : Int) == 0) else none) else none
theorem fn36 (w : World) (b : Nat) (A : Option Addr) (c : Nat) (l : List (List S66)) (hc : w.cell? ⟨b, 0, none⟩ = some (.slice A l.length c)) (hl : Kd.C (Kd.slice 66 k66) w A l.length l) : FnB Try.prog 36 #[.pointer (some ⟨b, 0, none⟩)] w (dead1 l) := by
  refine ⟨⟨Try.f36, Try.func36, by kernel_rfl, rfl⟩, fun x r W hb he => ?_⟩
  have hc2 : W.cell? ⟨b, 0, none⟩ = some (.slice A l.length c) := (hb.cell (World.block_lt_of_cell? w _ hc)).trans hc
  have hl2 := Kd.C_below hl hb
  unfold dead1 at he
  by_cases h0 : 0 ≤ x
  · rw [if_pos h0] at he
    by_cases h1 : x < (l.length : Int)
    · rw [if_pos h1] at he
      obtain rfl := Option.some.inj he
      obtain ⟨ad, A0, c0, rfl, hx, _, _⟩ := at_L66 hl2 x h0 h1
      clear hc hl hb hl2 he
      show Calls Try.prog 36 #[.int .i64 x, .pointer (some ⟨b, 0, none⟩)] W _
      go_enter Try.func36, Try.ntmps36
      go_wp2
      go_ret
      exact ⟨rfl, Below.refl _ _⟩
    · rw [if_neg h1] at he
      cases he
  · rw [if_neg h0] at he
    cases he
def fires1 (l : List (List S66)) (t : Int) (s : Int) : Option Bool := if 0 ≤ s then (if s < (l.length : Int) then some ((rd_L66 l s).any (fun x => x.f0 == t)) else none) else none
theorem has_l0 (l : List S66) (t : Int) (hl : l.length ≤ 9223372036854775806) : ∀ (m j : Nat), j + m = l.length → witness_has.l0 (m + 1) t l (l.length : Int) (j : Int) = some ((l.drop j).any (fun x => x.f0 == t)) := by
  intro m
  induction m with
  | zero =>
    intro j hj
    rw [List.drop_of_length_le (by omega)]
    simp only [witness_has.l0]
    rw [if_neg (by omega)]; rfl
  | succ m ih =>
    intro j hj
    have hw : wrap64 ((j : Int) + 1) = ((j + 1 : Nat) : Int) := by unfold wrap64; omega
    have hj2 : j < l.length := by omega
    have hd : rd_T66 l (j : Int) = l[j] := by simp [rd_T66, hj2]
    rw [witness_has.l0, if_pos (by omega), if_pos (by omega), if_pos (by omega), hw, hd, List.drop_eq_getElem_cons hj2, List.any_cons]
    by_cases c : l[j].f0 = t
    · rw [if_pos c]; simp [c]
    · rw [if_neg c, ih (j + 1) (by omega)]
      have : (l[j].f0 == t) = false := by simp [c]
      rw [this, Bool.false_or]
set_option maxHeartbeats 1000000 in
theorem fn50 (w : World) (b b2 : Nat) (A : Option Addr) (c : Nat) (l : List (List S66)) (t : Int) (hc : w.cell? ⟨b, 0, none⟩ = some (.slice A l.length c)) (ht : w.cell? ⟨b2, 0, none⟩ = some (.int .i64 t)) (hl : Kd.C (Kd.slice 66 k66) w A l.length l) (hln : ∀ r ∈ l, r.length ≤ 9223372036854775806) :
    FnB Try.prog 50 #[.pointer (some ⟨b, 0, none⟩), .pointer (some ⟨b2, 0, none⟩)] w (fires1 l t) := by
  refine ⟨⟨Try.f50, Try.func50, by kernel_rfl, rfl⟩, fun x r W hb he => ?_⟩
  have hc2 : W.cell? ⟨b, 0, none⟩ = some (.slice A l.length c) := (hb.cell (World.block_lt_of_cell? w _ hc)).trans hc
  have ht2 : W.cell? ⟨b2, 0, none⟩ = some (.int .i64 t) := (hb.cell (World.block_lt_of_cell? w _ ht)).trans ht
  have hl2 := Kd.C_below hl hb
  unfold fires1 at he
  by_cases h0 : 0 ≤ x
  · rw [if_pos h0] at he
    by_cases h1 : x < (l.length : Int)
    · rw [if_pos h1] at he
      obtain ⟨ad, A0, c0, rfl, hx, hcap, hrow⟩ := at_L66 hl2 x h0 h1
      have hrl : (rd_L66 l x).length ≤ 9223372036854775806 := by
        have hx1 : x.toNat < l.length := by omega
        have : rd_L66 l x = l[x.toNat] := by simp [rd_L66, hx1]
        rw [this]; exact hln _ (List.getElem_mem _)
      have he2 : witness_has.f ((rd_L66 l x).length + 1) (rd_L66 l x) t = some r := by
        have := has_l0 (rd_L66 l x) t hrl _ 0 (by rw [Nat.zero_add])
        rw [← he]; exact this
      have HC := Aside0.mk (fun (W' : World) (hW : Below W.heap.size W W') => witness_has.calls _ A0 c0 (rd_L66 l x) t r W' (Kd.C_below hrow hW) hcap he2)
      clear hc hl hb hl2 he he2 hrl ht hrow hcap
      show Calls Try.prog 50 #[.int .i64 x, .pointer (some ⟨b, 0, none⟩), .pointer (some ⟨b2, 0, none⟩)] W _
      go_enter Try.func50, Try.ntmps50
      go_wp2_with fail
      go_region_with (go_at_call 51; refine (HC.out _ ?_).mono ?_; (case refine_1 => repeat (first | exact Below.refl _ _ | apply below_drew1)); rintro e w' ⟨rfl, hb⟩)
      all_goals
        go_wp2
        go_ret
        exact ⟨rfl, below_step (below_drew1 (Below.refl _ _)) hb⟩
    · rw [if_neg h1] at he
      cases he
  · rw [if_neg h0] at he
    cases he
def witness_Between.f (k : Nat) (l0_0 : List (List Int)) (l0_1 : List S80) (a0_2 : Bool) (a1 a2 : Int) : Option (List Int × Bool) :=
  (witness_steps.f k l0_0 l0_1 a0_2).bind fun l => witness_search.f k l a1 (fun s => some (s == a2))
set_option maxHeartbeats 1000000 in
theorem witness_Between.calls (k : Nat) (A0_0 : Option Addr) (c0_0 : Nat) (l0_0 : List (List Int)) (A0_1 : Option Addr) (c0_1 : Nat) (l0_1 : List S80) (a0_2 : Bool) (a1 a2 : Int) (r1 : List Int) (r2 : Bool) (w : World)
    (hr0_0 : Kd.C (Kd.slice 3 (Kd.int .i64)) w A0_0 l0_0.length l0_0) (hc0_0 : l0_0.length ≤ c0_0) (hr0_1 : Kd.C k80 w A0_1 l0_1.length l0_1) (hc0_1 : l0_1.length ≤ c0_1) (h : witness_Between.f k l0_0 l0_1 a0_2 a1 a2 = some (r1, r2)) :
    Calls Try.prog 16 #[.agg #[.slice A0_0 l0_0.length c0_0, .slice A0_1 l0_1.length c0_1, .bool a0_2], .int .i64 a1, .int .i64 a2] w fun e w' => ∃ v0_ : Value, e = .returned (.tuple #[v0_, .bool r2]) ∧ Kd.R (Kd.int .i64) 3 w' w.heap.size (fun _ => True) v0_ r1 ∧ Below w.heap.size w w' := by
  obtain ⟨l, h1, h2⟩ := Option.bind_eq_some_iff.1 h
  have hu25 := Try.underlying25
  have H1 := Aside0.mk h1
  have H2 := Aside0.mk h2
  have HR0 := Aside0.mk hr0_0
  have HC0 := Aside0.mk hc0_0
  have HR1 := Aside0.mk hr0_1
  have HC1 := Aside0.mk hc0_1
  clear h h1 h2 hr0_0 hc0_0 hr0_1 hc0_1
  go_enter Try.func16, Try.ntmps16
  go_wp2_with fail
  refine (witness_steps.calls k _ _ l0_0 _ _ l0_1 a0_2 l _ (Kd.C_below HR0.out ?b1) HC0.out (Kd.C_below HR1.out ?b2) HC1.out H1.out).mono ?_
  case b1 => repeat (first | exact Below.refl _ _ | apply below_alloc | apply below_drew1)
  case b2 => repeat (first | exact Below.refl _ _ | apply below_alloc | apply below_drew1)
  rintro e w1 ⟨v, rfl, hS, hb⟩
  obtain ⟨A, c, rfl, hcap, hC⟩ := Kd.S_reads hS
  have hcell : w1.cell? ⟨w.heap.size + 1, 0, none⟩ = some (.int .i64 a2) := by
    refine (hb.cell (p := ⟨w.heap.size + 1, 0, none⟩) (by simp)).trans ?_
    go_simp
  have HB : Aside0 (Below w.heap.size w w1) := ⟨below_step (by repeat (first | exact Below.refl _ _ | apply below_alloc | apply below_drew1)) hb⟩
  have HS := Aside0.mk hC
  have HCP := Aside0.mk hcap
  have HCELL := Aside0.mk hcell
  clear hS hb hcap hC hcell
  go_wp2_with fail
  refine (witness_search.calls k A c l a1 (fun s => some (s == a2)) 39 #[.pointer (some ⟨w.heap.size + 1, 0, none⟩)] r1 r2 w1 HS.out HCP.out (fn39 _ _ _ HCELL.out) H2.out).mono ?_
  rintro e w2 ⟨v, rfl, hR, hb⟩
  go_wp2
  go_ret2
  exact ⟨_, rfl, Kd.R_lower hR HB.out.size, below_step HB.out hb⟩
def witness_Dead.f (k : Nat) (l0_0 : List (List Int)) (l0_1 : List S80) (a0_2 : Bool) : Option (List Int × Bool) :=
  (witness_steps.f k l0_0 l0_1 a0_2).bind fun l => witness_search.f k l 0 (dead1 l)
set_option maxHeartbeats 1000000 in
theorem witness_Dead.calls (k : Nat) (A0_0 : Option Addr) (c0_0 : Nat) (l0_0 : List (List Int)) (A0_1 : Option Addr) (c0_1 : Nat) (l0_1 : List S80) (a0_2 : Bool) (r1 : List Int) (r2 : Bool) (w : World)
    (hr0_0 : Kd.C (Kd.slice 3 (Kd.int .i64)) w A0_0 l0_0.length l0_0) (hc0_0 : l0_0.length ≤ c0_0) (hr0_1 : Kd.C k80 w A0_1 l0_1.length l0_1) (hc0_1 : l0_1.length ≤ c0_1) (h : witness_Dead.f k l0_0 l0_1 a0_2 = some (r1, r2)) :
    Calls Try.prog 11 #[.agg #[.slice A0_0 l0_0.length c0_0, .slice A0_1 l0_1.length c0_1, .bool a0_2]] w fun e w' => ∃ v0_ : Value, e = .returned (.tuple #[v0_, .bool r2]) ∧ Kd.R (Kd.int .i64) 3 w' w.heap.size (fun _ => True) v0_ r1 ∧ Below w.heap.size w w' := by
  obtain ⟨l, h1, h2⟩ := Option.bind_eq_some_iff.1 h
  have hu25 := Try.underlying25
  have H1 := Aside0.mk h1
  have H2 := Aside0.mk h2
  have HR0 := Aside0.mk hr0_0
  have HC0 := Aside0.mk hc0_0
  have HR1 := Aside0.mk hr0_1
  have HC1 := Aside0.mk hc0_1
  clear h h1 h2 hr0_0 hc0_0 hr0_1 hc0_1
  go_enter Try.func11, Try.ntmps11
  go_wp2_with fail
  refine (witness_steps.calls k _ _ l0_0 _ _ l0_1 a0_2 l _ (Kd.C_below HR0.out ?b1) HC0.out (Kd.C_below HR1.out ?b2) HC1.out H1.out).mono ?_
  case b1 => repeat (first | exact Below.refl _ _ | apply below_alloc | apply below_drew1)
  case b2 => repeat (first | exact Below.refl _ _ | apply below_alloc | apply below_drew1)
  rintro e w1 ⟨v, rfl, hS, hb⟩
  obtain ⟨A, c, rfl, hcap, hC⟩ := Kd.S_reads hS
  have HB : Aside0 (Below w.heap.size w w1) := ⟨below_step (by repeat (first | exact Below.refl _ _ | apply below_alloc | apply below_drew1)) hb⟩
  have HS := Aside0.mk hC
  have HCP := Aside0.mk hcap
  clear hS hb hcap hC
  go_wp2_with fail
  have hbw : ∀ (o : Obj) (v : Value), Below w1.heap.size w1 ((w1.alloc o).setCell ⟨w1.heap.size, 0, none⟩ v) := fun o v => (((Below.refl _ w1).alloc (Nat.le_refl _) o).setCell (by simp) v)
  refine (witness_search.calls k A c l 0 (dead1 l) 36 #[.pointer (some ⟨w1.heap.size, 0, none⟩)] r1 r2 _ (Kd.C_below HS.out ?b3) HCP.out (fn36 _ _ A c l ?b4 (Kd.C_below HS.out ?b5)) H2.out).mono ?_
  case b3 => first | exact hbw _ _ | (repeat (first | exact Below.refl _ _ | apply below_alloc | apply below_drew1))
  case b5 => first | exact hbw _ _ | (repeat (first | exact Below.refl _ _ | apply below_alloc | apply below_drew1))
  case b4 => go_simp
  rintro e w2 ⟨v, rfl, hR, hb⟩
  have hb2 : Below w1.heap.size w1 w2 := below_step (by first | exact hbw _ _ | (repeat (first | exact Below.refl _ _ | apply below_alloc | apply below_drew1))) hb
  clear hbw
  have HB2 := Aside0.mk hb2
  have HRR := Aside0.mk (Kd.R_lower hR (base' := w1.heap.size) (by simp))
  clear hb hb2 hR
  go_wp2
  go_ret2
  exact ⟨_, rfl, Kd.R_lower HRR.out HB.out.size, below_step HB.out HB2.out⟩
def witness_Fires.f (k : Nat) (l0_0 : List (List Int)) (l0_1 : List S80) (a0_2 : Bool) (a1 : Int) : Option (List Int × Bool) :=
  (witness_steps.f k l0_0 l0_1 a0_2).bind fun l => (if l.all (fun r => decide (r.length ≤ 9223372036854775806)) = true then (witness_search.f k l 0 (fires1 l a1)) else none).bind fun r => if r.2 = true then (if r.1.length < 17592186044416 then some (r.1 ++ [a1], true) else none) else some ([], false)
set_option maxHeartbeats 2000000 in
theorem witness_Fires.calls (k : Nat) (A0_0 : Option Addr) (c0_0 : Nat) (l0_0 : List (List Int)) (A0_1 : Option Addr) (c0_1 : Nat) (l0_1 : List S80) (a0_2 : Bool) (a1 : Int) (r1 : List Int) (r2 : Bool) (w : World)
    (hr0_0 : Kd.C (Kd.slice 3 (Kd.int .i64)) w A0_0 l0_0.length l0_0) (hc0_0 : l0_0.length ≤ c0_0) (hr0_1 : Kd.C k80 w A0_1 l0_1.length l0_1) (hc0_1 : l0_1.length ≤ c0_1) (h : witness_Fires.f k l0_0 l0_1 a0_2 a1 = some (r1, r2)) :
    Calls Try.prog 25 #[.agg #[.slice A0_0 l0_0.length c0_0, .slice A0_1 l0_1.length c0_1, .bool a0_2], .int .i64 a1] w fun e w' => ∃ v0_ : Value, e = .returned (.tuple #[v0_, .bool r2]) ∧ Kd.R (Kd.int .i64) 3 w' w.heap.size (fun _ => True) v0_ r1 ∧ Below w.heap.size w w' := by
  obtain ⟨l, h1, h2⟩ := Option.bind_eq_some_iff.1 h
  obtain ⟨⟨q1, q2⟩, h2, h3⟩ := Option.bind_eq_some_iff.1 h2
  have hall : l.all (fun r => decide (r.length ≤ 9223372036854775806)) = true := by
    cases ha : l.all (fun r => decide (r.length ≤ 9223372036854775806)) with
    | true => rfl
    | false => rw [ha] at h2; cases h2
  rw [if_pos hall] at h2
  have hln : ∀ r ∈ l, r.length ≤ 9223372036854775806 := by simpa using hall
  have hu25 := Try.underlying25
  have HLN := Aside0.mk hln
  have H1 := Aside0.mk h1
  have H2 := Aside0.mk h2
  have H3 := Aside0.mk h3
  have HR0 := Aside0.mk hr0_0
  have HC0 := Aside0.mk hc0_0
  have HR1 := Aside0.mk hr0_1
  have HC1 := Aside0.mk hc0_1
  clear h h1 h2 h3 hall hln hr0_0 hc0_0 hr0_1 hc0_1
  go_enter Try.func25, Try.ntmps25
  go_wp2_with fail
  refine (witness_steps.calls k _ _ l0_0 _ _ l0_1 a0_2 l _ (Kd.C_below HR0.out ?b1) HC0.out (Kd.C_below HR1.out ?b2) HC1.out H1.out).mono ?_
  case b1 => repeat (first | exact Below.refl _ _ | apply below_alloc | apply below_drew1)
  case b2 => repeat (first | exact Below.refl _ _ | apply below_alloc | apply below_drew1)
  rintro e w1 ⟨v, rfl, hS, hb⟩
  obtain ⟨A, c, rfl, hcap, hC⟩ := Kd.S_reads hS
  have HB : Aside0 (Below w.heap.size w w1) := ⟨below_step (by repeat (first | exact Below.refl _ _ | apply below_alloc | apply below_drew1)) hb⟩
  have ht0 : w1.cell? ⟨w.heap.size + 1, 0, none⟩ = some (.int .i64 a1) := by
    have hc0 : ((w.alloc (Obj.cells #[Value.slice A0_0 l0_0.length c0_0, Value.slice A0_1 l0_1.length c0_1, Value.bool a0_2] 25)).alloc (Obj.cells #[Value.int IntKind.i64 a1] 3)).cell? ⟨w.heap.size + 1, 0, none⟩ = some (.int .i64 a1) := by go_simp
    exact (hb.cell (World.block_lt_of_cell? _ _ hc0)).trans hc0
  have HT := Aside0.mk ht0
  have HS := Aside0.mk hC
  have HCP := Aside0.mk hcap
  clear hS hb hcap hC ht0
  go_wp2_with fail
  have hbw : ∀ (o : Obj), Below w1.heap.size w1 (w1.alloc o) := fun o => (Below.refl _ w1).alloc (Nat.le_refl _) o
  refine (witness_search.calls k A c l 0 (fires1 l a1) 50 #[.pointer (some ⟨w1.heap.size, 0, none⟩), .pointer (some ⟨w.heap.size + 1, 0, none⟩)] q1 q2 _ (Kd.C_below HS.out ?b3) HCP.out (fn50 _ _ _ A c l a1 ?b4 ?b6 (Kd.C_below HS.out ?b5) HLN.out) H2.out).mono ?_
  case b3 => exact hbw _
  case b5 => exact hbw _
  case b4 => go_simp
  case b6 => exact ((hbw _).cell (World.block_lt_of_cell? _ _ HT.out)).trans HT.out
  rintro e w2 ⟨v, rfl, hR, hb⟩
  have hb2 : Below w1.heap.size w1 w2 := below_step (hbw _) hb
  have ht2 : w2.cell? ⟨w.heap.size + 1, 0, none⟩ = some (.int .i64 a1) := (hb2.cell (World.block_lt_of_cell? _ _ HT.out)).trans HT.out
  have HB2 := Aside0.mk (below_step HB.out hb2)
  have HRR := Aside0.mk (Kd.R_lower hR (base' := w.heap.size) (by have := HB.out.size; simp; omega))
  clear hb hb2 hR hbw HT
  have H := H3.out
  clear H3
  cases q2 with
  | false =>
    simp only [Bool.false_eq_true, if_false, Option.some.injEq, Prod.mk.injEq] at H
    obtain ⟨rfl, rfl⟩ := H
    go_wp2
    go_ret2
    exact ⟨_, rfl, Kd.R_nil .., HB2.out⟩
  | true =>
    simp only [if_true] at H
    by_cases c18 : q1.length < 17592186044416
    · rw [if_pos c18] at H
      simp only [Option.some.injEq, Prod.mk.injEq] at H
      obtain ⟨rfl, rfl⟩ := H
      go_wp2_with ((with_reducible refine gate_builtin (b := .append) (xs := #[.tmp 19, .tmp 21]) rfl ?_); at_builtin; refine Kd.R_append (Kd.int .i64) (w0 := w) w.heap.size rfl (.tmp 19) (.tmp 21) 28 3 (.int .i64 0) 8 rfl Try.underlying28 info3 rfl (by decide) (by omega) v q1 a1 [.int .i64 a1] (fun _ => True) (fun _ => False) rfl rfl ?aP (fun _ hk => hk.elim) ?aF ?aO ?aB ?aS ?aL ?_; (case aP => exact rfl); (case aB => exact (by repeat (first | exact HB2.out | apply below_alloc | apply pw_below_drewN | apply below_drew1))); (case aF => exact (fun _ _ => trivial)); (case aO => exact (by (with_reducible repeat (first | apply Kd.R_alloc | apply Kd.R_drewN | apply Kd.R_drew)); exact HRR.out)); (case aS => exact (below_size (by repeat (first | exact HB2.out | apply below_alloc | apply pw_below_drewN | apply below_drew1)))); (case aL => omega); intro v110 w22 ho hb hg hat; have HO := Aside0.mk ho; have HB3 := Aside0.mk hb; clear ho hb hg hat)
      go_ret2
      exact ⟨_, rfl, HO.out, HB3.out⟩
    · rw [if_neg c18] at H
      cases H
end Go.Proofs.Ytfnjbgggmddgpaa.Q
end
section
namespace Go.Proofs.Ytfnjbgggmddgpaa.Q
open Go.RowKit Go.Proofs.Fn Go.Proofs.YtfnjbgggmddgpaaW.PrintWords Go.Proofs.YtfnjbgggmddgpaaW.PrintLast Go.Proofs.YtfnjbgggmddgpaaW.PrintMore
attribute [local go_sem] max2_int min2_int max_two min_two max_three min_three max_four min_four
set_option linter.unusedVariables false
set_option linter.unusedSimpArgs false
mutual
def r16_follow.j0 : Nat → List (List (S80)) → Int → List Bool → Bool → Option (List Int × Bool)
 | 0, _, _, _, _ => none
 | k + 1, x0, x1, x2, x19 => if x19 = true then (some (([] : List Int), false)) else ((r16_distances.f k x0 x2).bind fun t101 => (if 0 ≤ x1 then (if x1 < (t101.length : Int) then (if (rd t101 x1) < 0 then (some (([] : List Int), false)) else (r16_follow.l0 k x0 t101 ([] : List Int) x1)) else (none)) else (none)))
def r16_follow.l0 : Nat → List (List (S80)) → List Int → List Int → Int → Option (List Int × Bool)
 | 0, _, _, _, _ => none
 | k + 1, x0, x8, x9, x10 => if 0 ≤ x10 then (if x10 < (x8.length : Int) then (if (rd x8 x10) > 0 then (r16_follow.l1 k x0 x8 x9 x10 0) else (some (x9, true))) else (none)) else (none)
def r16_follow.l1 : Nat → List (List (S80)) → List Int → List Int → Int → Int → Option (List Int × Bool)
 | 0, _, _, _, _, _ => none
 | k + 1, x0, x8, x9, x10, x11 => if 0 ≤ x10 then (if x10 < (x0.length : Int) then (if 0 ≤ x11 then (if x11 < ((rd_L80 x0 x10).length : Int) then (if 0 ≤ ((rd_T80 (rd_L80 x0 x10) x11).f2) then (if ((rd_T80 (rd_L80 x0 x10) x11).f2) < (x8.length : Int) then (if x10 < (x8.length : Int) then (if (rd x8 ((rd_T80 (rd_L80 x0 x10) x11).f2)) = (wrap64 ((rd x8 x10) - 1)) then (if x9.length < 17592186044416 then (r16_follow.l0 k x0 x8 (x9 ++ [(rd_T80 (rd_L80 x0 x10) x11).f1]) ((rd_T80 (rd_L80 x0 x10) x11).f2)) else (none)) else (r16_follow.l1 k x0 x8 x9 x10 (wrap64 (x11 + 1)))) else (none)) else (none)) else (none)) else (none)) else (none)) else (none)) else (none)
end
def r16_follow.f (k : Nat) (l0 : List (List (S80))) (a1 : Int) (l2 : List Bool) : Option (List Int × Bool) := if a1 < 0 then (r16_follow.j0 k l0 a1 l2 true) else (r16_follow.j0 k l0 a1 l2 (decide (a1 ≥ (l0.length : Int))))
mutual
def witness_Diameter.l0 : Nat → List (List (S66)) → List Int → List Int → Int → Option (Int)
 | 0, _, _, _, _ => none
 | k + 1, x3, x4, x5, x6 => if (x5.length : Int) > 0 then (if 0 < (x5.length : Int) then (if 1 ≤ (x5.length : Int) then (if 0 ≤ (rd x5 0) then (if (rd x5 0) < (x4.length : Int) then (if (rd x5 0) < (x3.length : Int) then (witness_Diameter.l1 k x3 x4 (x5.drop (1 : Int).toNat) (mx x6 (rd x4 (rd x5 0))) (rd x5 0) (rd_L66 x3 (rd x5 0)) ((rd_L66 x3 (rd x5 0)).length : Int) 0) else (none)) else (none)) else (none)) else (none)) else (none)) else (some x6)
def witness_Diameter.l1 : Nat → List (List (S66)) → List Int → List Int → Int → Int → List (S66) → Int → Int → Option (Int)
 | 0, _, _, _, _, _, _, _, _ => none
 | k + 1, x3, x4, x5, x6, x7, x36, x37, x38 => if x38 < x37 then (if 0 ≤ x38 then (if x38 < (x36.length : Int) then (if ((rd_T66 x36 x38).f1) = 0 then (witness_Diameter.l1 k x3 x4 x5 x6 x7 x36 x37 (wrap64 (x38 + 1))) else (if 0 ≤ ((rd_T66 x36 x38).f1) then (if ((rd_T66 x36 x38).f1) < (x4.length : Int) then (if (rd x4 ((rd_T66 x36 x38).f1)) = 0 then (if 0 ≤ x7 then (if x7 < (x4.length : Int) then (if x5.length < 17592186044416 then (witness_Diameter.l1 k x3 (x4.set (((rd_T66 x36 x38).f1) : Int).toNat (wrap64 ((rd x4 x7) + 1))) (x5 ++ [(rd_T66 x36 x38).f1]) x6 x7 x36 x37 (wrap64 (x38 + 1))) else (none)) else (none)) else (none)) else (witness_Diameter.l1 k x3 x4 x5 x6 x7 x36 x37 (wrap64 (x38 + 1)))) else (none)) else (none))) else (none)) else (none)) else (witness_Diameter.l0 k x3 x4 x5 x6)
end
def witness_Diameter.f (k : Nat) (l0_0 : List (List Int)) (l0_1 : List (S80)) (a0_2 : Bool) : Option (Int) := (witness_steps.f k l0_0 l0_1 a0_2).bind fun t102 => (if (t102.length : Int) = 0 then (some (-1)) else (if 0 ≤ (t102.length : Int) then (if ((t102.length : Int) : Int).toNat ≤ 35184372088832 then (witness_Diameter.l0 k t102 (List.replicate ((t102.length : Int) : Int).toNat 0) (([0] : List Int)) 0) else (none)) else (none)))
def witness_Diameter.T15 : Bool × List (List Nat × List Nat) := (true, [([], []), ([], []), ([1], [1]), ([], []), ([], []), ([3, 4], [3, 4]), ([5], [5]), ([6], [6]), ([0, 2, 0, 1, 2, 3, 4, 5, 6, 7], [0, 2]), ([8, 7, 0, 1, 2, 3, 4, 5, 6, 7], [7, 8])])
def witness_Diameter.B15 : List Nat := [0, 0, 2, 0, 0, 24, 56, 120, 255, 511]
theorem witness_Diameter.tab15 : rtab .any (opsOf Try.f14 15) = witness_Diameter.T15 := by kernel_rfl
theorem witness_Diameter.bits15 : waitsOk witness_Diameter.T15.2 witness_Diameter.B15 = true := by kernel_rfl
set_option maxHeartbeats 8000000 in
set_option maxRecDepth 100000 in
theorem witness_Diameter.calls (k : Nat) (A0_0 : Option Addr) (c0_0 : Nat) (l0_0 : List (List Int)) (A0_1 : Option Addr) (c0_1 : Nat) (l0_1 : List (S80)) (a0_2 : Bool) (r : Int) (w : World) (hr0_0 : Kd.C (Kd.slice 3 (Kd.int .i64)) w A0_0 l0_0.length l0_0) (hc0_0 : l0_0.length ≤ c0_0) (hr0_1 : Kd.C k80 w A0_1 l0_1.length l0_1) (hc0_1 : l0_1.length ≤ c0_1) (h : witness_Diameter.f k l0_0 l0_1 a0_2 = some r) :
  Calls Try.prog 14 #[.agg #[.slice A0_0 l0_0.length c0_0, .slice A0_1 l0_1.length c0_1, .bool a0_2]] w fun e w' => e = .returned (.int .i64 r) ∧ Below w.heap.size w w' := by
 have hu25 := Try.underlying25
 have hu66 := Try.underlying66
 have HR0_0 := Aside0.mk hr0_0
 have HC0_0 := Aside0.mk hc0_0
 clear hr0_0 hc0_0
 have HR0_1 := Aside0.mk hr0_1
 have HC0_1 := Aside0.mk hc0_1
 clear hr0_1 hc0_1
 have HB := Aside0.mk (Below.refl w.heap.size w)
 have H : ((witness_steps.f k l0_0 l0_1 a0_2).bind fun t102 => (if (t102.length : Int) = 0 then (some (-1)) else (if 0 ≤ (t102.length : Int) then (if ((t102.length : Int) : Int).toNat ≤ 35184372088832 then (witness_Diameter.l0 k t102 (List.replicate ((t102.length : Int) : Int).toNat 0) (([0] : List Int)) 0) else (none)) else (none)))) = some r := h
 clear h
 replace H := Option.bind_eq_some_iff.mp H
 obtain ⟨t102, A20, H⟩ := H
 (try dsimp only at H)
 have A2 := Aside0.mk A20
 clear A20
 by_cases c3 : (t102.length : Int) = 0
 ·rw [if_pos c3] at H
  have c3b0 := beq_iff_eq.mpr c3
  have c3b1 := bne_eq_false_iff_eq.mpr c3
  clear c3
  obtain rfl := Option.some.inj H
  go_enter Try.func14, Try.ntmps14
  go_wp2_with (first | ((with_reducible refine gate_dst (N := 1) rfl ?_); refine tBx 1 25 #[.slice A0_0 l0_0.length c0_0, .slice A0_1 l0_1.length c0_1, .bool a0_2] ?_; intro gb101 hg w4 hbox hb; have BK101 := Aside0.mk (hbox); have GW101 := tW HB hg; have GE101 := tW HB hg; replace HB := tA HB hb; clear hb hbox hg; obtain ⟨hcz5_0, hcz5_1, hcz5_2, hfz5_0, hfz5_1, hfz5_2⟩ := zc3 BK101) | ((with_reducible refine gate_callee (f := 34) rfl ?_); refine goesL_ (some 11) rfl rfl Try.func34 (by kernel_rfl) rfl #[.agg #[.slice A0_0 l0_0.length c0_0, .slice A0_1 l0_1.length c0_1, .bool a0_2]] rfl (by (try simp only [List.map_toArray, List.map_cons, List.map_nil]); first | done | rfl | (simp only [List.length_drop, List.length_take]; rfl)) ?_; (with_reducible refine (witness_steps.calls k _ _ l0_0 _ _ l0_1 a0_2 t102 _ (tG HR0_0 HB) HC0_0.out (tG HR0_1 HB) HC0_1.out A2.out).mono ?_); rintro e w ⟨v103, rfl, ho0, hb⟩; refine ⟨_, rfl, ?_⟩; have HO104 := Aside0.mk (Kd.S_lower ho0 (below_size (tB))); replace BK101 := tL BK101 hb; replace HB := tA HB hb; (try clear hb); (try clear hb2); (try clear hk); (try clear hi); (try clear ho0); obtain ⟨As_t102, cs_t102, es_t102, hcs_t102, hCs_t102⟩ := Kd.S_reads HO104.out; subst es_t102; have HRs_t102 := Aside0.mk hCs_t102; have HCs_t102 := Aside0.mk hcs_t102; clear hCs_t102 hcs_t102 HO104; have HBS1 := HB; clear HB; have HB := Aside0.mk (Below.refl w.heap.size w); replace HR0_0 := Aside0.mk (Kd.C_below HR0_0.out HBS1.out); replace HR0_1 := Aside0.mk (Kd.C_below HR0_1.out HBS1.out)))
  go_ret
  (try refine reb0_ HBS1.out ?_)
  exact ⟨tE, tB⟩
 rw [if_neg c3] at H
 have c3b0 := beq_eq_false_iff_ne.mpr c3
 have c3b1 := bne_iff_ne.mpr c3
 have c3b2 : ¬ (t102 = []) := fun h_ => c3 (by rw [h_]; rfl)
 by_cases c6 : 0 ≤ (t102.length : Int)
 ·rw [if_pos c6] at H
  have c6b0 := eq_true c6
  have c6b1 := decide_eq_true c6
  clear c6
  replace H := tF H
  obtain ⟨c7, H⟩ := H
  have c7b0 := eq_true c7
  have c7b1 := decide_eq_true c7
  clear c7
  obtain ⟨y105, hy105⟩ : ∃ y_ : List Int, y_ = (List.replicate ((t102.length : Int) : Int).toNat 0) := ⟨_, rfl⟩
  replace H : (witness_Diameter.l0 k t102 y105 (([0] : List Int)) 0) = some r := tQ hy105 H
  have Ny105 := Aside0.mk hy105
  clear hy105
  obtain ⟨y108, hy108⟩ : ∃ y_ : List Int, y_ = (([0] : List Int)) := ⟨_, rfl⟩
  replace H : (witness_Diameter.l0 k t102 y105 y108 0) = some r := tQ hy108 H
  have Ny108 := Aside0.mk hy108
  clear hy108
  have H' := Aside0.mk H
  clear H
  go_enter Try.func14, Try.ntmps14
  go_wp2_with (first | ((with_reducible refine gate_dst (N := 1) rfl ?_); refine tBx 1 25 #[.slice A0_0 l0_0.length c0_0, .slice A0_1 l0_1.length c0_1, .bool a0_2] ?_; intro gb101 hg w8 hbox hb; have BK101 := Aside0.mk (hbox); have GW101 := tW HB hg; have GE101 := tW HB hg; replace HB := tA HB hb; clear hb hbox hg; obtain ⟨hcz9_0, hcz9_1, hcz9_2, hfz9_0, hfz9_1, hfz9_2⟩ := zc3 BK101) | ((with_reducible refine gate_callee (f := 34) rfl ?_); refine goesL_ (some 11) rfl rfl Try.func34 (by kernel_rfl) rfl #[.agg #[.slice A0_0 l0_0.length c0_0, .slice A0_1 l0_1.length c0_1, .bool a0_2]] rfl (by (try simp only [List.map_toArray, List.map_cons, List.map_nil]); first | done | rfl | (simp only [List.length_drop, List.length_take]; rfl)) ?_; (with_reducible refine (witness_steps.calls k _ _ l0_0 _ _ l0_1 a0_2 t102 _ (tG HR0_0 HB) HC0_0.out (tG HR0_1 HB) HC0_1.out A2.out).mono ?_); rintro e w ⟨v103, rfl, ho0, hb⟩; refine ⟨_, rfl, ?_⟩; have HO104 := Aside0.mk (Kd.S_lower ho0 (below_size (tB))); replace BK101 := tL BK101 hb; replace HB := tA HB hb; (try clear hb); (try clear hb2); (try clear hk); (try clear hi); (try clear ho0); obtain ⟨As_t102, cs_t102, es_t102, hcs_t102, hCs_t102⟩ := Kd.S_reads HO104.out; subst es_t102; have HRs_t102 := Aside0.mk hCs_t102; have HCs_t102 := Aside0.mk hcs_t102; clear hCs_t102 hcs_t102 HO104; have HBS1 := HB; clear HB; have HB := Aside0.mk (Below.refl w.heap.size w); replace HR0_0 := Aside0.mk (Kd.C_below HR0_0.out HBS1.out); replace HR0_1 := Aside0.mk (Kd.C_below HR0_1.out HBS1.out)) | ((with_reducible refine gate_dst (N := 17) rfl ?_); refine Kd.R_make (Kd.int .i64) _ 3 rfl (N := 17) rfl 28 _ _ rfl (t102.length : Int) rfl rfl Try.underlying28 (.int .i64 0) 8 info3 rfl (by decide) (by omega) 0 (ok := fun _ => True) (okp := fun _ => True) rfl (fun _ hk => hk) trivial (tD) (Nat.le_trans (Nat.mul_le_mul_right _ (tD : (t102.length : Int).toNat ≤ 35184372088832)) (by omega)) (Below.refl _ _) (Nat.le_refl _) ?_; intro v106 w10 ho11 hb hg_ hnew_; clear hg_ hnew_; (first | rw [← Ny105.out] at ho11 | (simp only [Int.reduceToNat] at ho11; rw [← Ny105.out] at ho11)); have HO107 := Aside0.mk (Kd.R_lower ho11 (below_size (tB))); replace BK101 := tL BK101 hb; replace HB := tA HB hb; clear hb ho11) | ((with_reducible refine gate_dst (N := 18) rfl ?_); refine Kd.R_lit (Kd.int .i64) _ 3 ?hg (N := 18) ?hd (xs := ([0] : List Int)) (inner := [.int .i64 0]) (ok := fun _ => True) (okp := fun _ => True) ?hr ?hp (fun _ hk => hk) trivial (Below.refl _ _) (Nat.le_refl _) (by simp) ?_; (case hd => rfl); (case hg => rfl); (case hr => first | (go_simp; done) | (go_simp; rfl)); (case hp => exact (Reps.one (show Kd.M (Kd.int .i64) _ _ _ 0 [.int .i64 0] from rfl) (Reps.none _ _))); intro v109 w12 ho13 hb hg_ hnew_; clear hg_ hnew_; (first | rw [← Ny108.out] at ho13 | (simp only [Int.reduceToNat] at ho13; rw [← Ny108.out] at ho13)); have HO110 := Aside0.mk (Kd.R_lower (Kd.R_new' ho13 (Kd.R_lt (tR HO107))) (below_size (tB))); replace HO107 := Aside0.mk (Kd.R_elder' (tR HO107) (Kd.R_base ho13) hb); replace BK101 := tL BK101 hb; replace HB := tA HB hb; clear hb ho13))
  go_loopg [5, 6] k (fun kq v5 v6 w' => ∃ (x4_1 : List Int) (x5_1 : List Int) (x6_1 : Int), v6 = .int .i64 x6_1 ∧ Aside0 (witness_Diameter.l0 kq t102 x4_1 x5_1 x6_1 = some r) ∧ Aside0 (kq ≤ k) ∧ Aside0 (Kd.R (Kd.int .i64) 3 w' w.heap.size (fun k_ => some k_ ≠ (v5 : Value).ownBlock) v106 x4_1) ∧ Aside0 (Kd.Q (Kd.int .i64) 3 w' w.heap.size (fun k_ => some k_ ≠ (v106 : Value).ownBlock) v5 x5_1) ∧ Aside0 (w'.heap[gb101]? = some (.cells #[(.slice A0_0 l0_0.length c0_0), (.slice A0_1 l0_1.length c0_1), .bool a0_2] 25 (0, 0))) ∧ Aside0 (Below w.heap.size w w'))
  case atStart => exact ⟨(y105), (y108), (0), tU, H', ⟨Nat.le_refl _⟩, ⟨by (with_reducible repeat (first | apply Kd.R_alloc | apply Kd.R_drewN | apply Kd.R_drew)); exact Kd.R_mono HO107.out (fun _ hk => hk.2)⟩, ⟨Kd.Q_of_R (by (with_reducible repeat (first | apply Kd.R_alloc | apply Kd.R_drewN | apply Kd.R_drew)); exact Kd.R_mono HO110.out (fun _ hk => hk.2))⟩, ⟨tK BK101⟩, ⟨tB⟩⟩
  case round =>
   clear H'
   (try clear c1); (try clear p2); (try clear c3); (try clear c3b0); (try clear c3b1); (try clear c3b2); (try clear c6); (try clear c6b0); (try clear c6b1); (try clear c7); (try clear c7b0); (try clear c7b1); (try clear hcz5_0 hcz5_1 hcz5_2 hfz5_0 hfz5_1 hfz5_2); (try clear hcz9_0 hcz9_1 hcz9_2 hfz9_0 hfz9_1 hfz9_2)
   obtain ⟨x4_1, x5_1, x6_1, rfl, HA, HK1, HO_4, HO_5, BK101, HB⟩ := hrel
   cases gk with
   | zero => exact absurd HA.out (by simp [witness_Diameter.l0])
   | succ k1 =>
    have H := HA.out
    clear HA
    simp only [witness_Diameter.l0] at H
    by_cases c14 : (x5_1.length : Int) > 0
    ·rw [if_pos c14] at H
     have c14b0 := tdGi c14
     have c14b1 : decide (0 < x5_1.length) = true := decide_eq_true (by omega)
     clear c14
     replace H := tF H
     obtain ⟨c15, H⟩ := H
     have c15b0 := decide_eq_true c15
     have c15b1 : decide (0 < x5_1.length) = true := decide_eq_true (by omega)
     clear c15
     replace H := tF H
     obtain ⟨c16, H⟩ := H
     have c16b0 := eq_true c16
     have c16b1 := decide_eq_true c16
     clear c16
     obtain ⟨y112, hy112⟩ : ∃ y_ : List Int, y_ = (x5_1.drop (1 : Int).toNat) := ⟨_, rfl⟩
     replace H : (if 0 ≤ (rd x5_1 0) then (if (rd x5_1 0) < (x4_1.length : Int) then (if (rd x5_1 0) < (t102.length : Int) then (witness_Diameter.l1 k1 t102 x4_1 y112 (mx x6_1 (rd x4_1 (rd x5_1 0))) (rd x5_1 0) (rd_L66 t102 (rd x5_1 0)) ((rd_L66 t102 (rd x5_1 0)).length : Int) 0) else (none)) else (none)) else (none)) = some r := tQ hy112 H
     have Ny112 := Aside0.mk hy112
     clear hy112
     replace H := tF H
     obtain ⟨c17, H⟩ := H
     have c17b0 := decide_eq_true c17
     clear c17
     replace H := tF H
     obtain ⟨c18, H⟩ := H
     have c18b0 := decide_eq_true c18
     clear c18
     obtain ⟨ji19, hji19⟩ : ∃ j_ : Int, (mx x6_1 (rd x4_1 (rd x5_1 0))) = j_ := ⟨_, rfl⟩
     replace H : (if (rd x5_1 0) < (t102.length : Int) then (witness_Diameter.l1 k1 t102 x4_1 y112 ji19 (rd x5_1 0) (rd_L66 t102 (rd x5_1 0)) ((rd_L66 t102 (rd x5_1 0)).length : Int) 0) else (none)) = some r := by first | (rw [hji19] at H; exact H) | (simp only [hji19] at H ⊢; exact H)
     have hji19_ : (if x6_1 < (rd x4_1 (rd x5_1 0)) then (rd x4_1 (rd x5_1 0)) else x6_1) = ji19 := hji19
     replace H := tF H
     obtain ⟨c20, H⟩ := H
     have c20b0 := decide_eq_true c20
     clear c20
     have H' := Aside0.mk H
     clear H
     obtain ⟨Ao21, co21, eo21, _⟩ := Kd.Q_slice HO_5.out
     subst eo21
     have p111 : 0 ≤ (0 : Int) := (by omega)
     have q111 : 0 < (x5_1.length : Int) := tD
     obtain ⟨ad111, e111, hx111_0⟩ := Kd.at_int (Kd.Q_reads' HO_5.out).2.2 0 p111 q111
     cases e111
     have qi111 : (0 < x5_1.length) = True := eq_true (by omega)
     (try rw [show ((0 : Int)).toNat = 0 from rfl] at hx111_0)
     (try rw [Addr.add_zero'] at hx111_0)
     replace p111 := eq_true p111
     replace q111 := eq_true q111
     have q22 : (1 : Int) ≤ ((x5_1.length : Int) : Int) := tD
     obtain ⟨i022, hi022, _, hsz22, _⟩ := info_parts info3
     have hcut22 := cut_from (P := Try.prog) 28 3 .i64 Try.underlying28 hi022 1 hsz22 (some ad111) x5_1.length co21 1 (by omega) q22
     have hr22 := Kd.Q_drop (k := (1 : Int).toNat) HO_5.out (by omega)
     obtain ⟨A22, hA22⟩ : ∃ A1, A1 = (if co21 = (1 : Int).toNat then (some ad111) else ((some ad111) : Option Addr).map (·.add ((1 : Int).toNat * 1))) := ⟨_, rfl⟩
     obtain ⟨c22, hc22⟩ : ∃ c1, c1 = co21 - (1 : Int).toNat := ⟨_, rfl⟩
     have hy22 : y112.length = x5_1.length - (1 : Int).toNat := (by rw [Ny112.out, List.length_drop])
     rw [← Ny112.out] at hr22
     rw [← hy22, ← hA22, ← hc22] at hcut22
     replace hr22 : Kd.Q (Kd.int .i64) 3 wr w.heap.size (fun k_ => some k_ ≠ (v106 : Value).ownBlock) (.slice A22 y112.length c22) y112 := (by rw [hA22, hc22, hy22]; exact hr22)
     have HE22 : Aside0 ((Value.slice A22 y112.length c22).ownBlock = (.slice (some ad111) x5_1.length co21 : Value).ownBlock) := ⟨by rw [hA22]; split <;> (cases ((some ad111) : Option Addr) <;> rfl)⟩
     clear hy22 hi022 hsz22 HO_5 hA22 hc22
     have HO114 := Aside0.mk hr22
     clear hr22
     replace q22 := eq_true q22
     have n_ := Aside0.mk (Kd.R_mono (ok' := fun k_ => some k_ ≠ (.slice A22 y112.length c22 : Value).ownBlock) HO_4.out (fun k_ hk => (by rw [HE22.out]; exact hk)))
     clear HO_4
     have HO_4 := n_
     clear n_
     obtain ⟨Ao23, co23, eo23⟩ := Kd.R_slice HO_4.out
     subst eo23
     have p115 : 0 ≤ ((rd x5_1 0) : Int) := tD
     have q115 : (rd x5_1 0) < (x4_1.length : Int) := tD
     obtain ⟨ad115, e115, hx115_0⟩ := Kd.at_int (Kd.R_reads' HO_4.out).2.2 (rd x5_1 0) p115 q115
     cases e115
     replace p115 := eq_true p115
     replace q115 := eq_true q115
     have p116 : 0 ≤ ((rd x5_1 0) : Int) := tD
     have q116 : (rd x5_1 0) < (t102.length : Int) := tD
     obtain ⟨ad116, A116_0, c116_0, e116, hx116_0, hl116_0, hi116_0⟩ := at_L66 HRs_t102.out (rd x5_1 0) p116 q116
     cases e116
     replace hx116_0 := tH HB hx116_0
     have HR116_0 := Aside0.mk hi116_0
     have HC116_0 := Aside0.mk hl116_0
     clear hi116_0 hl116_0
     replace p116 := eq_true p116
     replace q116 := eq_true q116
     go_wp2
     go_loopg [5, 38] k1 (fun kq v5 v38 w' => ∃ (x4_2 : List Int) (x5_2 : List Int) (x38_2 : Int), v38 = .int .i64 x38_2 ∧ Aside0 (witness_Diameter.l1 kq t102 x4_2 x5_2 ji19 (rd x5_1 0) (rd_L66 t102 (rd x5_1 0)) ((rd_L66 t102 (rd x5_1 0)).length : Int) x38_2 = some r) ∧ Aside0 (kq ≤ k1) ∧ Aside0 (Kd.R (Kd.int .i64) 3 w' w.heap.size (fun k_ => some k_ ≠ (v5 : Value).ownBlock) (.slice (some ad115) x4_1.length co23) x4_2) ∧ Aside0 (Kd.Q (Kd.int .i64) 3 w' w.heap.size (fun k_ => some k_ ≠ ((.slice (some ad115) x4_1.length co23) : Value).ownBlock) v5 x5_2) ∧ Aside0 (w'.heap[gb101]? = some (.cells #[(.slice A0_0 l0_0.length c0_0), (.slice A0_1 l0_1.length c0_1), .bool a0_2] 25 (0, 0))) ∧ Aside0 (Below w.heap.size w w'))
     case atStart => exact ⟨(x4_1), (y112), (0), tU, H', ⟨Nat.le_refl _⟩, ⟨tR HO_4⟩, ⟨tR HO114⟩, ⟨tK BK101⟩, ⟨tB⟩⟩
     case round =>
      clear H'
      (try clear c1); (try clear p1); (try clear q1); (try clear hx1); (try clear qi1); (try clear c2); (try clear p2); (try clear q2); (try clear c3); (try clear c3b0); (try clear c3b1); (try clear c3b2); (try clear c6); (try clear c6b0); (try clear c6b1); (try clear c7); (try clear c7b0); (try clear c7b1); (try clear c11); (try clear p11); (try clear q11); (try clear hx11); (try clear qi11); (try clear c14); (try clear c14b0); (try clear c14b1); (try clear c15); (try clear c15b0); (try clear c15b1); (try clear c16); (try clear c16b0); (try clear c16b1); (try clear c17); (try clear c17b0); (try clear c18); (try clear c18b0); (try clear c20); (try clear c20b0); (try clear c22); (try clear q22); (try clear hcz5_0 hcz5_1 hcz5_2 hfz5_0 hfz5_1 hfz5_2); (try clear hcz9_0 hcz9_1 hcz9_2 hfz9_0 hfz9_1 hfz9_2); (try clear hx111_0); (try clear hx115_0); (try clear hx116_0); (try clear p111); (try clear p115); (try clear p116); (try clear q111); (try clear q115); (try clear q116)
      obtain ⟨x4_2, x5_2, x38_2, rfl, HA, HK2, HO_4, HO_5, BK101, HB⟩ := hrel
      have hl4_2 := (Kd.R_reads' HO_4.out).1
      rw [hl4_2] at HO_4
      (try simp only [hl4_2])
      (try simp only [hl4_2] at BK101)
      (try simp only [hl4_2] at HO_5)
      cases gk with
      | zero => exact absurd HA.out (by simp [witness_Diameter.l1])
      | succ k2 =>
       have H := HA.out
       clear HA
       simp only [witness_Diameter.l1] at H
       by_cases c24 : x38_2 < ((rd_L66 t102 (rd x5_1 0)).length : Int)
       ·rw [if_pos c24] at H
        have c24b0 := decide_eq_true c24
        clear c24
        replace H := tF H
        obtain ⟨c25, H⟩ := H
        have c25b0 := decide_eq_true c25
        clear c25
        replace H := tF H
        obtain ⟨c26, H⟩ := H
        have c26b0 := decide_eq_true c26
        clear c26
        by_cases c27 : ((rd_T66 (rd_L66 t102 (rd x5_1 0)) x38_2).f1) = 0
        ·rw [if_pos c27] at H
         have c27b0 := beq_iff_eq.mpr c27
         have c27b1 := bne_eq_false_iff_eq.mpr c27
         clear c27
         have H' := Aside0.mk H
         clear H
         have p117 : 0 ≤ (x38_2 : Int) := tD
         have q117 : x38_2 < ((rd_L66 t102 (rd x5_1 0)).length : Int) := tD
         obtain ⟨ad117, e117, hx117_0, hx117_1⟩ := at_T66 HR116_0.out x38_2 p117 q117
         cases e117
         replace hx117_0 := tH HB hx117_0
         replace hx117_1 := tH HB hx117_1
         replace p117 := eq_true p117
         replace q117 := eq_true q117
         go_wp2_with (first | ((with_reducible refine gate_dst (N := 9) rfl ?_); refine tBx 9 66 #[.int .i64 0, .int .i64 0] ?_; intro gb118 hg w28 hbox hb; replace HO_4 := Aside0.mk (Kd.R_below (tR HO_4) hb); replace HO_5 := Aside0.mk (Kd.Q_below (tR HO_5) hb); have BK118 := Aside0.mk (hbox); have GW118 := tW HB hg; have GE118 := tW HB hg; replace HB := tA HB hb; have NB101_118 := tNl BK101 hg; have NB118_101 := tNg BK101 hg; replace BK101 := tL BK101 hb; clear hb hbox hg; have hnb29 := NB118_101.out; have hnc29 := NB101_118.out; obtain ⟨hcz30_0, hcz30_1, hfz30_0, hfz30_1⟩ := zc2 BK118))
         (try simp only [← hl4_2])
         (try rw [show (⟨go36, (rd x5_1 0).toNat, none⟩ : Addr) = (⟨go36, 0, none⟩ : Addr).add (rd x5_1 0).toNat from (add_plain _ _).symm])
         go_roundg k2
         case measure => have := HK1.out; have := HK2.out; omega
         case rel => exact ⟨(x4_2), (x5_2), (wrap64 (x38_2 + 1)), tU, H', ⟨by have := HK1.out; have := HK2.out; omega⟩, ⟨by (try simp only [hl4_2]); (with_reducible repeat (first | apply Kd.R_alloc | apply Kd.R_drewN | apply Kd.R_drew)); exact Kd.R_mono (Kd.R_far (p := ⟨gb118, 1, none⟩) (Kd.R_far (p := ⟨gb118, 0, none⟩) (Kd.R_types HO_4.out BK118.out (by decide)) (fun _ hk => hk.2) (.int .i64 ((rd_T66 (rd_L66 t102 (rd x5_1 0)) x38_2).f0))) (fun _ hk => hk.2) (.int .i64 ((rd_T66 (rd_L66 t102 (rd x5_1 0)) x38_2).f1))) (fun _ hk => hk.1)⟩, ⟨by (try simp only [hl4_2]); (with_reducible repeat (first | apply Kd.Q_alloc | apply Kd.Q_drewN | apply Kd.Q_drew)); exact Kd.Q_mono (Kd.Q_far (p := ⟨gb118, 1, none⟩) (Kd.Q_far (p := ⟨gb118, 0, none⟩) (Kd.Q_types HO_5.out BK118.out (by decide)) (fun _ hk => hk.2) (.int .i64 ((rd_T66 (rd_L66 t102 (rd x5_1 0)) x38_2).f0))) (fun _ hk => hk.2) (.int .i64 ((rd_T66 (rd_L66 t102 (rd x5_1 0)) x38_2).f1))) (fun _ hk => hk.1)⟩, ⟨by (try simp only [hl4_2]); (with_reducible repeat (first | refine blk_drewN ?_ _ | refine blk_drew ?_ | refine blk_alloc ?_ _)); refine blk_far ?_ NB101_118.out _; (with_reducible repeat (first | refine blk_drewN ?_ _ | refine blk_drew ?_ | refine blk_alloc ?_ _)); refine blk_far ?_ NB101_118.out _; (with_reducible repeat (first | refine blk_drewN ?_ _ | refine blk_drew ?_ | refine blk_alloc ?_ _)); exact BK101.out⟩, ⟨tB⟩⟩
        rw [if_neg c27] at H
        have c27b0 := beq_eq_false_iff_ne.mpr c27
        have c27b1 := bne_iff_ne.mpr c27
        replace H := tF H
        obtain ⟨c31, H⟩ := H
        have c31b0 := decide_eq_true c31
        clear c31
        replace H := tF H
        obtain ⟨c32, H⟩ := H
        have c32b0 := decide_eq_true c32
        clear c32
        by_cases c33 : (rd x4_2 ((rd_T66 (rd_L66 t102 (rd x5_1 0)) x38_2).f1)) = 0
        ·rw [if_pos c33] at H
         have c33b0 := beq_iff_eq.mpr c33
         have c33b1 := bne_eq_false_iff_eq.mpr c33
         clear c33
         replace H := tF H
         obtain ⟨c34, H⟩ := H
         have c34b0 := decide_eq_true c34
         clear c34
         replace H := tF H
         obtain ⟨c35, H⟩ := H
         have c35b0 := decide_eq_true c35
         clear c35
         obtain ⟨y121, hy121⟩ : ∃ y_ : List Int, y_ = (x4_2.set (((rd_T66 (rd_L66 t102 (rd x5_1 0)) x38_2).f1) : Int).toNat (wrap64 ((rd x4_2 (rd x5_1 0)) + 1))) := ⟨_, rfl⟩
         replace H : (if x5_2.length < 17592186044416 then (witness_Diameter.l1 k2 t102 y121 (x5_2 ++ [(rd_T66 (rd_L66 t102 (rd x5_1 0)) x38_2).f1]) ji19 (rd x5_1 0) (rd_L66 t102 (rd x5_1 0)) ((rd_L66 t102 (rd x5_1 0)).length : Int) (wrap64 (x38_2 + 1))) else (none)) = some r := tQ hy121 H
         have Ny121 := Aside0.mk hy121
         clear hy121
         replace H := tF H
         obtain ⟨c37, H⟩ := H
         have LMc37 := Aside0.mk c37
         clear c37
         obtain ⟨y122, hy122⟩ : ∃ y_ : List Int, y_ = (x5_2 ++ [(rd_T66 (rd_L66 t102 (rd x5_1 0)) x38_2).f1]) := ⟨_, rfl⟩
         replace H : (witness_Diameter.l1 k2 t102 y121 y122 ji19 (rd x5_1 0) (rd_L66 t102 (rd x5_1 0)) ((rd_L66 t102 (rd x5_1 0)).length : Int) (wrap64 (x38_2 + 1))) = some r := tQ hy122 H
         have Ny122 := Aside0.mk hy122
         clear hy122
         have H' := Aside0.mk H
         clear H
         have p117 : 0 ≤ (x38_2 : Int) := tD
         have q117 : x38_2 < ((rd_L66 t102 (rd x5_1 0)).length : Int) := tD
         obtain ⟨ad117, e117, hx117_0, hx117_1⟩ := at_T66 HR116_0.out x38_2 p117 q117
         cases e117
         replace hx117_0 := tH HB hx117_0
         replace hx117_1 := tH HB hx117_1
         replace p117 := eq_true p117
         replace q117 := eq_true q117
         try go_wp2_with (first | ((with_reducible refine gate_dst (N := 9) rfl ?_); refine tBx 9 66 #[.int .i64 0, .int .i64 0] ?_; intro gb118 hg w38 hbox hb; replace HO_4 := Aside0.mk (Kd.R_below (tR HO_4) hb); replace HO_5 := Aside0.mk (Kd.Q_below (tR HO_5) hb); have BK118 := Aside0.mk (hbox); have GW118 := tW HB hg; have GE118 := tW HB hg; replace HB := tA HB hb; have NB101_118 := tNl BK101 hg; have NB118_101 := tNg BK101 hg; replace BK101 := tL BK101 hb; clear hb hbox hg; have hnb39 := NB118_101.out; have hnc39 := NB101_118.out; obtain ⟨hcz40_0, hcz40_1, hfz40_0, hfz40_1⟩ := zc2 BK118; have p119 : 0 ≤ (((rd_T66 (rd_L66 t102 (rd x5_1 0)) x38_2).f1) : Int) := tD; have q119 : ((rd_T66 (rd_L66 t102 (rd x5_1 0)) x38_2).f1) < (x4_2.length : Int) := tD; obtain ⟨ad119, e119, hx119_0⟩ := Kd.at_int (Kd.R_reads' HO_4.out).2.2 ((rd_T66 (rd_L66 t102 (rd x5_1 0)) x38_2).f1) p119 q119; obtain rfl : ad115 = ad119 := (by injection e119); have hn119_0 : ad115.block ≠ gb118 := Kd.own_blk (Kd.R_ne HO_4.out BK118.out (by decide)); have hn119_1 : ad115.block ≠ gb118 := Kd.own_blk (Kd.R_ne HO_4.out BK118.out (by decide)); replace hx119_0 := (cell_far (p := ⟨gb118, 0, none⟩) (by first | (rw [add_block]; exact hn119_0) | (show (Addr.add _ _).block ≠ _; rw [add_block]; exact hn119_0) | exact hn119_0) (.int .i64 ((rd_T66 (rd_L66 t102 (rd x5_1 0)) x38_2).f0))).trans hx119_0; replace hx119_0 := (cell_far (p := ⟨gb118, 1, none⟩) (by first | (rw [add_block]; exact hn119_1) | (show (Addr.add _ _).block ≠ _; rw [add_block]; exact hn119_1) | exact hn119_1) (.int .i64 ((rd_T66 (rd_L66 t102 (rd x5_1 0)) x38_2).f1))).trans hx119_0; clear hn119_0; clear hn119_1; replace p119 := eq_true p119; replace q119 := eq_true q119))
         have n0_ : Aside0 (Kd.R (Kd.int .i64) 3 ((w38.setCell ⟨gb118, 0, none⟩ (.int .i64 ((rd_T66 (rd_L66 t102 (rd x5_1 0)) x38_2).f0))).setCell ⟨gb118, 1, none⟩ (.int .i64 ((rd_T66 (rd_L66 t102 (rd x5_1 0)) x38_2).f1))) w.heap.size (fun k_ => some k_ ≠ (u5 : Value).ownBlock) (.slice (some ad115) x4_2.length co23) x4_2) := ⟨by (with_reducible repeat (first | apply Kd.R_alloc | apply Kd.R_drewN | apply Kd.R_drew)); exact Kd.R_mono (Kd.R_far (p := ⟨gb118, 1, none⟩) (Kd.R_far (p := ⟨gb118, 0, none⟩) (Kd.R_types HO_4.out BK118.out (by decide)) (fun _ hk => hk.2) (.int .i64 ((rd_T66 (rd_L66 t102 (rd x5_1 0)) x38_2).f0))) (fun _ hk => hk.2) (.int .i64 ((rd_T66 (rd_L66 t102 (rd x5_1 0)) x38_2).f1))) (fun _ hk => hk.1)⟩
         have n1_ : Aside0 (Kd.Q (Kd.int .i64) 3 ((w38.setCell ⟨gb118, 0, none⟩ (.int .i64 ((rd_T66 (rd_L66 t102 (rd x5_1 0)) x38_2).f0))).setCell ⟨gb118, 1, none⟩ (.int .i64 ((rd_T66 (rd_L66 t102 (rd x5_1 0)) x38_2).f1))) w.heap.size (fun k_ => some k_ ≠ (.slice (some ad115) x4_2.length co23 : Value).ownBlock) u5 x5_2) := ⟨by (with_reducible repeat (first | apply Kd.Q_alloc | apply Kd.Q_drewN | apply Kd.Q_drew)); exact Kd.Q_mono (Kd.Q_far (p := ⟨gb118, 1, none⟩) (Kd.Q_far (p := ⟨gb118, 0, none⟩) (Kd.Q_types HO_5.out BK118.out (by decide)) (fun _ hk => hk.2) (.int .i64 ((rd_T66 (rd_L66 t102 (rd x5_1 0)) x38_2).f0))) (fun _ hk => hk.2) (.int .i64 ((rd_T66 (rd_L66 t102 (rd x5_1 0)) x38_2).f1))) (fun _ hk => hk.1)⟩
         have n2_ : Aside0 (((w38.setCell ⟨gb118, 0, none⟩ (.int .i64 ((rd_T66 (rd_L66 t102 (rd x5_1 0)) x38_2).f0))).setCell ⟨gb118, 1, none⟩ (.int .i64 ((rd_T66 (rd_L66 t102 (rd x5_1 0)) x38_2).f1))).heap[gb101]? = some (.cells #[.slice A0_0 l0_0.length c0_0, .slice A0_1 l0_1.length c0_1, .bool a0_2] 25 (0, 0))) := ⟨by (with_reducible repeat (first | refine blk_drewN ?_ _ | refine blk_drew ?_ | refine blk_alloc ?_ _)); refine blk_far ?_ NB101_118.out _; (with_reducible repeat (first | refine blk_drewN ?_ _ | refine blk_drew ?_ | refine blk_alloc ?_ _)); refine blk_far ?_ NB101_118.out _; (with_reducible repeat (first | refine blk_drewN ?_ _ | refine blk_drew ?_ | refine blk_alloc ?_ _)); exact BK101.out⟩
         have n3_ : Aside0 (((w38.setCell ⟨gb118, 0, none⟩ (.int .i64 ((rd_T66 (rd_L66 t102 (rd x5_1 0)) x38_2).f0))).setCell ⟨gb118, 1, none⟩ (.int .i64 ((rd_T66 (rd_L66 t102 (rd x5_1 0)) x38_2).f1))).heap[gb118]? = some (.cells #[.int .i64 ((rd_T66 (rd_L66 t102 (rd x5_1 0)) x38_2).f0), .int .i64 ((rd_T66 (rd_L66 t102 (rd x5_1 0)) x38_2).f1)] 66 (0, 0))) := ⟨by (with_reducible repeat (first | refine blk_drewN ?_ _ | refine blk_drew ?_ | refine blk_alloc ?_ _)); refine blk_put (cs := #[.int .i64 ((rd_T66 (rd_L66 t102 (rd x5_1 0)) x38_2).f0), .int .i64 0]) ?_ 1 _ rfl; (with_reducible repeat (first | refine blk_drewN ?_ _ | refine blk_drew ?_ | refine blk_alloc ?_ _)); refine blk_put (cs := #[.int .i64 0, .int .i64 0]) ?_ 0 _ rfl; (with_reducible repeat (first | refine blk_drewN ?_ _ | refine blk_drew ?_ | refine blk_alloc ?_ _)); exact BK118.out⟩
         have n4_ : Aside0 (Below w.heap.size w ((w38.setCell ⟨gb118, 0, none⟩ (.int .i64 ((rd_T66 (rd_L66 t102 (rd x5_1 0)) x38_2).f0))).setCell ⟨gb118, 1, none⟩ (.int .i64 ((rd_T66 (rd_L66 t102 (rd x5_1 0)) x38_2).f1)))) := ⟨tB⟩
         (try clear HO_4)
         (try clear HO_5)
         (try clear BK101)
         (try clear BK118)
         (try clear HB)
         generalize ((w38.setCell ⟨gb118, 0, none⟩ (.int .i64 ((rd_T66 (rd_L66 t102 (rd x5_1 0)) x38_2).f0))).setCell ⟨gb118, 1, none⟩ (.int .i64 ((rd_T66 (rd_L66 t102 (rd x5_1 0)) x38_2).f1))) = w41 at n0_ n1_ n2_ n3_ n4_ ⊢
         have HO_4 := n0_
         have HO_5 := n1_
         have BK101 := n2_
         have BK118 := n3_
         have HB := n4_
         clear n0_ n1_ n2_ n3_ n4_
         replace HO_4 := Aside0.mk (Kd.R_drew HO_4.out)
         replace HO_5 := Aside0.mk (Kd.Q_drew HO_5.out)
         replace BK101 := Aside0.mk (blk_drew BK101.out)
         replace BK118 := Aside0.mk (blk_drew BK118.out)
         replace HB := Aside0.mk (below_drew1 HB.out)
         have p120 : 0 ≤ ((rd x5_1 0) : Int) := tD
         have q120 : (rd x5_1 0) < (x4_2.length : Int) := tD
         obtain ⟨ad120, e120, hx120_0⟩ := Kd.at_int (Kd.R_reads' HO_4.out).2.2 (rd x5_1 0) p120 q120
         obtain rfl : ad115 = ad120 := (by injection e120)
         replace p120 := eq_true p120
         replace q120 := eq_true q120
         have p36 : 0 ≤ (((rd_T66 (rd_L66 t102 (rd x5_1 0)) x38_2).f1) : Int) := tD
         have q36 : (((rd_T66 (rd_L66 t102 (rd x5_1 0)) x38_2).f1) : Int) < ((x4_2.length : Int) : Int) := tD
         obtain ⟨go36, co36, eo36, gb36, gl36, cl36, HG36⟩ := Kd.R_form HO_4.out (by omega)
         (first | cases eo36 | (injection eo36 with ea_ en_ ec_; (first | subst ea_ | (injection ea_ with ea_; subst ea_)); subst ec_; clear en_))
         have GB36 := Aside0.mk gb36
         have GG36 := Aside0.mk HG36
         clear gb36 gl36 HG36
         (first | simp only [add_plain] at hx115_0 | skip)
         (first | simp only [add_plain] at hx119_0 | skip)
         (first | simp only [add_plain] at hx120_0 | skip)
         obtain ⟨hx36_0, hf36_0⟩ := Kd.R_celln 0 HO_4.out (((rd_T66 (rd_L66 t102 (rd x5_1 0)) x38_2).f1) : Int) p36 q36
         replace p36 := eq_true p36
         replace q36 := eq_true q36
         have HP43 := Kd.R_putn HO_4.out (((rd_T66 (rd_L66 t102 (rd x5_1 0)) x38_2).f1) : Int) (wrap64 ((rd x4_2 (rd x5_1 0)) + 1))
         rw [← Ny121.out] at HP43
         have HQ43 := Aside0.mk HP43
         clear HP43
         refine sS3 10 [9] rfl witness_Diameter.tab15 witness_Diameter.bits15 ⟨tz BK118 0, tz BK118 1, hx120_0⟩ (fun hHeld HT_ HW_ => ?_)
         generalize w41.drew = w42 at HO_4 HO_5 BK101 BK118 HB GG36 HQ43 hf36_0 hx119_0 hx120_0 hx36_0 hHeld ⊢
         refine sP 0 53 HT_ rfl rfl ?_
         refine sP 1 54 HT_ rfl rfl ?_
         refine sP 3 56 HT_ rfl rfl ?_
         refine sP 4 57 HT_ rfl rfl ?_
         refine sP 5 58 HT_ rfl rfl ?_
         refine sT 2 55 HT_ HW_ rfl rfl hHeld ?_
         refine sT 6 59 HT_ HW_ rfl rfl hHeld ?_
         refine sP 7 60 HT_ rfl rfl ?_
         refine sP 8 61 HT_ rfl rfl ?_
         refine sL 9 none HT_ rfl rfl (fun K hK => ?_)
         refine skip_ (w1 := ?_) (by rfl) rfl ?_ ?_
         rotate_left
         ·go_simp
          rfl
         refine hK.out _ _ ?_
         clear hK K
         refine sD HT_ ?_
         obtain ⟨hcz44_0, hcz44_1, hfz44_0, hfz44_1⟩ := zc2 BK118
         have hnbx_ : go36 ≠ gb118 := by have h_ := Kd.R_ne HO_4.out BK118.out (by decide); intro e_; exact h_ (by rw [e_]; rfl)
         have hnby_ : gb118 ≠ go36 := fun e_ => hnbx_ e_.symm
         try go_wp2_with (first | ((with_reducible refine gate_builtin (b := .append) (xs := #[.tmp 62, .tmp 65]) rfl ?_); at_builtin; refine Kd.Q_append (Kd.int .i64) (w0 := w) w.heap.size rfl (.tmp 62) (.tmp 65) 28 3 (.int .i64 0) 8 rfl Try.underlying28 info3 rfl (by decide) (by omega) u5 x5_2 ((rd_T66 (rd_L66 t102 (rd x5_1 0)) x38_2).f1) [.int .i64 ((rd_T66 (rd_L66 t102 (rd x5_1 0)) x38_2).f1)] (fun k_ => some k_ ≠ (.slice (some ⟨go36, 0, none⟩) x4_2.length co23 : Value).ownBlock) (fun _ => False) rfl (by first | (go_simp; done) | (go_simp; rfl)) ?aP (fun _ hk => hk.elim) ?aF ?aO ?aB ?aS ?aL ?_; (case aP => exact rfl); (case aB => exact (by repeat (first | (with_reducible first | exact HB.out | apply below_alloc | apply pw_below_drewN | apply below_drew1 | refine below_set ?_ GB36.out | refine below_set ?_ GE101.out | refine below_set ?_ GE118.out) | exact HB.out))); (case aF => exact (fun k_ hk => Kd.fresh' (Kd.R_lt (tR HQ43)) k_ hk)); (case aO => exact (by (with_reducible repeat (first | apply Kd.Q_alloc | apply Kd.Q_drewN | apply Kd.Q_drew)); exact Kd.Q_mono (Kd.Q_far (p := ⟨go36, (((rd_T66 (rd_L66 t102 (rd x5_1 0)) x38_2).f1) : Int).toNat, none⟩) (Kd.Q_mono HO_5.out (fun k_ hk => (⟨hk, fun e_ => hk (by rw [e_]; rfl)⟩ : _ ∧ k_ ≠ go36))) (fun _ hk => hk.2) (.int .i64 (wrap64 ((rd x4_2 (rd x5_1 0)) + 1)))) (fun _ hk => hk.1))); (case aS => exact (below_size (by repeat (first | (with_reducible first | exact HB.out | apply below_alloc | apply pw_below_drewN | apply below_drew1 | refine below_set ?_ GB36.out | refine below_set ?_ GE101.out | refine below_set ?_ GE118.out) | exact HB.out)))); (case aL => have := LMc37.out; omega); intro v123 w45 ho hb hg hat; rw [← Ny122.out] at ho; replace BK101 := Aside0.mk (blk_grown (g := gb101) (o := .cells #[.slice A0_0 l0_0.length c0_0, .slice A0_1 l0_1.length c0_1, .bool a0_2] 25 (0, 0)) (by (with_reducible repeat (first | refine blk_drewN ?_ _ | refine blk_drew ?_ | refine blk_alloc ?_ _)); refine blk_far ?_ (by have h_ := Kd.R_ne HO_4.out BK101.out (by decide); intro e_; exact h_ (by rw [e_]; rfl)) _; (with_reducible repeat (first | refine blk_drewN ?_ _ | refine blk_drew ?_ | refine blk_alloc ?_ _)); exact BK101.out) hg (Kd.Q_ne HO_5.out BK101.out (by decide))); replace BK118 := Aside0.mk (blk_grown (g := gb118) (o := .cells #[.int .i64 ((rd_T66 (rd_L66 t102 (rd x5_1 0)) x38_2).f0), .int .i64 ((rd_T66 (rd_L66 t102 (rd x5_1 0)) x38_2).f1)] 66 (0, 0)) (by (with_reducible repeat (first | refine blk_drewN ?_ _ | refine blk_drew ?_ | refine blk_alloc ?_ _)); refine blk_far ?_ (by have h_ := Kd.R_ne HO_4.out BK118.out (by decide); intro e_; exact h_ (by rw [e_]; rfl)) _; (with_reducible repeat (first | refine blk_drewN ?_ _ | refine blk_drew ?_ | refine blk_alloc ?_ _)); exact BK118.out) hg (Kd.Q_ne HO_5.out BK118.out (by decide))); replace HO_4 := Aside0.mk (Kd.R_after (ok := (fun _ => True)) (by (with_reducible repeat (first | apply Kd.R_alloc | apply Kd.R_drewN | apply Kd.R_drew)); exact Kd.R_mono HQ43.out (fun _ hk => ⟨trivial, hk⟩)) hg hat); replace HB := Aside0.mk (hb); have HO124 := Aside0.mk (ho); clear HO_5; clear ho hb hg hat))
         (try simp only [← hl4_2])
         (try rw [show (⟨go36, (rd x5_1 0).toNat, none⟩ : Addr) = (⟨go36, 0, none⟩ : Addr).add (rd x5_1 0).toNat from (add_plain _ _).symm])
         go_roundg k2
         case measure => have := HK1.out; have := HK2.out; omega
         case rel => exact ⟨(y121), (y122), (wrap64 (x38_2 + 1)), tU, H', ⟨by have := HK1.out; have := HK2.out; omega⟩, ⟨by (try simp only [hl4_2]); (with_reducible repeat (first | apply Kd.R_alloc | apply Kd.R_drewN | apply Kd.R_drew)); exact Kd.R_mono HO_4.out (fun _ hk => hk.2)⟩, ⟨by (try simp only [hl4_2]); (with_reducible repeat (first | apply Kd.Q_alloc | apply Kd.Q_drewN | apply Kd.Q_drew)); exact HO124.out⟩, ⟨by (try simp only [hl4_2]); (with_reducible repeat (first | refine blk_drewN ?_ _ | refine blk_drew ?_ | refine blk_alloc ?_ _)); exact BK101.out⟩, ⟨tB⟩⟩
        rw [if_neg c33] at H
        have c33b0 := beq_eq_false_iff_ne.mpr c33
        have c33b1 := bne_iff_ne.mpr c33
        have H' := Aside0.mk H
        clear H
        have p117 : 0 ≤ (x38_2 : Int) := tD
        have q117 : x38_2 < ((rd_L66 t102 (rd x5_1 0)).length : Int) := tD
        obtain ⟨ad117, e117, hx117_0, hx117_1⟩ := at_T66 HR116_0.out x38_2 p117 q117
        cases e117
        replace hx117_0 := tH HB hx117_0
        replace hx117_1 := tH HB hx117_1
        replace p117 := eq_true p117
        replace q117 := eq_true q117
        go_wp2_with (first | ((with_reducible refine gate_dst (N := 9) rfl ?_); refine tBx 9 66 #[.int .i64 0, .int .i64 0] ?_; intro gb118 hg w46 hbox hb; replace HO_4 := Aside0.mk (Kd.R_below (tR HO_4) hb); replace HO_5 := Aside0.mk (Kd.Q_below (tR HO_5) hb); have BK118 := Aside0.mk (hbox); have GW118 := tW HB hg; have GE118 := tW HB hg; replace HB := tA HB hb; have NB101_118 := tNl BK101 hg; have NB118_101 := tNg BK101 hg; replace BK101 := tL BK101 hb; clear hb hbox hg; have hnb47 := NB118_101.out; have hnc47 := NB101_118.out; obtain ⟨hcz48_0, hcz48_1, hfz48_0, hfz48_1⟩ := zc2 BK118; have p119 : 0 ≤ (((rd_T66 (rd_L66 t102 (rd x5_1 0)) x38_2).f1) : Int) := tD; have q119 : ((rd_T66 (rd_L66 t102 (rd x5_1 0)) x38_2).f1) < (x4_2.length : Int) := tD; obtain ⟨ad119, e119, hx119_0⟩ := Kd.at_int (Kd.R_reads' HO_4.out).2.2 ((rd_T66 (rd_L66 t102 (rd x5_1 0)) x38_2).f1) p119 q119; obtain rfl : ad115 = ad119 := (by injection e119); have hn119_0 : ad115.block ≠ gb118 := Kd.own_blk (Kd.R_ne HO_4.out BK118.out (by decide)); have hn119_1 : ad115.block ≠ gb118 := Kd.own_blk (Kd.R_ne HO_4.out BK118.out (by decide)); replace hx119_0 := (cell_far (p := ⟨gb118, 0, none⟩) (by first | (rw [add_block]; exact hn119_0) | (show (Addr.add _ _).block ≠ _; rw [add_block]; exact hn119_0) | exact hn119_0) (.int .i64 ((rd_T66 (rd_L66 t102 (rd x5_1 0)) x38_2).f0))).trans hx119_0; replace hx119_0 := (cell_far (p := ⟨gb118, 1, none⟩) (by first | (rw [add_block]; exact hn119_1) | (show (Addr.add _ _).block ≠ _; rw [add_block]; exact hn119_1) | exact hn119_1) (.int .i64 ((rd_T66 (rd_L66 t102 (rd x5_1 0)) x38_2).f1))).trans hx119_0; clear hn119_0; clear hn119_1; replace p119 := eq_true p119; replace q119 := eq_true q119))
        (try simp only [← hl4_2])
        (try rw [show (⟨go36, (rd x5_1 0).toNat, none⟩ : Addr) = (⟨go36, 0, none⟩ : Addr).add (rd x5_1 0).toNat from (add_plain _ _).symm])
        go_roundg k2
        case measure => have := HK1.out; have := HK2.out; omega
        case rel => exact ⟨(x4_2), (x5_2), (wrap64 (x38_2 + 1)), tU, H', ⟨by have := HK1.out; have := HK2.out; omega⟩, ⟨by (try simp only [hl4_2]); (with_reducible repeat (first | apply Kd.R_alloc | apply Kd.R_drewN | apply Kd.R_drew)); exact Kd.R_mono (Kd.R_far (p := ⟨gb118, 1, none⟩) (Kd.R_far (p := ⟨gb118, 0, none⟩) (Kd.R_types HO_4.out BK118.out (by decide)) (fun _ hk => hk.2) (.int .i64 ((rd_T66 (rd_L66 t102 (rd x5_1 0)) x38_2).f0))) (fun _ hk => hk.2) (.int .i64 ((rd_T66 (rd_L66 t102 (rd x5_1 0)) x38_2).f1))) (fun _ hk => hk.1)⟩, ⟨by (try simp only [hl4_2]); (with_reducible repeat (first | apply Kd.Q_alloc | apply Kd.Q_drewN | apply Kd.Q_drew)); exact Kd.Q_mono (Kd.Q_far (p := ⟨gb118, 1, none⟩) (Kd.Q_far (p := ⟨gb118, 0, none⟩) (Kd.Q_types HO_5.out BK118.out (by decide)) (fun _ hk => hk.2) (.int .i64 ((rd_T66 (rd_L66 t102 (rd x5_1 0)) x38_2).f0))) (fun _ hk => hk.2) (.int .i64 ((rd_T66 (rd_L66 t102 (rd x5_1 0)) x38_2).f1))) (fun _ hk => hk.1)⟩, ⟨by (try simp only [hl4_2]); (with_reducible repeat (first | refine blk_drewN ?_ _ | refine blk_drew ?_ | refine blk_alloc ?_ _)); refine blk_far ?_ NB101_118.out _; (with_reducible repeat (first | refine blk_drewN ?_ _ | refine blk_drew ?_ | refine blk_alloc ?_ _)); refine blk_far ?_ NB101_118.out _; (with_reducible repeat (first | refine blk_drewN ?_ _ | refine blk_drew ?_ | refine blk_alloc ?_ _)); exact BK101.out⟩, ⟨tB⟩⟩
       rw [if_neg c24] at H
       have c24b0 := decide_eq_false c24
       clear c24
       have H' := Aside0.mk H
       clear H
       go_wp2
       (try simp only [← hl4_2])
       (try rw [show (⟨go36, (rd x5_1 0).toNat, none⟩ : Addr) = (⟨go36, 0, none⟩ : Addr).add (rd x5_1 0).toNat from (add_plain _ _).symm])
       go_roundg k2
       case measure => have := HK1.out; have := HK2.out; omega
       case rel => exact ⟨(x4_2), (x5_2), (ji19), (by first | rfl | (simp; done) | (simp only [← hji19] <;> (first | rfl | simp)) | (simp [*]; done)), H', ⟨by have := HK1.out; have := HK2.out; omega⟩, ⟨by (try simp only [hl4_2]); (with_reducible repeat (first | apply Kd.R_alloc | apply Kd.R_drewN | apply Kd.R_drew)); exact HO_4.out⟩, ⟨by (try simp only [hl4_2]); (with_reducible repeat (first | apply Kd.Q_alloc | apply Kd.Q_drewN | apply Kd.Q_drew)); exact HO_5.out⟩, ⟨by (try simp only [hl4_2]); (with_reducible repeat (first | refine blk_drewN ?_ _ | refine blk_drew ?_ | refine blk_alloc ?_ _)); exact BK101.out⟩, ⟨tB⟩⟩
    rw [if_neg c14] at H
    have c14b0 := tdHi c14
    have c14b1 : decide (0 < x5_1.length) = false := decide_eq_false (by omega)
    clear c14
    obtain rfl := Option.some.inj H
    obtain ⟨Ao49, co49, eo49, _⟩ := Kd.Q_slice HO_5.out
    subst eo49
    go_wp2
    go_ret
    (try refine reb0_ HBS1.out ?_)
    exact ⟨tE, tB⟩
 rw [if_neg c6] at H
 exact absurd H (by simp)
def r16_single.f (l0_0 : List (List Int)) (l0_1 : List (S80)) (a0_2 : Bool) (a1 : Int) : Option (List Bool) := if 0 ≤ (l0_0.length : Int) then (if ((l0_0.length : Int) : Int).toNat ≤ 281474976710656 then ((some (List.replicate ((l0_0.length : Int) : Int).toNat false : List Bool)).bind fun y102 => (if 0 ≤ a1 then (if a1 < (y102.length : Int) then (some (y102.set (a1 : Int).toNat true)) else (none)) else (none))) else (none)) else (none)
def r16_Between.j0 : Nat → Int → Int → Bool → List (List Int) → List (S80) → Bool → Option (List Int × Bool)
 | 0, _, _, _, _, _, _ => none
 | k + 1, x1, x2, x27, x102000, x102001, x102002 => if x27 = true then (some (([] : List Int), false)) else ((r16_Table.f k x102000 x102001 x102002).bind fun t102 => ((r16_single.f x102000 x102001 x102002 x2).bind fun t105 => ((r16_follow.f k t102 x1 t105).bind fun bt108 => (some (bt108.1, bt108.2)))))
def r16_Between.f (k : Nat) (l0_0 : List (List Int)) (l0_1 : List (S80)) (a0_2 : Bool) (a1 : Int) (a2 : Int) : Option (List Int × Bool) := if a1 < 0 then (r16_Between.j0 k a1 a2 true l0_0 l0_1 a0_2) else (if a1 ≥ (l0_0.length : Int) then (r16_Between.j0 k a1 a2 true l0_0 l0_1 a0_2) else (if a2 < 0 then (r16_Between.j0 k a1 a2 true l0_0 l0_1 a0_2) else (r16_Between.j0 k a1 a2 (decide (a2 ≥ (l0_0.length : Int))) l0_0 l0_1 a0_2)))
def r16_Diameter.l0 : Nat → Int → Int → List (List Int) → List (S80) → Bool → Option (Int)
 | 0, _, _, _, _, _ => none
 | k + 1, x3, x4, x102000, x102001, x102002 => if x4 < (x102000.length : Int) then ((r16_Between.f k x102000 x102001 x102002 0 x4).bind fun bt102 => (r16_Diameter.l0 k (mx x3 (bt102.1.length : Int)) (wrap64 (x4 + 1)) x102000 x102001 x102002)) else (some x3)
def r16_Diameter.f (k : Nat) (l0_0 : List (List Int)) (l0_1 : List (S80)) (a0_2 : Bool) : Option (Int) := if (l0_0.length : Int) = 0 then (some (-1)) else (r16_Diameter.l0 k 0 0 l0_0 l0_1 a0_2)
end Go.Proofs.Ytfnjbgggmddgpaa.Q
end
section
set_option linter.unusedVariables false
set_option linter.unusedSimpArgs false
namespace Go.Proofs.Ytfnjbgggmddgpaa.Q
open Go.RowKit Go.Proofs.Fn Go.Proofs.YtfnjbgggmddgpaaW.PrintWords Go.Proofs.Gr
inductive Path (T : List (List S80)) : Nat → List Int → Nat → Prop
  | nil (s : Nat) : Path T s [] s
  | cons (s : Nat) (e : S80) (t : Nat) (l : List Int) (z : Nat) : e ∈ T.getD s [] → e.f2 = (t : Int) → Path T t l z → Path T s (e.f1 :: l) z
theorem follow_in {n : Nat} {T : List (List S80)} (hT : OkT n T) (d : List Int) (hd : d.length = n) (s : Nat) (hs : s < n) (acc : List Int) (ha : acc.length ≤ 2000000) (h1 : 0 < D d s) (h2 : D d s ≤ 2000000) :
    ∀ (m p : Nat), p + m = (T.getD s []).length → (∃ e ∈ (T.getD s []).drop p, D d e.f2.toNat = D d s - 1) →
    ∃ t : Nat, ∃ u : Int, (∃ e ∈ T.getD s [], e.f1 = u ∧ e.f2 = (t : Int)) ∧ t < n ∧ D d t = D d s - 1 ∧ (∀ r, Evn (fun k => witness_follow.l0 k (T.map (List.map pr)) d (t : Int) (acc ++ [u])) r → Evn (fun k => witness_follow.l1 k (T.map (List.map pr)) d (s : Int) acc ((T.getD s []).map pr) ((T.getD s []).length : Int) (p : Int)) r) ∧
      (∀ r, Evn (fun k => r16_follow.l0 k T d (acc ++ [u]) (t : Int)) r → Evn (fun k => r16_follow.l1 k T d acc (s : Int) (p : Int)) r) := by
  have hsm := hT.small
  have hln := hT.len
  have hrow := hT.rows s hs
  intro m
  induction m with
  | zero =>
    intro p hp he
    obtain ⟨e, he, _⟩ := he
    rw [List.drop_of_length_le (by omega)] at he
    cases he
  | succ m ih =>
    intro p hp he
    have hpl : p < (T.getD s []).length := by omega
    have hm : rd_T80 (T.getD s []) (p : Int) ∈ T.getD s [] := by rw [rd80 hpl]; exact List.getElem_mem _
    have htg := hT.tgt s hs _ hm
    obtain ⟨t, ht⟩ : ∃ t : Nat, (rd_T80 (T.getD s []) (p : Int)).f2 = (t : Int) := ⟨_, (Int.toNat_of_nonneg htg.1).symm⟩
    have htn : t < n := by omega
    have ht2 : (rd_T66 ((T.getD s []).map pr) (p : Int)).f1 = (t : Int) := by rw [rd66map]; exact ht
    have hu2 : (rd_T66 ((T.getD s []).map pr) (p : Int)).f0 = (rd_T80 (T.getD s []) (p : Int)).f1 := by rw [rd66map]; rfl
    have hw : wrap64 (D d s - 1) = D d s - 1 := by unfold wrap64; omega
    rw [drop80 hpl] at he
    by_cases c : D d t = D d s - 1
    · refine ⟨t, (rd_T80 (T.getD s []) (p : Int)).f1, ⟨_, hm, rfl, ht⟩, htn, c, fun r hr => Evn.succ ?_, fun r hr => Evn.succ ?_⟩
      · simp only [witness_follow.l1, ht2, hu2, rdD, hd, hw, List.length_map]
        iterate 9 (first | refine Evn.pos (by first | assumption | omega | (simp; done) | (simp; omega)) ?_ | refine Evn.neg (by first | assumption | omega | (simp; done) | (simp; omega)) ?_)
        exact hr
      · simp only [r16_follow.l1, rdL80, ht, rdD, hd, hln, hw]
        iterate 9 (first | refine Evn.pos (by first | assumption | omega | (simp; done) | (simp; omega)) ?_ | refine Evn.neg (by first | assumption | omega | (simp; done) | (simp; omega)) ?_)
        exact hr
    · obtain ⟨t2, u, h0, h3, h4, h5, h6⟩ := ih (p + 1) (by omega) (by
        obtain ⟨e, he, h⟩ := he
        rcases List.mem_cons.1 he with rfl | he
        · rw [ht, Int.toNat_natCast] at h; exact absurd h c
        · exact ⟨e, he, h⟩)
      refine ⟨t2, u, h0, h3, h4, fun r hr => Evn.succ ?_, fun r hr => Evn.succ ?_⟩
      · have := h5 r hr
        simp only [witness_follow.l1, ht2, hu2, rdD, hd, hw, List.length_map, wrap_succ (show p < 9223372036854775807 by omega)]
        iterate 8 (first | refine Evn.pos (by first | assumption | omega | (simp; done) | (simp; omega)) ?_ | refine Evn.neg (by first | assumption | omega | (simp; done) | (simp; omega)) ?_)
        exact this
      · have := h6 r hr
        simp only [r16_follow.l1, rdL80, ht, rdD, hd, hln, hw, wrap_succ (show p < 9223372036854775807 by omega)]
        iterate 8 (first | refine Evn.pos (by first | assumption | omega | (simp; done) | (simp; omega)) ?_ | refine Evn.neg (by first | assumption | omega | (simp; done) | (simp; omega)) ?_)
        exact this
theorem follow_both {n : Nat} {T : List (List S80)} (hT : OkT n T) {g : Nat → Prop} (d : List Int) (hd : d.length = n) (hL : Lab n (E T) g (D d)) :
    ∀ (m s : Nat) (acc : List Int), s < n → D d s = m → acc.length + m ≤ 2000000 →
    ∃ r, (∃ l t, r = acc ++ l ∧ l.length = m ∧ Path T s l t ∧ t < n ∧ g t) ∧ Evn (fun k => witness_follow.l0 k (T.map (List.map pr)) d (s : Int) acc) r ∧ Evn (fun k => r16_follow.l0 k T d acc (s : Int)) (r, true) := by
  have hsm := hT.small
  have hln := hT.len
  intro m
  induction m with
  | zero =>
    intro s acc hs h0 ha
    refine ⟨acc, ⟨[], s, by simp, rfl, .nil s, hs, (hL.zero s hs).1 h0⟩, Evn.succ ?_, Evn.succ ?_⟩
    · simp only [witness_follow.l0, rdD, hd]
      iterate 3 (first | refine Evn.pos (by first | assumption | omega | (simp; done) | (simp; omega)) ?_ | refine Evn.neg (by first | assumption | omega | (simp; done) | (simp; omega)) ?_)
      exact Evn.const _
    · simp only [r16_follow.l0, rdD, hd]
      iterate 3 (first | refine Evn.pos (by first | assumption | omega | (simp; done) | (simp; omega)) ?_ | refine Evn.neg (by first | assumption | omega | (simp; done) | (simp; omega)) ?_)
      exact Evn.const _
  | succ m ih =>
    intro s acc hs h0 ha
    obtain ⟨j, hj, ⟨e, he, ht⟩, hdj⟩ := hL.step s hs (by omega)
    obtain ⟨t, u, ⟨e, he, hu, het⟩, h1, h2, h3, h4⟩ := follow_in hT d hd s hs acc (by omega) (by omega) (by omega) _ 0 (by rw [Nat.zero_add]) ⟨e, by simpa using he, by rw [ht, Int.toNat_natCast]; exact hdj⟩
    obtain ⟨r, ⟨l, z, hl, hlm, hpath, hz, hgz⟩, hr1, hr2⟩ := ih t (acc ++ [u]) h1 (by omega) (by simp; omega)
    refine ⟨r, ⟨u :: l, z, by rw [hl]; simp, by simp [hlm], hu ▸ Path.cons s e t l z he het hpath, hz, hgz⟩, Evn.succ ?_, Evn.succ ?_⟩
    · simp only [witness_follow.l0, rdD, hd, List.length_map, hln, rdmap]
      iterate 4 (first | refine Evn.pos (by first | assumption | omega | (simp; done) | (simp; omega)) ?_ | refine Evn.neg (by first | assumption | omega | (simp; done) | (simp; omega)) ?_)
      exact h3 r hr1
    · simp only [r16_follow.l0, rdD, hd]
      iterate 3 (first | refine Evn.pos (by first | assumption | omega | (simp; done) | (simp; omega)) ?_ | refine Evn.neg (by first | assumption | omega | (simp; done) | (simp; omega)) ?_)
      exact h4 _ hr2
structure Found (n : Nat) (T : List (List S80)) (g : Nat → Bool) (a : Int) (l : List Int) (ok : Bool) : Prop where
  out : ¬ (0 ≤ a ∧ a < (n : Int)) → l = [] ∧ ok = false
  len : ∀ s : Nat, a = (s : Int) → s < n → ∀ d, Lab n (E T) (fun i => g i = true) d → (l.length : Int) = (if d s < 0 then 0 else d s) ∧ (ok = true ↔ 0 ≤ d s)
  no : ok = false → l = []
  way : ok = true → ∃ s t : Nat, a = (s : Int) ∧ s < n ∧ t < n ∧ Path T s l t ∧ g t = true
theorem search_both {n : Nat} {T : List (List S80)} (hT : OkT n T) (φ : Int → Option Bool) (g : Nat → Bool) (hg : ∀ i, i < n → φ (i : Int) = some (g i)) (a : Int) :
    ∃ l ok, Found n T g a l ok ∧ Evn (fun k => witness_search.f k (T.map (List.map pr)) a φ) (l, ok) ∧ Evn (fun k => r16_follow.f k T a ((List.range n).map g)) (l, ok) := by
  have hsm := hT.small
  have hln := hT.len
  by_cases ha : 0 ≤ a ∧ a < (n : Int)
  · obtain ⟨s, rfl⟩ : ∃ s : Nat, a = (s : Int) := ⟨a.toNat, by omega⟩
    have hs : s < n := by omega
    obtain ⟨d, ⟨hd, hL, hle⟩, hev⟩ := distances_ev hT φ g hg
    obtain ⟨d', ⟨hd', hL'⟩, hev'⟩ := rdistances_ev hT g
    obtain rfl : d = d' := by
      apply List.ext_getElem (by omega)
      intro i h1 h2
      have := hL.unique hL' i (by omega)
      simpa [D, h1, h2] using this
    have wit : ∀ r, Evn (fun k => (witness_distances.f k (T.map (List.map pr)) φ).bind fun t101 => (if 0 ≤ (s : Int) then (if (s : Int) < (t101.length : Int) then (if (rd t101 (s : Int)) < 0 then (some (([] : List Int), false)) else ((witness_follow.f k (T.map (List.map pr)) t101 (s : Int)).bind fun t105 => (some (t105, true)))) else (none)) else (none))) r → Evn (fun k => witness_search.f k (T.map (List.map pr)) (s : Int) φ) r := by
      intro r hr
      simp only [witness_search.f, List.length_map, hln]
      (first | refine Evn.pos (by first | assumption | omega | (simp; done) | (simp; omega)) ?_ | refine Evn.neg (by first | assumption | omega | (simp; done) | (simp; omega)) ?_)
      refine Evn.succ ?_
      simp only [witness_search.j0]
      refine Evn.neg (by simp; omega) ?_
      exact hr
    have ref : ∀ r, Evn (fun k => (r16_distances.f k T ((List.range n).map g)).bind fun t101 => (if 0 ≤ (s : Int) then (if (s : Int) < (t101.length : Int) then (if (rd t101 (s : Int)) < 0 then (some (([] : List Int), false)) else (r16_follow.l0 k T t101 ([] : List Int) (s : Int))) else (none)) else (none))) r → Evn (fun k => r16_follow.f k T (s : Int) ((List.range n).map g)) r := by
      intro r hr
      simp only [r16_follow.f, hln]
      (first | refine Evn.pos (by first | assumption | omega | (simp; done) | (simp; omega)) ?_ | refine Evn.neg (by first | assumption | omega | (simp; done) | (simp; omega)) ?_)
      refine Evn.succ ?_
      simp only [r16_follow.j0]
      refine Evn.neg (by simp; omega) ?_
      exact hr
    by_cases c : D d s < 0
    · refine ⟨[], false, ⟨fun _ => ⟨rfl, rfl⟩, fun s' hs' hsn d' hd' => ?_, fun _ => rfl, (fun h => by cases h)⟩, wit _ (Evn.bind hev ?_), ref _ (Evn.bind hev' ?_)⟩
      · obtain rfl : s = s' := by omega
        rw [← hL.unique hd' s hs, if_pos c]
        exact ⟨rfl, by simp; omega⟩
      · simp only [rdD, hd]
        iterate 3 (first | refine Evn.pos (by first | assumption | omega | (simp; done) | (simp; omega)) ?_ | refine Evn.neg (by first | assumption | omega | (simp; done) | (simp; omega)) ?_)
        exact Evn.const _
      · simp only [rdD, hd]
        iterate 3 (first | refine Evn.pos (by first | assumption | omega | (simp; done) | (simp; omega)) ?_ | refine Evn.neg (by first | assumption | omega | (simp; done) | (simp; omega)) ?_)
        exact Evn.const _
    · have hle2 := hle s hs
      obtain ⟨r, ⟨l, t, hl, hlm, hpath, htn, hgt⟩, h1, h2⟩ := follow_both hT d hd hL (D d s).toNat s [] hs (by omega) (by simp; omega)
      obtain rfl : r = l := by simpa using hl
      refine ⟨r, true, ⟨fun h => absurd ha h, fun s' hs' hsn d' hd' => ?_, (fun h => by cases h), fun _ => ⟨s, t, rfl, hs, htn, hpath, hgt⟩⟩, wit _ (Evn.bind hev ?_), ref _ (Evn.bind hev' ?_)⟩
      · obtain rfl : s = s' := by omega
        rw [← hL.unique hd' s hs, if_neg c]
        exact ⟨by omega, by simp; omega⟩
      · simp only [rdD, hd]
        iterate 3 (first | refine Evn.pos (by first | assumption | omega | (simp; done) | (simp; omega)) ?_ | refine Evn.neg (by first | assumption | omega | (simp; done) | (simp; omega)) ?_)
        refine Evn.bind (a := r) ?_ (Evn.const _)
        exact h1
      · simp only [rdD, hd]
        iterate 3 (first | refine Evn.pos (by first | assumption | omega | (simp; done) | (simp; omega)) ?_ | refine Evn.neg (by first | assumption | omega | (simp; done) | (simp; omega)) ?_)
        exact h2
  · refine ⟨[], false, ⟨fun _ => ⟨rfl, rfl⟩, fun s hs hsn => by omega, fun _ => rfl, (fun h => by cases h)⟩, ?_, ?_⟩
    · simp only [witness_search.f, List.length_map, hln]
      by_cases c : a < 0
      · refine Evn.pos c (Evn.succ ?_)
        simp only [witness_search.j0]
        (first | refine Evn.pos (by first | assumption | omega | (simp; done) | (simp; omega)) ?_ | refine Evn.neg (by first | assumption | omega | (simp; done) | (simp; omega)) ?_)
        exact Evn.const _
      · refine Evn.neg c (Evn.succ ?_)
        simp only [witness_search.j0]
        refine Evn.pos (by simp; omega) ?_
        exact Evn.const _
    · simp only [r16_follow.f, hln]
      by_cases c : a < 0
      · refine Evn.pos c (Evn.succ ?_)
        simp only [r16_follow.j0]
        (first | refine Evn.pos (by first | assumption | omega | (simp; done) | (simp; omega)) ?_ | refine Evn.neg (by first | assumption | omega | (simp; done) | (simp; omega)) ?_)
        exact Evn.const _
      · refine Evn.neg c (Evn.succ ?_)
        simp only [r16_follow.j0]
        refine Evn.pos (by simp; omega) ?_
        exact Evn.const _
end Go.Proofs.Ytfnjbgggmddgpaa.Q
end
section
namespace Go.Proofs.Ytfnjbgggmddgpaa.Q
open Go.RowKit Go.Proofs.Fn Go.Proofs.YtfnjbgggmddgpaaW.PrintWords Go.Proofs.YtfnjbgggmddgpaaW.PrintLast Go.Proofs.YtfnjbgggmddgpaaW.PrintMore
attribute [local go_sem] max2_int min2_int max_two min_two max_three min_three max_four min_four
set_option linter.unusedVariables false
set_option linter.unusedSimpArgs false
def l16_few.f (l0_0 : List (List Int)) (l0_1 : List (S80)) (a0_2 : Bool) : Option (Bool) := if (l0_0.length : Int) ≤ 16 then (some (decide ((l0_1.length : Int) ≤ 40))) else (some false)
set_option maxHeartbeats 8000000 in
set_option maxRecDepth 100000 in
theorem l16_few.calls (A0_0 : Option Addr) (c0_0 : Nat) (l0_0 : List (List Int)) (A0_1 : Option Addr) (c0_1 : Nat) (l0_1 : List (S80)) (a0_2 : Bool) (r : Bool) (w : World) (hr0_0 : Kd.C (Kd.slice 3 (Kd.int .i64)) w A0_0 l0_0.length l0_0) (hc0_0 : l0_0.length ≤ c0_0) (hr0_1 : Kd.C k80 w A0_1 l0_1.length l0_1) (hc0_1 : l0_1.length ≤ c0_1) (h : l16_few.f l0_0 l0_1 a0_2 = some r) :
  Calls Try.prog 9 #[.agg #[.slice A0_0 l0_0.length c0_0, .slice A0_1 l0_1.length c0_1, .bool a0_2]] w fun e w' => e = .returned (.bool r) ∧ Below w.heap.size w w' := by
 have hu25 := Try.underlying25
 have HR0_0 := Aside0.mk hr0_0
 have HC0_0 := Aside0.mk hc0_0
 clear hr0_0 hc0_0
 have HR0_1 := Aside0.mk hr0_1
 have HC0_1 := Aside0.mk hc0_1
 clear hr0_1 hc0_1
 have HB := Aside0.mk (Below.refl w.heap.size w)
 have H : (if (l0_0.length : Int) ≤ 16 then (some (decide ((l0_1.length : Int) ≤ 40))) else (some false)) = some r := h
 clear h
 by_cases c2 : (l0_0.length : Int) ≤ 16
 ·rw [if_pos c2] at H
  have c2b0 := decide_eq_true c2
  have c2b1 : decide (l0_0.length ≤ 16) = true := decide_eq_true (by omega)
  clear c2
  obtain rfl := Option.some.inj H
  go_enter Try.func9, Try.ntmps9
  go_wp2_with (first | ((with_reducible refine gate_dst (N := 1) rfl ?_); (try (refine gate_guard (by rfl) ?_; dsimp only)); refine tBx 1 25 #[.slice A0_0 l0_0.length c0_0, .slice A0_1 l0_1.length c0_1, .bool a0_2] ?_; intro gb101 hg w3 hbox hb; have BK101 := Aside0.mk (hbox); have GW101 := tW HB hg; have GE101 := tW HB hg; replace HB := tA HB hb; clear hb hbox hg; obtain ⟨hcz4_0, hcz4_1, hcz4_2, hfz4_0, hfz4_1, hfz4_2⟩ := zc3 BK101))
  go_ret
  exact ⟨tE, tB⟩
 rw [if_neg c2] at H
 have c2b0 := decide_eq_false c2
 have c2b1 : decide (l0_0.length ≤ 16) = false := decide_eq_false (by omega)
 clear c2
 obtain rfl := Option.some.inj H
 go_enter Try.func9, Try.ntmps9
 go_wp2_with (first | ((with_reducible refine gate_dst (N := 1) rfl ?_); (try (refine gate_guard (by rfl) ?_; dsimp only)); refine tBx 1 25 #[.slice A0_0 l0_0.length c0_0, .slice A0_1 l0_1.length c0_1, .bool a0_2] ?_; intro gb101 hg w5 hbox hb; have BK101 := Aside0.mk (hbox); have GW101 := tW HB hg; have GE101 := tW HB hg; replace HB := tA HB hb; clear hb hbox hg; obtain ⟨hcz6_0, hcz6_1, hcz6_2, hfz6_0, hfz6_1, hfz6_2⟩ := zc3 BK101))
 go_ret
 exact ⟨tE, tB⟩
def r04_Same.l0 : Nat → List Int → List Int → Int → Option (Bool)
 | 0, _, _, _ => none
 | k + 1, x0, x1, x5 => if x5 < (x0.length : Int) then (if 0 ≤ x5 then (if x5 < (x1.length : Int) then (if (rd x0 x5) = (rd x1 x5) then (r04_Same.l0 k x0 x1 (wrap64 (x5 + 1))) else (some false)) else (none)) else (none)) else (some true)
def r04_Same.f (k : Nat) (l0 : List Int) (l1 : List Int) : Option (Bool) := if (l0.length : Int) = (l1.length : Int) then (r04_Same.l0 k l0 l1 0) else (some false)
set_option maxHeartbeats 8000000 in
set_option maxRecDepth 100000 in
theorem r04_Same.calls (k : Nat) (A0 : Option Addr) (c0 : Nat) (l0 : List Int) (A1 : Option Addr) (c1 : Nat) (l1 : List Int) (r : Bool) (w : World) (hr0 : Kd.C (Kd.int .i64) w A0 l0.length l0) (hc0 : l0.length ≤ c0) (hr1 : Kd.C (Kd.int .i64) w A1 l1.length l1) (hc1 : l1.length ≤ c1) (h : r04_Same.f k l0 l1 = some r) :
  Calls Try.prog 13 #[.slice A0 l0.length c0, .slice A1 l1.length c1] w fun e w' => e = .returned (.bool r) ∧ Drawn0 w w' := by
 have HR0 := Aside0.mk hr0
 have HC0 := Aside0.mk hc0
 clear hr0 hc0
 have HR1 := Aside0.mk hr1
 have HC1 := Aside0.mk hc1
 clear hr1 hc1
 have H : (if (l0.length : Int) = (l1.length : Int) then (r04_Same.l0 k l0 l1 0) else (some false)) = some r := h
 clear h
 by_cases c3 : (l0.length : Int) = (l1.length : Int)
 ·rw [if_pos c3] at H
  have c3b0 := beq_iff_eq.mpr c3
  have c3b1 := bne_eq_false_iff_eq.mpr c3
  have c3b2 : (l0.length == l1.length) = true := by first | simpa using c3 | (simp at c3 ⊢; omega)
  clear c3
  have H' := Aside0.mk H
  clear H
  go_enter Try.func13, Try.ntmps13
  go_wp2
  repeat (go_quiet (fail); try go_wp2)
  go_loopg [5] k (fun kq v5 w' => ∃ (x5_1 : Int), v5 = .int .i64 x5_1 ∧ Aside0 (r04_Same.l0 kq l0 l1 x5_1 = some r) ∧ Aside0 (kq ≤ k) ∧ Drawn0 w w')
  case atStart => exact ⟨(0), tU, H', ⟨Nat.le_refl _⟩, by repeat (first | exact Drawn0.refl _ | apply Drawn0.step)⟩
  case round =>
   clear H'
   (try clear c1); (try clear p2); (try clear c3); (try clear c3b0); (try clear c3b1); (try clear c3b2)
   obtain ⟨x5_1, rfl, HA, HK1, ⟨m1, rfl⟩⟩ := hrel
   cases gk with
   | zero => exact absurd HA.out (by simp [r04_Same.l0])
   | succ k1 =>
    have H := HA.out
    clear HA
    simp only [r04_Same.l0] at H
    by_cases c4 : x5_1 < (l0.length : Int)
    ·rw [if_pos c4] at H
     have c4b0 := decide_eq_true c4
     clear c4
     replace H := tF H
     obtain ⟨c5, H⟩ := H
     have c5b0 := decide_eq_true c5
     clear c5
     replace H := tF H
     obtain ⟨c6, H⟩ := H
     have c6b0 := decide_eq_true c6
     clear c6
     by_cases c7 : (rd l0 x5_1) = (rd l1 x5_1)
     ·rw [if_pos c7] at H
      have c7b0 := beq_iff_eq.mpr c7
      have c7b1 := bne_eq_false_iff_eq.mpr c7
      clear c7
      have H' := Aside0.mk H
      clear H
      have p101 : 0 ≤ (x5_1 : Int) := tD
      have q101 : x5_1 < (l0.length : Int) := tD
      obtain ⟨ad101, e101, hx101_0⟩ := Kd.at_int HR0.out x5_1 p101 q101
      cases e101
      replace p101 := eq_true p101
      replace q101 := eq_true q101
      have p102 : 0 ≤ (x5_1 : Int) := tD
      have q102 : x5_1 < (l1.length : Int) := tD
      obtain ⟨ad102, e102, hx102_0⟩ := Kd.at_int HR1.out x5_1 p102 q102
      cases e102
      replace p102 := eq_true p102
      replace q102 := eq_true q102
      go_wp2
      repeat (go_quiet (fail); try go_wp2)
      go_roundg k1
      case measure => have := HK1.out; omega
      case rel => exact ⟨(wrap64 (x5_1 + 1)), tU, H', ⟨by have := HK1.out; omega⟩, by repeat (first | exact Drawn0.refl _ | apply Drawn0.step)⟩
     rw [if_neg c7] at H
     have c7b0 := beq_eq_false_iff_ne.mpr c7
     have c7b1 := bne_iff_ne.mpr c7
     obtain rfl := Option.some.inj H
     have p101 : 0 ≤ (x5_1 : Int) := tD
     have q101 : x5_1 < (l0.length : Int) := tD
     obtain ⟨ad101, e101, hx101_0⟩ := Kd.at_int HR0.out x5_1 p101 q101
     cases e101
     replace p101 := eq_true p101
     replace q101 := eq_true q101
     have p102 : 0 ≤ (x5_1 : Int) := tD
     have q102 : x5_1 < (l1.length : Int) := tD
     obtain ⟨ad102, e102, hx102_0⟩ := Kd.at_int HR1.out x5_1 p102 q102
     cases e102
     replace p102 := eq_true p102
     replace q102 := eq_true q102
     go_wp2
     repeat (go_quiet (fail); try go_wp2)
     go_ret
     exact ⟨by first | rfl | (simp; done) | (simp [*]; done), by repeat (first | exact Drawn0.refl _ | apply Drawn0.step)⟩
    rw [if_neg c4] at H
    have c4b0 := decide_eq_false c4
    clear c4
    obtain rfl := Option.some.inj H
    go_wp2
    repeat (go_quiet (fail); try go_wp2)
    go_ret
    exact ⟨by first | rfl | (simp; done) | (simp [*]; done), by repeat (first | exact Drawn0.refl _ | apply Drawn0.step)⟩
 rw [if_neg c3] at H
 have c3b0 := beq_eq_false_iff_ne.mpr c3
 have c3b1 := bne_iff_ne.mpr c3
 have c3b2 : (l0.length == l1.length) = false := by first | simpa using c3 | (simp at c3 ⊢; omega)
 obtain rfl := Option.some.inj H
 go_enter Try.func13, Try.ntmps13
 go_wp2
 repeat (go_quiet (fail); try go_wp2)
 go_ret
 exact ⟨by first | rfl | (simp; done) | (simp [*]; done), by repeat (first | exact Drawn0.refl _ | apply Drawn0.step)⟩
def l16_step.f  : Option ((List (List Int)) × (List (S80)) × Bool) := some ((([(([1] : List Int)), (([0] : List Int))] : List (List Int))), (([(⟨0, 0, 1⟩ : S80)] : List (S80))), true)
set_option maxHeartbeats 8000000 in
set_option maxRecDepth 100000 in
theorem l16_step.calls  (r1 : List (List Int)) (r2 : List (S80)) (r3 : Bool) (w : World) (h : l16_step.f  = some (r1, r2, r3)) :
  Calls Try.prog 33 #[] w fun e w' => ∃ v0_ v1_ : Value, e = .returned (.agg #[v0_, v1_, .bool r3]) ∧ Kd.N (Kd.slice 3 (Kd.int .i64)) 28 w' w.heap.size (fun k_ => (w.heap.size ≤ k_) ∧ some k_ ≠ (v1_ : Value).ownBlock) v0_ r1 ∧ Kd.R k80 80 w' w.heap.size (fun k_ => (w.heap.size ≤ k_)) v1_ r2 ∧ Below w.heap.size w w' := by
 have hu25 := Try.underlying25
 have hu80 := Try.underlying80
 have HB := Aside0.mk (Below.refl w.heap.size w)
 have H : (some ((([(([1] : List Int)), (([0] : List Int))] : List (List Int))), (([(⟨0, 0, 1⟩ : S80)] : List (S80))), true)) = some (r1, r2, r3) := h
 clear h
 obtain ⟨y102, hy102⟩ : ∃ y_ : List Int, y_ = (([1] : List Int)) := ⟨_, rfl⟩
 replace H : (some ((([y102, (([0] : List Int))] : List (List Int))), (([(⟨0, 0, 1⟩ : S80)] : List (S80))), true)) = some (r1, r2, r3) := tQ hy102 H
 have Ny102 := Aside0.mk hy102
 clear hy102
 obtain ⟨y105, hy105⟩ : ∃ y_ : List Int, y_ = (([0] : List Int)) := ⟨_, rfl⟩
 replace H : (some ((([y102, y105] : List (List Int))), (([(⟨0, 0, 1⟩ : S80)] : List (S80))), true)) = some (r1, r2, r3) := tQ hy105 H
 have Ny105 := Aside0.mk hy105
 clear hy105
 obtain ⟨y108, hy108⟩ : ∃ y_ : List (List Int), y_ = (([y102, y105] : List (List Int))) := ⟨_, rfl⟩
 replace H : (some (y108, (([(⟨0, 0, 1⟩ : S80)] : List (S80))), true)) = some (r1, r2, r3) := tQ hy108 H
 have Ny108 := Aside0.mk hy108
 clear hy108
 obtain ⟨y111, hy111⟩ : ∃ y_ : List (S80), y_ = (([(⟨0, 0, 1⟩ : S80)] : List (S80))) := ⟨_, rfl⟩
 replace H : (some (y108, y111, true)) = some (r1, r2, r3) := tQ hy111 H
 have Ny111 := Aside0.mk hy111
 clear hy111
 simp only [Option.some.injEq, Prod.mk.injEq] at H
 obtain ⟨rfl, rfl, rfl⟩ := H
 go_enter Try.func33, Try.ntmps33
 go_wp2_with (first | ((with_reducible refine gate_dst (N := 0) rfl ?_); refine tBx 0 25 #[.slice none 0 0, .slice none 0 0, .bool false] ?_; intro gb101 hg w1 hbox hb; have BK101 := Aside0.mk (hbox); have GW101 := tW HB hg; have GE101 := tW HB hg; replace HB := tA HB hb; clear hb hbox hg) | ((with_reducible refine gate_dst (N := 1) rfl ?_); refine Kd.R_lit (Kd.int .i64) _ 3 ?hg (N := 1) ?hd (xs := ([1] : List Int)) (inner := [.int .i64 1]) (ok := fun _ => True) (okp := fun _ => True) ?hr ?hp (fun _ hk => hk) trivial (Below.refl _ _) (Nat.le_refl _) (by simp) ?_; (case hd => rfl); (case hg => rfl); (case hr => first | (go_simp; done) | (go_simp; rfl)); (case hp => exact (Reps.one (show Kd.M (Kd.int .i64) _ _ _ 1 [.int .i64 1] from rfl) (Reps.none _ _))); intro v103 w2 ho3 hb hg_ hnew_; clear hg_ hnew_; (first | rw [← Ny102.out] at ho3 | (simp only [Int.reduceToNat] at ho3; rw [← Ny102.out] at ho3)); have HO104 := Aside0.mk (Kd.R_lower (Kd.R_newM (M := fun k_ => (w.heap.size ≤ k_)) ho3 (below_size (tB)) (fun k_ h_ => h_)) (below_size (tB))); replace BK101 := tL BK101 hb; replace HB := tA HB hb; clear hb ho3) | ((with_reducible refine gate_dst (N := 2) rfl ?_); refine Kd.R_lit (Kd.int .i64) _ 3 ?hg (N := 2) ?hd (xs := ([0] : List Int)) (inner := [.int .i64 0]) (ok := fun _ => True) (okp := fun _ => True) ?hr ?hp (fun _ hk => hk) trivial (Below.refl _ _) (Nat.le_refl _) (by simp) ?_; (case hd => rfl); (case hg => rfl); (case hr => first | (go_simp; done) | (go_simp; rfl)); (case hp => exact (Reps.one (show Kd.M (Kd.int .i64) _ _ _ 0 [.int .i64 0] from rfl) (Reps.none _ _))); intro v106 w4 ho5 hb hg_ hnew_; clear hg_ hnew_; (first | rw [← Ny105.out] at ho5 | (simp only [Int.reduceToNat] at ho5; rw [← Ny105.out] at ho5)); have HO107 := Aside0.mk (Kd.R_lower (Kd.R_new' (Kd.R_newM (M := fun k_ => (w.heap.size ≤ k_)) ho5 (below_size (tB)) (fun k_ h_ => h_)) (Kd.R_lt (tR HO104))) (below_size (tB))); replace HO104 := Aside0.mk (Kd.R_elder' (tR HO104) (Kd.R_base ho5) hb); replace BK101 := tL BK101 hb; replace HB := tA HB hb; clear hb ho5; obtain ⟨Ao6, co6, eo6⟩ := Kd.R_slice HO104.out; subst eo6; obtain ⟨Ao7, co7, eo7⟩ := Kd.R_slice HO107.out; subst eo7) | ((with_reducible refine gate_dst (N := 3) rfl ?_); refine Kd.N_lit (Kd.slice 3 (Kd.int .i64)) _ 28 ?hg (N' := 3) ?hd (xs := ([y102, y105] : List (List Int))) (inner := [.slice Ao6 y102.length co6, .slice Ao7 y105.length co7]) (ok := (fun k_ => (w.heap.size ≤ k_) ∧ k_ ≠ gb101)) (okp := (fun k_ => (w.heap.size ≤ k_) ∧ k_ ≠ gb101)) ?hr ?hp (fun _ hk => hk) ((show ∀ k_, w4.heap.size ≤ k_ → (fun k_ => (w.heap.size ≤ k_) ∧ k_ ≠ gb101) k_ from fun k_ hk => ⟨(Nat.le_trans (below_size (tB)) hk), Kd.freshB (g := gb101) (o := .cells #[.slice none 0 0, .slice none 0 0, .bool false] 25 (0, 0)) (tK BK101) k_ hk⟩) _ (Nat.le_refl _)) (Below.refl _ _) (Nat.le_refl _) (by simp) ?_; (case hd => rfl); (case hg => rfl); (case hr => first | (go_simp; done) | (go_simp; rfl)); (case hp => exact (Reps.one (show Kd.FK (Kd.slice 3 (Kd.int .i64)) _ _ y102 [.slice Ao6 y102.length co6] from (Kd.FK_slice_mk (Kd.R_reads' (Kd.R_mono (ok' := (fun k_ => (w.heap.size ≤ k_) ∧ k_ ≠ gb101)) (Kd.R_types (HO104.out) BK101.out (by decide)) (fun k_ hk => ⟨hk.1.1.1, hk.2⟩))).2.1 (Kd.R_F (Kd.R_mono (ok' := (fun k_ => (w.heap.size ≤ k_) ∧ k_ ≠ gb101)) (Kd.R_types (HO104.out) BK101.out (by decide)) (fun k_ hk => ⟨hk.1.1.1, hk.2⟩))))) (Reps.one (show Kd.FK (Kd.slice 3 (Kd.int .i64)) _ _ y105 [.slice Ao7 y105.length co7] from (Kd.FK_slice_mk (Kd.R_reads' (Kd.R_mono (ok' := (fun k_ => (w.heap.size ≤ k_) ∧ k_ ≠ gb101)) (Kd.R_types (HO107.out) BK101.out (by decide)) (fun k_ hk => ⟨hk.1.1.1, hk.2⟩))).2.1 (Kd.R_F (Kd.R_mono (ok' := (fun k_ => (w.heap.size ≤ k_) ∧ k_ ≠ gb101)) (Kd.R_types (HO107.out) BK101.out (by decide)) (fun k_ hk => ⟨hk.1.1.1, hk.2⟩))))) (Reps.none _ _)))); intro v109 w8 ho9 hb hg_ hnew_; clear hg_ hnew_; (first | rw [← Ny108.out] at ho9 | (simp only [Int.reduceToNat] at ho9; rw [← Ny108.out] at ho9)); have HO110 := Aside0.mk (Kd.N_lower ho9 (below_size (tB))); replace BK101 := tL BK101 hb; replace HB := tA HB hb; clear HO104 HO107; clear hb ho9) | ((with_reducible refine gate_dst (N := 5) rfl ?_); refine Kd.R_lit k80 _ 80 ?hg (N := 5) ?hd (xs := ([(⟨0, 0, 1⟩ : S80)] : List (S80))) (inner := [.int .i64 0, .int .i64 0, .int .i64 1]) (ok := fun _ => True) (okp := fun _ => True) ?hr ?hp (fun _ hk => hk) trivial (Below.refl _ _) (Nat.le_refl _) (by simp) ?_; (case hd => rfl); (case hg => rfl); (case hr => first | (go_simp; done) | (go_simp; rfl)); (case hp => exact (Reps.c3 (show Kd.M k80 _ _ _ (⟨0, 0, 1⟩ : S80) [.int .i64 0, .int .i64 0, .int .i64 1] from (k80_mkM _ _ _ (⟨0, 0, 1⟩ : S80) )) (Reps.none _ _))); intro v112 w10 ho11 hb hg_ hnew_; clear hg_ hnew_; (first | rw [← Ny111.out] at ho11 | (simp only [Int.reduceToNat] at ho11; rw [← Ny111.out] at ho11)); replace HO110 := Aside0.mk (Kd.N_elder' (tR HO110) (Kd.R_base ho11) hb); have HO113 := Aside0.mk (Kd.R_lower (Kd.R_newM (M := fun k_ => (w.heap.size ≤ k_)) ho11 (below_size (tB)) (fun k_ h_ => h_)) (below_size (tB))); replace BK101 := tL BK101 hb; replace HB := tA HB hb; clear hb ho11; obtain ⟨Ao12, co12, eo12⟩ := Kd.R_slice HO113.out; subst eo12; obtain ⟨Ao13, co13, eo13⟩ := Kd.N_slice HO110.out; subst eo13; obtain ⟨hcz14_0, hcz14_1, hcz14_2, hfz14_0, hfz14_1, hfz14_2⟩ := zc3 BK101))
 refine bodyPost_ret (results_cell_row rfl _ _ gb101 25 #[.slice Ao13 y108.length co13, .slice Ao12 y111.length co12, .bool true] (0, 0) _ rfl (by (with_reducible repeat (first | refine blk_drewN ?_ _ | refine blk_drew ?_ | refine blk_alloc ?_ _)); refine blk_put (cs := #[.slice Ao13 y108.length co13, .slice Ao12 y111.length co12, .bool false]) ?_ 2 _ rfl; (with_reducible repeat (first | refine blk_drewN ?_ _ | refine blk_drew ?_ | refine blk_alloc ?_ _)); refine blk_put (cs := #[.slice Ao13 y108.length co13, .slice none 0 0, .bool false]) ?_ 1 _ rfl; (with_reducible repeat (first | refine blk_drewN ?_ _ | refine blk_drew ?_ | refine blk_alloc ?_ _)); refine blk_put (cs := #[.slice none 0 0, .slice none 0 0, .bool false]) ?_ 0 _ rfl; (with_reducible repeat (first | refine blk_drewN ?_ _ | refine blk_drew ?_ | refine blk_alloc ?_ _)); exact BK101.out) Try.underlying25 rfl (by kernel_rfl)) rfl ?_
 exact ⟨_, _, tE, by (with_reducible repeat (first | apply Kd.N_alloc | apply Kd.N_drewN | apply Kd.N_drew)); exact Kd.N_mono (Kd.N_far (p := ⟨gb101, 2, none⟩) (Kd.N_far (p := ⟨gb101, 1, none⟩) (Kd.N_far (p := ⟨gb101, 0, none⟩) (Kd.N_mono HO110.out (fun k_ hk => (⟨hk, hk.1.2⟩ : _ ∧ k_ ≠ gb101))) (fun _ hk => hk.2) (.slice Ao13 y108.length co13)) (fun _ hk => hk.2) (.slice Ao12 y111.length co12)) (fun _ hk => hk.2) (.bool true)) (fun _ hk => ⟨hk.1.1.1, hk.1.2⟩), by (with_reducible repeat (first | apply Kd.R_alloc | apply Kd.R_drewN | apply Kd.R_drew)); exact Kd.R_mono (Kd.R_far (p := ⟨gb101, 2, none⟩) (Kd.R_far (p := ⟨gb101, 1, none⟩) (Kd.R_far (p := ⟨gb101, 0, none⟩) (Kd.R_types HO113.out BK101.out (by decide)) (fun _ hk => hk.2) (.slice Ao13 y108.length co13)) (fun _ hk => hk.2) (.slice Ao12 y111.length co12)) (fun _ hk => hk.2) (.bool true)) (fun _ hk => hk.1.1), tB⟩
def l16_alive.f (k : Nat)  : Option (Bool) := (l16_step.f).bind fun bt101 => ((witness_Dead.f k bt101.1 bt101.2.1 bt101.2.2).bind fun bt108 => (if bt108.2 = true then ((r04_Same.f k bt108.1 (([0] : List Int))).bind fun t115 => (if t115 = true then ((l16_step.f).bind fun bt116 => ((witness_Diameter.f k bt116.1 bt116.2.1 bt116.2.2).bind fun t123 => (if t123 = 1 then ((witness_Diameter.f k ([] : List (List Int)) ([] : List (S80)) false).bind fun t124 => (some (t124 == (-1)))) else (some false)))) else (some false))) else (some false)))
set_option maxHeartbeats 8000000 in
set_option maxRecDepth 100000 in
theorem l16_alive.calls (k : Nat)  (r : Bool) (w : World) (h : l16_alive.f k  = some r) :
  Calls Try.prog 10 #[] w fun e w' => e = .returned (.bool r) ∧ Below w.heap.size w w' := by
 have hu25 := Try.underlying25
 have HB := Aside0.mk (Below.refl w.heap.size w)
 have H : ((l16_step.f).bind fun bt101 => ((witness_Dead.f k bt101.1 bt101.2.1 bt101.2.2).bind fun bt108 => (if bt108.2 = true then ((r04_Same.f k bt108.1 (([0] : List Int))).bind fun t115 => (if t115 = true then ((l16_step.f).bind fun bt116 => ((witness_Diameter.f k bt116.1 bt116.2.1 bt116.2.2).bind fun t123 => (if t123 = 1 then ((witness_Diameter.f k ([] : List (List Int)) ([] : List (S80)) false).bind fun t124 => (some (t124 == (-1)))) else (some false)))) else (some false))) else (some false)))) = some r := h
 clear h
 replace H := Option.bind_eq_some_iff.mp H
 obtain ⟨⟨t101, t104, t107⟩, A10, H⟩ := H
 (try dsimp only at H)
 have A1 := Aside0.mk A10
 clear A10
 replace H := Option.bind_eq_some_iff.mp H
 obtain ⟨⟨t108, t111⟩, A20, H⟩ := H
 (try dsimp only at H)
 have A2 := Aside0.mk A20
 clear A20
 by_cases c3 : t111 = true
 ·subst c3
  rw [if_pos rfl] at H
  obtain ⟨y112, hy112⟩ : ∃ y_ : List Int, y_ = (([0] : List Int)) := ⟨_, rfl⟩
  replace H : ((r04_Same.f k t108 y112).bind fun t115 => (if t115 = true then ((l16_step.f).bind fun bt116 => ((witness_Diameter.f k bt116.1 bt116.2.1 bt116.2.2).bind fun t123 => (if t123 = 1 then ((witness_Diameter.f k ([] : List (List Int)) ([] : List (S80)) false).bind fun t124 => (some (t124 == (-1)))) else (some false)))) else (some false))) = some r := tQ hy112 H
  have Ny112 := Aside0.mk hy112
  clear hy112
  replace H := Option.bind_eq_some_iff.mp H
  obtain ⟨t115, A40, H⟩ := H
  (try dsimp only at H)
  have A4 := Aside0.mk A40
  clear A40
  by_cases c5 : t115 = true
  ·subst c5
   rw [if_pos rfl] at H
   replace H := Option.bind_eq_some_iff.mp H
   obtain ⟨⟨t116, t119, t122⟩, A60, H⟩ := H
   (try dsimp only at H)
   have A6 := Aside0.mk A60
   clear A60
   replace H := Option.bind_eq_some_iff.mp H
   obtain ⟨t123, A70, H⟩ := H
   (try dsimp only at H)
   have A7 := Aside0.mk A70
   clear A70
   by_cases c8 : t123 = 1
   ·rw [if_pos c8] at H
    have c8b0 := beq_iff_eq.mpr c8
    have c8b1 := bne_eq_false_iff_eq.mpr c8
    clear c8
    replace H := Option.bind_eq_some_iff.mp H
    obtain ⟨t124, A90, H⟩ := H
    (try dsimp only at H)
    have A9 := Aside0.mk A90
    clear A90
    obtain rfl := Option.some.inj H
    go_enter Try.func10, Try.ntmps10
    go_wp2_with (first | ((with_reducible refine gate_callee (f := 33) rfl ?_); refine goesL_ (some 4) rfl rfl Try.func33 (by kernel_rfl) rfl #[] rfl (by (try simp only [List.map_toArray, List.map_cons, List.map_nil]); first | done | rfl | (simp only [List.length_drop, List.length_take]; rfl)) ?_; (with_reducible refine (l16_step.calls  t101 t104 t107 _ A1.out).mono ?_); rintro e w10 ⟨v102, v105, rfl, ho0, ho1, hb⟩; refine ⟨_, rfl, ?_⟩; have HO103 := Aside0.mk (Kd.N_lower (Kd.N_mono (ok' := fun k_ => some k_ ≠ (v105 : Value).ownBlock) ho0 (fun k_ hk_ => hk_.2)) (below_size (tB))); have HO106 := Aside0.mk (Kd.R_lower (Kd.R_mono (ok' := fun k_ => True) ho1 (fun _ hk_ => trivial)) (below_size (tB))); replace HB := tA HB hb; (try clear hb); (try clear hb2); (try clear hk); (try clear hi); (try clear ho0); (try clear ho1); obtain ⟨Ao11, co11, eo11⟩ := Kd.N_slice HO103.out; subst eo11; obtain ⟨Ao12, co12, eo12⟩ := Kd.R_slice HO106.out; subst eo12) | ((with_reducible refine gate_callee (f := 11) rfl ?_); refine goesL_ (some 5) rfl rfl Try.func11 (by kernel_rfl) rfl #[.agg #[.slice Ao11 t101.length co11, .slice Ao12 t104.length co12, .bool t107]] rfl (by (try simp only [List.map_toArray, List.map_cons, List.map_nil]); first | done | rfl | (simp only [List.length_drop, List.length_take]; rfl)) ?_; (with_reducible refine (witness_Dead.calls k _ _ t101 _ _ t104 t107 t108 true _ (tC (Kd.N_reads' HO103.out).2.2) ((Kd.N_reads' HO103.out).2.1) (tC (Kd.R_reads' HO106.out).2.2) ((Kd.R_reads' HO106.out).2.1) A2.out).mono ?_); rintro e w13 ⟨v109, rfl, ho0, hb⟩; refine ⟨_, rfl, ?_⟩; replace HO103 := Aside0.mk (Kd.N_elder' (tR HO103) (Kd.R_base ho0) hb); replace HO106 := Aside0.mk (Kd.R_below (tR HO106) hb); have HO110 := Aside0.mk (Kd.R_lower ho0 (below_size (tB))); replace HB := tA HB hb; (try clear hb); (try clear hb2); (try clear hk); (try clear hi); (try clear ho0)) | ((with_reducible refine gate_dst (N := 11) rfl ?_); (try (refine gate_guard (by rfl) ?_; dsimp only)); refine Kd.R_lit (Kd.int .i64) _ 3 ?hg (N := 11) ?hd (xs := ([0] : List Int)) (inner := [.int .i64 0]) (ok := fun _ => True) (okp := fun _ => True) ?hr ?hp (fun _ hk => hk) trivial (Below.refl _ _) (Nat.le_refl _) (by simp) ?_; (case hd => rfl); (case hg => rfl); (case hr => first | (go_simp; done) | (go_simp; rfl)); (case hp => exact (Reps.one (show Kd.M (Kd.int .i64) _ _ _ 0 [.int .i64 0] from rfl) (Reps.none _ _))); intro v113 w14 ho15 hb hg_ hnew_; clear hg_ hnew_; (first | rw [← Ny112.out] at ho15 | (simp only [Int.reduceToNat] at ho15; rw [← Ny112.out] at ho15)); replace HO103 := Aside0.mk (Kd.N_elder' (tR HO103) (Kd.R_base ho15) hb); replace HO106 := Aside0.mk (Kd.R_below (tR HO106) hb); have HO114 := Aside0.mk (Kd.R_lower (Kd.R_new' ho15 (Kd.R_lt (tR HO110))) (below_size (tB))); replace HO110 := Aside0.mk (Kd.R_elder' (tR HO110) (Kd.R_base ho15) hb); replace HB := tA HB hb; clear hb ho15; obtain ⟨Ao16, co16, eo16⟩ := Kd.R_slice HO110.out; subst eo16; obtain ⟨Ao17, co17, eo17⟩ := Kd.R_slice HO114.out; subst eo17) | (go_at_call 13; (with_reducible refine (r04_Same.calls k _ _ t108 _ _ y112 true _ (tC (Kd.R_reads' HO110.out).2.2) ((Kd.R_reads' HO110.out).2.1) (tC (Kd.R_reads' HO114.out).2.2) ((Kd.R_reads' HO114.out).2.1) A4.out).mono ?_); rintro e w' ⟨rfl, ⟨nd, rfl⟩⟩) | (go_at_call 33; (with_reducible refine (l16_step.calls  t116 t119 t122 _ A6.out).mono ?_); rintro e w18 ⟨v117, v120, rfl, ho0, ho1, hb⟩; have HO118 := Aside0.mk (Kd.N_lower (Kd.N_mono (ok' := fun k_ => some k_ ≠ (v120 : Value).ownBlock ∧ some k_ ≠ (.slice Ao11 t101.length co11 : Value).ownBlock ∧ some k_ ≠ (.slice Ao12 t104.length co12 : Value).ownBlock ∧ some k_ ≠ (.slice Ao16 t108.length co16 : Value).ownBlock ∧ some k_ ≠ (.slice Ao17 y112.length co17 : Value).ownBlock) ho0 (fun k_ hk_ => ⟨hk_.2, (Kd.fresh' (Kd.N_lt (tR HO103)) k_ hk_.1), (Kd.fresh' (Kd.R_lt (tR HO106)) k_ hk_.1), (Kd.fresh' (Kd.R_lt (tR HO110)) k_ hk_.1), (Kd.fresh' (Kd.R_lt (tR HO114)) k_ hk_.1)⟩)) (below_size (tB))); replace HO103 := Aside0.mk (Kd.N_mono (Kd.N_told (Kd.N_told (Kd.N_old (tR HO103) hb) (Kd.N_base ho0)) (Kd.R_base ho1)) (fun _ h_ => h_.1)); replace HO110 := Aside0.mk (Kd.R_below (tR HO110) hb); replace HO114 := Aside0.mk (Kd.R_below (tR HO114) hb); have HO121 := Aside0.mk (Kd.R_lower (Kd.R_new' (Kd.R_mono (ok' := fun k_ => True) ho1 (fun _ hk_ => trivial)) (Kd.R_lt (tR HO106))) (below_size (tB))); replace HO106 := Aside0.mk (Kd.R_elder' (tR HO106) (Kd.R_base ho1) hb); replace HB := tA HB hb; (try clear hb); (try clear hb2); (try clear hk); (try clear hi); (try clear ho0); (try clear ho1); obtain ⟨Ao19, co19, eo19⟩ := Kd.N_slice HO118.out; subst eo19; obtain ⟨Ao20, co20, eo20⟩ := Kd.R_slice HO121.out; subst eo20) | (go_at_call 14; (with_reducible refine (witness_Diameter.calls k _ _ t116 _ _ t119 t122 t123 _ (tC (Kd.N_reads' HO118.out).2.2) ((Kd.N_reads' HO118.out).2.1) (tC (Kd.R_reads' HO121.out).2.2) ((Kd.R_reads' HO121.out).2.1) A7.out).mono ?_); rintro e w21 ⟨rfl, hb⟩; replace HO103 := Aside0.mk (Kd.N_below (tR HO103) hb); replace HO106 := Aside0.mk (Kd.R_below (tR HO106) hb); replace HO110 := Aside0.mk (Kd.R_below (tR HO110) hb); replace HO114 := Aside0.mk (Kd.R_below (tR HO114) hb); replace HO118 := Aside0.mk (Kd.N_below (tR HO118) hb); replace HO121 := Aside0.mk (Kd.R_below (tR HO121) hb); replace HB := tA HB hb; (try clear hb); (try clear hb2); (try clear hk); (try clear hi)) | (go_at_call 14; (refine (witness_Diameter.calls k _ _ ([] : List (List Int)) _ _ ([] : List (S80)) false t124 _ ?side1 ?side2 ?side3 ?side4 A9.out).mono ?_); (case side1 => exact Kd.C_nil _ _); (case side2 => exact Nat.le_refl _); (case side3 => exact Kd.C_nil _ _); (case side4 => exact Nat.le_refl _); rintro e w22 ⟨rfl, hb⟩; replace HO103 := Aside0.mk (Kd.N_below (tR HO103) hb); replace HO106 := Aside0.mk (Kd.R_below (tR HO106) hb); replace HO110 := Aside0.mk (Kd.R_below (tR HO110) hb); replace HO114 := Aside0.mk (Kd.R_below (tR HO114) hb); replace HO118 := Aside0.mk (Kd.N_below (tR HO118) hb); replace HO121 := Aside0.mk (Kd.R_below (tR HO121) hb); replace HB := tA HB hb; (try clear hb); (try clear hb2); (try clear hk); (try clear hi)))
    go_ret
    exact ⟨tE, tB⟩
   rw [if_neg c8] at H
   have c8b0 := beq_eq_false_iff_ne.mpr c8
   have c8b1 := bne_iff_ne.mpr c8
   obtain rfl := Option.some.inj H
   go_enter Try.func10, Try.ntmps10
   go_wp2_with (first | ((with_reducible refine gate_callee (f := 33) rfl ?_); refine goesL_ (some 4) rfl rfl Try.func33 (by kernel_rfl) rfl #[] rfl (by (try simp only [List.map_toArray, List.map_cons, List.map_nil]); first | done | rfl | (simp only [List.length_drop, List.length_take]; rfl)) ?_; (with_reducible refine (l16_step.calls  t101 t104 t107 _ A1.out).mono ?_); rintro e w23 ⟨v102, v105, rfl, ho0, ho1, hb⟩; refine ⟨_, rfl, ?_⟩; have HO103 := Aside0.mk (Kd.N_lower (Kd.N_mono (ok' := fun k_ => some k_ ≠ (v105 : Value).ownBlock) ho0 (fun k_ hk_ => hk_.2)) (below_size (tB))); have HO106 := Aside0.mk (Kd.R_lower (Kd.R_mono (ok' := fun k_ => True) ho1 (fun _ hk_ => trivial)) (below_size (tB))); replace HB := tA HB hb; (try clear hb); (try clear hb2); (try clear hk); (try clear hi); (try clear ho0); (try clear ho1); obtain ⟨Ao24, co24, eo24⟩ := Kd.N_slice HO103.out; subst eo24; obtain ⟨Ao25, co25, eo25⟩ := Kd.R_slice HO106.out; subst eo25) | ((with_reducible refine gate_callee (f := 11) rfl ?_); refine goesL_ (some 5) rfl rfl Try.func11 (by kernel_rfl) rfl #[.agg #[.slice Ao24 t101.length co24, .slice Ao25 t104.length co25, .bool t107]] rfl (by (try simp only [List.map_toArray, List.map_cons, List.map_nil]); first | done | rfl | (simp only [List.length_drop, List.length_take]; rfl)) ?_; (with_reducible refine (witness_Dead.calls k _ _ t101 _ _ t104 t107 t108 true _ (tC (Kd.N_reads' HO103.out).2.2) ((Kd.N_reads' HO103.out).2.1) (tC (Kd.R_reads' HO106.out).2.2) ((Kd.R_reads' HO106.out).2.1) A2.out).mono ?_); rintro e w26 ⟨v109, rfl, ho0, hb⟩; refine ⟨_, rfl, ?_⟩; replace HO103 := Aside0.mk (Kd.N_elder' (tR HO103) (Kd.R_base ho0) hb); replace HO106 := Aside0.mk (Kd.R_below (tR HO106) hb); have HO110 := Aside0.mk (Kd.R_lower ho0 (below_size (tB))); replace HB := tA HB hb; (try clear hb); (try clear hb2); (try clear hk); (try clear hi); (try clear ho0)) | ((with_reducible refine gate_dst (N := 11) rfl ?_); (try (refine gate_guard (by rfl) ?_; dsimp only)); refine Kd.R_lit (Kd.int .i64) _ 3 ?hg (N := 11) ?hd (xs := ([0] : List Int)) (inner := [.int .i64 0]) (ok := fun _ => True) (okp := fun _ => True) ?hr ?hp (fun _ hk => hk) trivial (Below.refl _ _) (Nat.le_refl _) (by simp) ?_; (case hd => rfl); (case hg => rfl); (case hr => first | (go_simp; done) | (go_simp; rfl)); (case hp => exact (Reps.one (show Kd.M (Kd.int .i64) _ _ _ 0 [.int .i64 0] from rfl) (Reps.none _ _))); intro v113 w27 ho28 hb hg_ hnew_; clear hg_ hnew_; (first | rw [← Ny112.out] at ho28 | (simp only [Int.reduceToNat] at ho28; rw [← Ny112.out] at ho28)); replace HO103 := Aside0.mk (Kd.N_elder' (tR HO103) (Kd.R_base ho28) hb); replace HO106 := Aside0.mk (Kd.R_below (tR HO106) hb); have HO114 := Aside0.mk (Kd.R_lower (Kd.R_new' ho28 (Kd.R_lt (tR HO110))) (below_size (tB))); replace HO110 := Aside0.mk (Kd.R_elder' (tR HO110) (Kd.R_base ho28) hb); replace HB := tA HB hb; clear hb ho28; obtain ⟨Ao29, co29, eo29⟩ := Kd.R_slice HO110.out; subst eo29; obtain ⟨Ao30, co30, eo30⟩ := Kd.R_slice HO114.out; subst eo30) | (go_at_call 13; (with_reducible refine (r04_Same.calls k _ _ t108 _ _ y112 true _ (tC (Kd.R_reads' HO110.out).2.2) ((Kd.R_reads' HO110.out).2.1) (tC (Kd.R_reads' HO114.out).2.2) ((Kd.R_reads' HO114.out).2.1) A4.out).mono ?_); rintro e w' ⟨rfl, ⟨nd, rfl⟩⟩) | (go_at_call 33; (with_reducible refine (l16_step.calls  t116 t119 t122 _ A6.out).mono ?_); rintro e w31 ⟨v117, v120, rfl, ho0, ho1, hb⟩; have HO118 := Aside0.mk (Kd.N_lower (Kd.N_mono (ok' := fun k_ => some k_ ≠ (v120 : Value).ownBlock ∧ some k_ ≠ (.slice Ao24 t101.length co24 : Value).ownBlock ∧ some k_ ≠ (.slice Ao25 t104.length co25 : Value).ownBlock ∧ some k_ ≠ (.slice Ao29 t108.length co29 : Value).ownBlock ∧ some k_ ≠ (.slice Ao30 y112.length co30 : Value).ownBlock) ho0 (fun k_ hk_ => ⟨hk_.2, (Kd.fresh' (Kd.N_lt (tR HO103)) k_ hk_.1), (Kd.fresh' (Kd.R_lt (tR HO106)) k_ hk_.1), (Kd.fresh' (Kd.R_lt (tR HO110)) k_ hk_.1), (Kd.fresh' (Kd.R_lt (tR HO114)) k_ hk_.1)⟩)) (below_size (tB))); replace HO103 := Aside0.mk (Kd.N_mono (Kd.N_told (Kd.N_told (Kd.N_old (tR HO103) hb) (Kd.N_base ho0)) (Kd.R_base ho1)) (fun _ h_ => h_.1)); replace HO110 := Aside0.mk (Kd.R_below (tR HO110) hb); replace HO114 := Aside0.mk (Kd.R_below (tR HO114) hb); have HO121 := Aside0.mk (Kd.R_lower (Kd.R_new' (Kd.R_mono (ok' := fun k_ => True) ho1 (fun _ hk_ => trivial)) (Kd.R_lt (tR HO106))) (below_size (tB))); replace HO106 := Aside0.mk (Kd.R_elder' (tR HO106) (Kd.R_base ho1) hb); replace HB := tA HB hb; (try clear hb); (try clear hb2); (try clear hk); (try clear hi); (try clear ho0); (try clear ho1); obtain ⟨Ao32, co32, eo32⟩ := Kd.N_slice HO118.out; subst eo32; obtain ⟨Ao33, co33, eo33⟩ := Kd.R_slice HO121.out; subst eo33) | (go_at_call 14; (with_reducible refine (witness_Diameter.calls k _ _ t116 _ _ t119 t122 t123 _ (tC (Kd.N_reads' HO118.out).2.2) ((Kd.N_reads' HO118.out).2.1) (tC (Kd.R_reads' HO121.out).2.2) ((Kd.R_reads' HO121.out).2.1) A7.out).mono ?_); rintro e w34 ⟨rfl, hb⟩; replace HO103 := Aside0.mk (Kd.N_below (tR HO103) hb); replace HO106 := Aside0.mk (Kd.R_below (tR HO106) hb); replace HO110 := Aside0.mk (Kd.R_below (tR HO110) hb); replace HO114 := Aside0.mk (Kd.R_below (tR HO114) hb); replace HO118 := Aside0.mk (Kd.N_below (tR HO118) hb); replace HO121 := Aside0.mk (Kd.R_below (tR HO121) hb); replace HB := tA HB hb; (try clear hb); (try clear hb2); (try clear hk); (try clear hi)))
   go_ret
   exact ⟨tE, tB⟩
  replace c5 := Bool.eq_false_iff.mpr c5
  subst c5
  rw [if_neg (show ¬ (false = true) by decide)] at H
  obtain rfl := Option.some.inj H
  go_enter Try.func10, Try.ntmps10
  go_wp2_with (first | ((with_reducible refine gate_callee (f := 33) rfl ?_); refine goesL_ (some 4) rfl rfl Try.func33 (by kernel_rfl) rfl #[] rfl (by (try simp only [List.map_toArray, List.map_cons, List.map_nil]); first | done | rfl | (simp only [List.length_drop, List.length_take]; rfl)) ?_; (with_reducible refine (l16_step.calls  t101 t104 t107 _ A1.out).mono ?_); rintro e w35 ⟨v102, v105, rfl, ho0, ho1, hb⟩; refine ⟨_, rfl, ?_⟩; have HO103 := Aside0.mk (Kd.N_lower (Kd.N_mono (ok' := fun k_ => some k_ ≠ (v105 : Value).ownBlock) ho0 (fun k_ hk_ => hk_.2)) (below_size (tB))); have HO106 := Aside0.mk (Kd.R_lower (Kd.R_mono (ok' := fun k_ => True) ho1 (fun _ hk_ => trivial)) (below_size (tB))); replace HB := tA HB hb; (try clear hb); (try clear hb2); (try clear hk); (try clear hi); (try clear ho0); (try clear ho1); obtain ⟨Ao36, co36, eo36⟩ := Kd.N_slice HO103.out; subst eo36; obtain ⟨Ao37, co37, eo37⟩ := Kd.R_slice HO106.out; subst eo37) | ((with_reducible refine gate_callee (f := 11) rfl ?_); refine goesL_ (some 5) rfl rfl Try.func11 (by kernel_rfl) rfl #[.agg #[.slice Ao36 t101.length co36, .slice Ao37 t104.length co37, .bool t107]] rfl (by (try simp only [List.map_toArray, List.map_cons, List.map_nil]); first | done | rfl | (simp only [List.length_drop, List.length_take]; rfl)) ?_; (with_reducible refine (witness_Dead.calls k _ _ t101 _ _ t104 t107 t108 true _ (tC (Kd.N_reads' HO103.out).2.2) ((Kd.N_reads' HO103.out).2.1) (tC (Kd.R_reads' HO106.out).2.2) ((Kd.R_reads' HO106.out).2.1) A2.out).mono ?_); rintro e w38 ⟨v109, rfl, ho0, hb⟩; refine ⟨_, rfl, ?_⟩; replace HO103 := Aside0.mk (Kd.N_elder' (tR HO103) (Kd.R_base ho0) hb); replace HO106 := Aside0.mk (Kd.R_below (tR HO106) hb); have HO110 := Aside0.mk (Kd.R_lower ho0 (below_size (tB))); replace HB := tA HB hb; (try clear hb); (try clear hb2); (try clear hk); (try clear hi); (try clear ho0)) | ((with_reducible refine gate_dst (N := 11) rfl ?_); (try (refine gate_guard (by rfl) ?_; dsimp only)); refine Kd.R_lit (Kd.int .i64) _ 3 ?hg (N := 11) ?hd (xs := ([0] : List Int)) (inner := [.int .i64 0]) (ok := fun _ => True) (okp := fun _ => True) ?hr ?hp (fun _ hk => hk) trivial (Below.refl _ _) (Nat.le_refl _) (by simp) ?_; (case hd => rfl); (case hg => rfl); (case hr => first | (go_simp; done) | (go_simp; rfl)); (case hp => exact (Reps.one (show Kd.M (Kd.int .i64) _ _ _ 0 [.int .i64 0] from rfl) (Reps.none _ _))); intro v113 w39 ho40 hb hg_ hnew_; clear hg_ hnew_; (first | rw [← Ny112.out] at ho40 | (simp only [Int.reduceToNat] at ho40; rw [← Ny112.out] at ho40)); replace HO103 := Aside0.mk (Kd.N_elder' (tR HO103) (Kd.R_base ho40) hb); replace HO106 := Aside0.mk (Kd.R_below (tR HO106) hb); have HO114 := Aside0.mk (Kd.R_lower (Kd.R_new' ho40 (Kd.R_lt (tR HO110))) (below_size (tB))); replace HO110 := Aside0.mk (Kd.R_elder' (tR HO110) (Kd.R_base ho40) hb); replace HB := tA HB hb; clear hb ho40; obtain ⟨Ao41, co41, eo41⟩ := Kd.R_slice HO110.out; subst eo41; obtain ⟨Ao42, co42, eo42⟩ := Kd.R_slice HO114.out; subst eo42) | (go_at_call 13; (with_reducible refine (r04_Same.calls k _ _ t108 _ _ y112 false _ (tC (Kd.R_reads' HO110.out).2.2) ((Kd.R_reads' HO110.out).2.1) (tC (Kd.R_reads' HO114.out).2.2) ((Kd.R_reads' HO114.out).2.1) A4.out).mono ?_); rintro e w' ⟨rfl, ⟨nd, rfl⟩⟩))
  go_ret
  exact ⟨tE, tB⟩
 replace c3 := Bool.eq_false_iff.mpr c3
 subst c3
 rw [if_neg (show ¬ (false = true) by decide)] at H
 obtain rfl := Option.some.inj H
 go_enter Try.func10, Try.ntmps10
 go_wp2_with (first | ((with_reducible refine gate_callee (f := 33) rfl ?_); refine goesL_ (some 4) rfl rfl Try.func33 (by kernel_rfl) rfl #[] rfl (by (try simp only [List.map_toArray, List.map_cons, List.map_nil]); first | done | rfl | (simp only [List.length_drop, List.length_take]; rfl)) ?_; (with_reducible refine (l16_step.calls  t101 t104 t107 _ A1.out).mono ?_); rintro e w43 ⟨v102, v105, rfl, ho0, ho1, hb⟩; refine ⟨_, rfl, ?_⟩; have HO103 := Aside0.mk (Kd.N_lower (Kd.N_mono (ok' := fun k_ => some k_ ≠ (v105 : Value).ownBlock) ho0 (fun k_ hk_ => hk_.2)) (below_size (tB))); have HO106 := Aside0.mk (Kd.R_lower (Kd.R_mono (ok' := fun k_ => True) ho1 (fun _ hk_ => trivial)) (below_size (tB))); replace HB := tA HB hb; (try clear hb); (try clear hb2); (try clear hk); (try clear hi); (try clear ho0); (try clear ho1); obtain ⟨Ao44, co44, eo44⟩ := Kd.N_slice HO103.out; subst eo44; obtain ⟨Ao45, co45, eo45⟩ := Kd.R_slice HO106.out; subst eo45) | ((with_reducible refine gate_callee (f := 11) rfl ?_); refine goesL_ (some 5) rfl rfl Try.func11 (by kernel_rfl) rfl #[.agg #[.slice Ao44 t101.length co44, .slice Ao45 t104.length co45, .bool t107]] rfl (by (try simp only [List.map_toArray, List.map_cons, List.map_nil]); first | done | rfl | (simp only [List.length_drop, List.length_take]; rfl)) ?_; (with_reducible refine (witness_Dead.calls k _ _ t101 _ _ t104 t107 t108 false _ (tC (Kd.N_reads' HO103.out).2.2) ((Kd.N_reads' HO103.out).2.1) (tC (Kd.R_reads' HO106.out).2.2) ((Kd.R_reads' HO106.out).2.1) A2.out).mono ?_); rintro e w46 ⟨v109, rfl, ho0, hb⟩; refine ⟨_, rfl, ?_⟩; replace HO103 := Aside0.mk (Kd.N_elder' (tR HO103) (Kd.R_base ho0) hb); replace HO106 := Aside0.mk (Kd.R_below (tR HO106) hb); have HO110 := Aside0.mk (Kd.R_lower ho0 (below_size (tB))); replace HB := tA HB hb; (try clear hb); (try clear hb2); (try clear hk); (try clear hi); (try clear ho0)))
 go_ret
 exact ⟨tE, tB⟩
end Go.Proofs.Ytfnjbgggmddgpaa.Q
end
section
set_option linter.unusedVariables false
set_option linter.unusedSimpArgs false
namespace Go.Proofs.Ytfnjbgggmddgpaa.Q
open Go.RowKit Go.Proofs.Fn Go.Proofs.YtfnjbgggmddgpaaW.PrintWords Go.Proofs.Gr
theorem mem_row {n : Nat} {es : List S80} {s : Int} {e : S80} (h : e ∈ row n es s) : e ∈ es ∧ cnt n s e = true := by
  have key : ∀ (l a : List S80), e ∈ l.foldl (fun l e => insE e l) a → e ∈ a ∨ e ∈ l := by
    intro l
    induction l with
    | nil => intro a h; exact .inl h
    | cons x l ih =>
      intro a h
      rcases ih _ h with h | h
      · rcases mem_insE h with rfl | h
        · exact .inr List.mem_cons_self
        · exact .inl h
      · exact .inr (List.mem_cons_of_mem _ h)
  rcases key _ _ h with h | h
  · cases h
  · exact List.mem_filter.1 h
theorem row_len (n : Nat) (es : List S80) (s : Int) : (row n es s).length ≤ es.length := by
  have key : ∀ (l a : List S80), (l.foldl (fun l e => insE e l) a).length ≤ a.length + l.length := by
    intro l
    induction l with
    | nil => intro a; simp
    | cons x l ih =>
      intro a
      have h1 := ih (insE x a)
      have h2 := insE_len x a
      simp only [List.foldl_cons, List.length_cons]; omega
  have h1 := key (es.filter (cnt n s)) []
  have h2 := List.length_filter_le (cnt n s) es
  have h3 : (row n es s).length ≤ ([] : List S80).length + (es.filter (cnt n s)).length := h1
  simp only [List.length_nil] at h3
  omega
theorem tab_get {n : Nat} {es : List S80} {i : Nat} (h : i < n) : (tab n es).getD i [] = row n es (i : Int) := by simp [tab, h]
theorem tab_ok {n : Nat} {es : List S80} (hn : n ≤ 1000000) (he : es.length ≤ 1000000) : OkT n (tab n es) := by
  refine ⟨by simp [tab], hn, fun i hi => ?_, fun i hi e h => ?_⟩
  · rw [tab_get hi]; exact Nat.le_trans (row_len _ _ _) he
  · rw [tab_get hi] at h
    have := (mem_row h).2
    simp only [cnt, Bool.and_eq_true, decide_eq_true_eq] at this
    omega
theorem Found.none {n : Nat} {T : List (List S80)} {g : Nat → Bool} {a : Int} {l : List Int} {ok : Bool} (h : Found n T g a l ok) (hg : ∀ i, i < n → g i = false) : l = [] ∧ ok = false := by
  cases ok with
  | false => exact ⟨h.no rfl, rfl⟩
  | true =>
    obtain ⟨s, t, _, _, ht, _, h2⟩ := h.way rfl
    rw [hg t ht] at h2; cases h2
theorem between_both (st : List (List Int)) (es : List S80) (b : Bool) (hn : st.length ≤ 1000000) (he : es.length ≤ 1000000) (a c : Int) :
    ∃ l ok, Found st.length (tab st.length es) (fun i => (i : Int) == c) a l ok ∧ Evn (fun k => witness_Between.f k st es b a c) (l, ok) ∧ Evn (fun k => r16_Between.f k st es b a c) (l, ok) := by
  have hT := tab_ok (n := st.length) hn he
  obtain ⟨l, ok, hF, h1, h2⟩ := search_both hT (fun s => some (s == c)) (fun i => (i : Int) == c) (fun i hi => rfl) a
  refine ⟨l, ok, hF, Evn.bind (steps_ev st es b hn he) h1, ?_⟩
  have out : (a < 0 ∨ a ≥ (st.length : Int) ∨ c < 0 ∨ c ≥ (st.length : Int)) → l = [] ∧ ok = false := by
    intro h
    by_cases ha : 0 ≤ a ∧ a < (st.length : Int)
    · refine hF.none (fun i hi => ?_)
      simp; omega
    · exact hF.out ha
  have j0 : ∀ f : Bool, f = decide (a < 0 ∨ a ≥ (st.length : Int) ∨ c < 0 ∨ c ≥ (st.length : Int)) → Evn (fun k => r16_Between.j0 k a c f st es b) (l, ok) := by
    intro f hf
    subst hf
    refine Evn.succ ?_
    simp only [r16_Between.j0]
    by_cases h : a < 0 ∨ a ≥ (st.length : Int) ∨ c < 0 ∨ c ≥ (st.length : Int)
    · refine Evn.pos (by simpa using h) ?_
      obtain ⟨rfl, rfl⟩ := out h
      exact Evn.const _
    · refine Evn.neg (by simpa using h) ?_
      refine Evn.bind (table_ev st es b hn he) ?_
      obtain ⟨c', rfl⟩ : ∃ c' : Nat, c = (c' : Int) := ⟨c.toNat, by omega⟩
      have hs : r16_single.f st es b (c' : Int) = some ((List.range st.length).map (fun (i : Nat) => (i : Int) == (c' : Int))) := by
        unfold r16_single.f
        rw [if_pos (by omega), if_pos (by simp only [Int.toNat_natCast]; omega), Option.bind_some, if_pos (by omega), if_pos (by simp; omega)]
        congr 1
        apply List.ext_getElem (by simp)
        intro i h1 h2
        rw [List.getElem_set]
        simp only [Int.toNat_natCast, List.getElem_replicate, List.getElem_map, List.getElem_range]
        split
        · symm; simp; omega
        · symm; simp; omega
      rw [hs]
      refine Evn.bind (Evn.const _) ?_
      refine Evn.bind h2 ?_
      exact Evn.const _
  unfold r16_Between.f
  by_cases c1 : a < 0
  · refine Evn.pos c1 (j0 _ ?_)
    symm; simp; omega
  · refine Evn.neg c1 ?_
    by_cases c2 : a ≥ (st.length : Int)
    · refine Evn.pos c2 (j0 _ ?_)
      symm; simp; omega
    · refine Evn.neg c2 ?_
      by_cases c3 : c < 0
      · refine Evn.pos c3 (j0 _ ?_)
        symm; simp; omega
      · refine Evn.neg c3 (j0 _ ?_)
        rw [Bool.eq_iff_iff]; simp only [decide_eq_true_eq]; omega
theorem alive_ev : Evn (fun k => l16_alive.f k) true :=
  ⟨20, fun k hk => by
    obtain ⟨n, rfl⟩ := Nat.exists_eq_add_of_le' hk
    kernel_rfl⟩
theorem few_eq (st : List (List Int)) (es : List S80) (b : Bool) : l16_few.f st es b = some (decide (st.length ≤ 16 ∧ es.length ≤ 40)) := by
  unfold l16_few.f
  by_cases c : (st.length : Int) ≤ 16
  · rw [if_pos c]; congr 1; rw [Bool.eq_iff_iff]; simp only [decide_eq_true_eq]; omega
  · rw [if_neg c]; congr 1; symm; rw [decide_eq_false_iff_not]; omega
theorem Found.short {n : Nat} {T : List (List S80)} {g : Nat → Bool} {a : Int} {l : List Int} {ok : Bool} (hT : OkT n T) (h : Found n T g a l ok) : l.length ≤ 2000000 := by
  by_cases ha : 0 ≤ a ∧ a < (n : Int)
  · obtain ⟨s, rfl⟩ : ∃ s : Nat, a = (s : Int) := ⟨a.toNat, by omega⟩
    obtain ⟨d, ⟨hd, hL, hle⟩, _⟩ := distances_ev hT (fun i => some (g i.toNat)) g (fun i hi => by simp)
    have := (h.len s rfl (by omega) _ hL).1
    have := hle s (by omega)
    have := hT.small
    split at * <;> omega
  · rw [(h.out ha).1]; simp
end Go.Proofs.Ytfnjbgggmddgpaa.Q
end
section
namespace Go.Proofs.Ytfnjbgggmddgpaa.Q
open Go.RowKit Go.Proofs.Fn Go.Proofs.YtfnjbgggmddgpaaW.PrintWords Go.Proofs.YtfnjbgggmddgpaaW.PrintLast Go.Proofs.YtfnjbgggmddgpaaW.PrintMore
attribute [local go_sem] max2_int min2_int max_two min_two max_three min_three max_four min_four
set_option linter.unusedVariables false
set_option linter.unusedSimpArgs false
mutual
def r16_Fires.l0 : Nat → Int → List (List (S80)) → List Bool → Int → Option (List Int × Bool)
 | 0, _, _, _, _ => none
 | k + 1, x1, x6, x7, x8 => if x8 < (x6.length : Int) then (r16_Fires.l1 k x1 x6 x7 x8 false 0) else ((r16_follow.f k x6 0 x7).bind fun bt105 => (if bt105.2 = true then (if bt105.1.length < 17592186044416 then (some ((bt105.1 ++ [x1]), bt105.2)) else (none)) else (some (bt105.1, bt105.2))))
def r16_Fires.l1 : Nat → Int → List (List (S80)) → List Bool → Int → Bool → Int → Option (List Int × Bool)
 | 0, _, _, _, _, _, _ => none
 | k + 1, x1, x6, x7, x8, x9, x10 => if 0 ≤ x8 then (if x8 < (x6.length : Int) then (if x10 < ((rd_L80 x6 x8).length : Int) then (if x9 = true then (r16_Fires.l1 k x1 x6 x7 x8 true (wrap64 (x10 + 1))) else (if 0 ≤ x10 then (r16_Fires.l1 k x1 x6 x7 x8 (((rd_T80 (rd_L80 x6 x8) x10).f1) == x1) (wrap64 (x10 + 1))) else (none))) else (if x7.length < 140737488355328 then (r16_Fires.l0 k x1 x6 (x7 ++ [x9]) (wrap64 (x8 + 1))) else (none))) else (none)) else (none)
end
def r16_Fires.f (k : Nat) (l0_0 : List (List Int)) (l0_1 : List (S80)) (a0_2 : Bool) (a1 : Int) : Option (List Int × Bool) := (r16_Table.f k l0_0 l0_1 a0_2).bind fun t102 => (r16_Fires.l0 k a1 t102 ([] : List Bool) 0)
end Go.Proofs.Ytfnjbgggmddgpaa.Q
end
section
set_option linter.unusedVariables false
set_option linter.unusedSimpArgs false
namespace Go.Proofs.Ytfnjbgggmddgpaa.Q
open Go.RowKit Go.Proofs.Fn Go.Proofs.YtfnjbgggmddgpaaW.PrintWords Go.Proofs.Gr
def hasT (T : List (List S80)) (t : Int) (i : Nat) : Bool := (T.getD i []).any (fun e => e.f1 == t)
theorem rfires_l1 {n : Nat} {T : List (List S80)} (hT : OkT n T) (t : Int) (x7 : List Bool) (i : Nat) (hi : i < n) (r : List Int × Bool) (h7 : x7.length = i)
    (next : Evn (fun k => r16_Fires.l0 k t T (x7 ++ [hasT T t i]) ((i + 1 : Nat) : Int)) r) :
    ∀ (m p : Nat) (f : Bool), p + m = (T.getD i []).length → (f || ((T.getD i []).drop p).any (fun e => e.f1 == t)) = hasT T t i → Evn (fun k => r16_Fires.l1 k t T x7 (i : Int) f (p : Int)) r := by
  have hsm := hT.small
  have hln := hT.len
  have hrow := hT.rows i hi
  intro m
  induction m with
  | zero =>
    intro p f hp hf
    rw [List.drop_of_length_le (by omega), List.any_nil, Bool.or_false] at hf
    refine Evn.succ ?_
    simp only [r16_Fires.l1, rdL80, hln, wrap_succ (show i < 9223372036854775807 by omega)]
    iterate 3 (first | refine Evn.pos (by first | assumption | omega | (simp; done) | (simp; omega)) ?_ | refine Evn.neg (by first | assumption | omega | (simp; done) | (simp; omega)) ?_)
    refine Evn.pos (by omega) ?_
    rw [hf]; exact next
  | succ m ih =>
    intro p f hp hf
    have hpl : p < (T.getD i []).length := by omega
    rw [drop80 hpl, List.any_cons] at hf
    refine Evn.succ ?_
    simp only [r16_Fires.l1, rdL80, hln, wrap_succ (show p < 9223372036854775807 by omega)]
    iterate 3 (first | refine Evn.pos (by first | assumption | omega | (simp; done) | (simp; omega)) ?_ | refine Evn.neg (by first | assumption | omega | (simp; done) | (simp; omega)) ?_)
    cases f with
    | true => refine Evn.pos rfl ?_; exact ih (p + 1) true (by omega) (by rw [← hf]; simp)
    | false =>
      refine Evn.neg (by simp) ?_
      (first | refine Evn.pos (by first | assumption | omega | (simp; done) | (simp; omega)) ?_ | refine Evn.neg (by first | assumption | omega | (simp; done) | (simp; omega)) ?_)
      exact ih (p + 1) _ (by omega) (by rw [← hf]; simp)
theorem fires_both (st : List (List Int)) (es : List S80) (b : Bool) (hn : st.length ≤ 1000000) (he : es.length ≤ 1000000) (t : Int) :
    ∃ l ok, Found st.length (tab st.length es) (hasT (tab st.length es) t) 0 l ok ∧ Evn (fun k => witness_Fires.f k st es b t) (if ok = true then l ++ [t] else [], ok) ∧ Evn (fun k => r16_Fires.f k st es b t) (if ok = true then l ++ [t] else [], ok) := by
  have hT := tab_ok (n := st.length) hn he
  have hln := hT.len
  have hst := steps_ev st es b hn he
  have htb := table_ev st es b hn he
  revert hT hln hst htb
  generalize tab st.length es = T
  intro hT hln hst htb
  obtain ⟨l, ok, hF, h1, h2⟩ := search_both hT (fires1 (T.map (List.map pr)) t) (hasT T t) (fun i hi => by
    unfold fires1
    rw [if_pos (by omega), if_pos (by rw [List.length_map, hln]; omega), rdmap]
    congr 1
    unfold hasT
    rw [List.any_map]; rfl) 0
  have hsh := hF.short hT
  refine ⟨l, ok, hF, ?_, ?_⟩
  · refine Evn.bind hst ?_
    refine Evn.bind (a := (l, ok)) (Evn.pos ?_ h1) ?_
    · rw [List.all_eq_true]
      intro r hr
      obtain ⟨r', hr', rfl⟩ := List.mem_map.1 hr
      obtain ⟨i, hi, e⟩ := List.mem_iff_getElem.1 hr'
      have := hT.rows i (by omega)
      have e2 : T.getD i [] = r' := by rw [← e]; simp [hi]
      rw [e2] at this
      simp; omega
    · cases ok with
      | true =>
        refine Evn.pos rfl ?_
        refine Evn.pos (by simp only; omega) ?_
        exact Evn.const _
      | false => refine Evn.neg (by simp) ?_; exact Evn.const _
  · refine Evn.bind htb ?_
    have key : ∀ (m i : Nat), i + m = st.length → Evn (fun k => r16_Fires.l0 k t T ((List.range i).map (hasT T t)) (i : Int)) (if ok = true then l ++ [t] else [], ok) := by
      intro m
      induction m with
      | zero =>
        intro i hi
        obtain rfl : i = st.length := by omega
        refine Evn.succ ?_
        simp only [r16_Fires.l0, hln]
        (first | refine Evn.pos (by first | assumption | omega | (simp; done) | (simp; omega)) ?_ | refine Evn.neg (by first | assumption | omega | (simp; done) | (simp; omega)) ?_)
        refine Evn.bind h2 ?_
        cases ok with
        | true =>
          refine Evn.pos rfl ?_
          refine Evn.pos (by simp only; omega) ?_
          exact Evn.const _
        | false =>
          refine Evn.neg (by simp) ?_
          rw [hF.no rfl]
          exact Evn.const _
      | succ m ih =>
        intro i hi
        have := ih (i + 1) (by omega)
        rw [List.range_succ, List.map_append, List.map_singleton] at this
        refine Evn.succ ?_
        simp only [r16_Fires.l0, hln]
        (first | refine Evn.pos (by first | assumption | omega | (simp; done) | (simp; omega)) ?_ | refine Evn.neg (by first | assumption | omega | (simp; done) | (simp; omega)) ?_)
        exact rfires_l1 hT t _ i (by omega) _ (by simp) this _ 0 false (by rw [Nat.zero_add]) (by simp [hasT])
    exact key st.length 0 (by omega)
end Go.Proofs.Ytfnjbgggmddgpaa.Q
end
section
namespace Go.Proofs.Ytfnjbgggmddgpaa.Q
open Go.RowKit Go.Proofs.Fn Go.Proofs.YtfnjbgggmddgpaaW.PrintWords Go.Proofs.YtfnjbgggmddgpaaW.PrintLast Go.Proofs.YtfnjbgggmddgpaaW.PrintMore
attribute [local go_sem] max2_int min2_int max_two min_two max_three min_three max_four min_four
set_option linter.unusedVariables false
set_option linter.unusedSimpArgs false
def witness_To.f (k : Nat) (l0_0 : List (List Int)) (l0_1 : List (S80)) (a0_2 : Bool) (a1 : Int) : Option (List Int × Bool) := (witness_Between.f k l0_0 l0_1 a0_2 0 a1).bind fun bt102 => (some (bt102.1, bt102.2))
set_option maxHeartbeats 8000000 in
set_option maxRecDepth 100000 in
theorem witness_To.calls (k : Nat) (A0_0 : Option Addr) (c0_0 : Nat) (l0_0 : List (List Int)) (A0_1 : Option Addr) (c0_1 : Nat) (l0_1 : List (S80)) (a0_2 : Bool) (a1 : Int) (r1 : List Int) (r2 : Bool) (w : World) (hr0_0 : Kd.C (Kd.slice 3 (Kd.int .i64)) w A0_0 l0_0.length l0_0) (hc0_0 : l0_0.length ≤ c0_0) (hr0_1 : Kd.C k80 w A0_1 l0_1.length l0_1) (hc0_1 : l0_1.length ≤ c0_1) (h : witness_To.f k l0_0 l0_1 a0_2 a1 = some (r1, r2)) :
  Calls Try.prog 18 #[.agg #[.slice A0_0 l0_0.length c0_0, .slice A0_1 l0_1.length c0_1, .bool a0_2], .int .i64 a1] w fun e w' => ∃ v0_ : Value, e = .returned (.tuple #[v0_, .bool r2]) ∧ Kd.R (Kd.int .i64) 3 w' w.heap.size (fun _ => True) v0_ r1 ∧ Below w.heap.size w w' := by
 have hu25 := Try.underlying25
 have HR0_0 := Aside0.mk hr0_0
 have HC0_0 := Aside0.mk hc0_0
 clear hr0_0 hc0_0
 have HR0_1 := Aside0.mk hr0_1
 have HC0_1 := Aside0.mk hc0_1
 clear hr0_1 hc0_1
 have HB := Aside0.mk (Below.refl w.heap.size w)
 have H : ((witness_Between.f k l0_0 l0_1 a0_2 0 a1).bind fun bt102 => (some (bt102.1, bt102.2))) = some (r1, r2) := h
 clear h
 replace H := Option.bind_eq_some_iff.mp H
 obtain ⟨⟨t102, t105⟩, A30, H⟩ := H
 (try dsimp only at H)
 have A3 := Aside0.mk A30
 clear A30
 simp only [Option.some.injEq, Prod.mk.injEq] at H
 obtain ⟨rfl, rfl⟩ := H
 go_enter Try.func18, Try.ntmps18
 go_wp2_with (first | ((with_reducible refine gate_dst (N := 2) rfl ?_); refine tBx 2 25 #[.slice A0_0 l0_0.length c0_0, .slice A0_1 l0_1.length c0_1, .bool a0_2] ?_; intro gb101 hg w4 hbox hb; have BK101 := Aside0.mk (hbox); have GW101 := tW HB hg; have GE101 := tW HB hg; replace HB := tA HB hb; clear hb hbox hg; obtain ⟨hcz5_0, hcz5_1, hcz5_2, hfz5_0, hfz5_1, hfz5_2⟩ := zc3 BK101) | ((with_reducible refine gate_callee (f := 16) rfl ?_); refine goesL_ (some 8) rfl rfl Try.func16 (by kernel_rfl) rfl #[.agg #[.slice A0_0 l0_0.length c0_0, .slice A0_1 l0_1.length c0_1, .bool a0_2], .int .i64 0, .int .i64 a1] rfl (by (try simp only [List.map_toArray, List.map_cons, List.map_nil]); first | done | rfl | (simp only [List.length_drop, List.length_take]; rfl)) ?_; (with_reducible refine (witness_Between.calls k _ _ l0_0 _ _ l0_1 a0_2 0 a1 t102 t105 _ (tG HR0_0 HB) HC0_0.out (tG HR0_1 HB) HC0_1.out A3.out).mono ?_); rintro e w6 ⟨v103, rfl, ho0, hb⟩; refine ⟨_, rfl, ?_⟩; have HO104 := Aside0.mk (Kd.R_lower ho0 (below_size (tB))); replace BK101 := tL BK101 hb; replace HB := tA HB hb; (try clear hb); (try clear hb2); (try clear hk); (try clear hi); (try clear ho0)))
 go_ret2
 exact ⟨_, tE, by (with_reducible repeat (first | apply Kd.R_alloc | apply Kd.R_drewN | apply Kd.R_drew)); exact HO104.out, tB⟩
def r14_Find.l0 : Nat → List (List Int) → List Int → Int → Option (Int)
 | 0, _, _, _ => none
 | k + 1, x0, x1, x5 => if x5 < (x0.length : Int) then (if 0 ≤ x5 then ((r04_Same.f k (rd_L3 x0 x5) x1).bind fun t102 => (if t102 = true then (some x5) else (r14_Find.l0 k x0 x1 (wrap64 (x5 + 1))))) else (none)) else (some (-1))
def r14_Find.f (k : Nat) (l0 : List (List Int)) (l1 : List Int) : Option (Int) := r14_Find.l0 k l0 l1 0
set_option maxHeartbeats 8000000 in
set_option maxRecDepth 100000 in
theorem r14_Find.calls (k : Nat) (A0 : Option Addr) (c0 : Nat) (l0 : List (List Int)) (A1 : Option Addr) (c1 : Nat) (l1 : List Int) (r : Int) (w : World) (hr0 : Kd.C (Kd.slice 3 (Kd.int .i64)) w A0 l0.length l0) (hc0 : l0.length ≤ c0) (hr1 : Kd.C (Kd.int .i64) w A1 l1.length l1) (hc1 : l1.length ≤ c1) (h : r14_Find.f k l0 l1 = some r) :
  Calls Try.prog 32 #[.slice A0 l0.length c0, .slice A1 l1.length c1] w fun e w' => e = .returned (.int .i64 r) ∧ Drawn0 w w' := by
 have HR0 := Aside0.mk hr0
 have HC0 := Aside0.mk hc0
 clear hr0 hc0
 have HR1 := Aside0.mk hr1
 have HC1 := Aside0.mk hc1
 clear hr1 hc1
 have H : (r14_Find.l0 k l0 l1 0) = some r := h
 clear h
 have H' := Aside0.mk H
 clear H
 go_enter Try.func32, Try.ntmps32
 go_wp2
 go_loopg [5] k (fun kq v5 w' => ∃ (x5_1 : Int), v5 = .int .i64 x5_1 ∧ Aside0 (r14_Find.l0 kq l0 l1 x5_1 = some r) ∧ Aside0 (kq ≤ k) ∧ Drawn0 w w')
 case atStart => exact ⟨(0), tU, H', ⟨Nat.le_refl _⟩, by repeat (first | exact Drawn0.refl _ | apply Drawn0.step)⟩
 case round =>
  clear H'
  (try clear c1); (try clear p2)
  obtain ⟨x5_1, rfl, HA, HK1, ⟨m1, rfl⟩⟩ := hrel
  cases gk with
  | zero => exact absurd HA.out (by simp [r14_Find.l0])
  | succ k1 =>
   have H := HA.out
   clear HA
   simp only [r14_Find.l0] at H
   by_cases c3 : x5_1 < (l0.length : Int)
   ·rw [if_pos c3] at H
    have c3b0 := decide_eq_true c3
    clear c3
    replace H := tF H
    obtain ⟨c4, H⟩ := H
    have c4b0 := decide_eq_true c4
    clear c4
    replace H := Option.bind_eq_some_iff.mp H
    obtain ⟨t102, A50, H⟩ := H
    (try dsimp only at H)
    have A5 := Aside0.mk A50
    clear A50
    by_cases c6 : t102 = true
    ·subst c6
     rw [if_pos rfl] at H
     obtain rfl := Option.some.inj H
     have p101 : 0 ≤ (x5_1 : Int) := tD
     have q101 : x5_1 < (l0.length : Int) := tD
     obtain ⟨ad101, A101_0, c101_0, e101, hx101_0, hl101_0, hi101_0⟩ := at_L3 HR0.out x5_1 p101 q101
     cases e101
     have HR101_0 := Aside0.mk hi101_0
     have HC101_0 := Aside0.mk hl101_0
     clear hi101_0 hl101_0
     replace p101 := eq_true p101
     replace q101 := eq_true q101
     go_wp2_with (first | ((with_reducible refine gate_callee (f := 13) rfl ?_); refine goesL_ (some 17) rfl rfl Try.func13 (by kernel_rfl) rfl #[.slice A101_0 (rd_L3 l0 x5_1).length c101_0, .slice A1 l1.length c1] rfl (by (try simp only [List.map_toArray, List.map_cons, List.map_nil]); first | done | rfl | (simp only [List.length_drop, List.length_take]; rfl)) ?_; (with_reducible refine (r04_Same.calls k1 _ _ (rd_L3 l0 x5_1) _ _ l1 true _ (tC HR101_0.out) HC101_0.out (tC HR1.out) HC1.out A5.out).mono ?_); rintro e w' ⟨rfl, ⟨nd, rfl⟩⟩; refine ⟨_, rfl, ?_⟩))
     go_ret
     exact ⟨by first | rfl | (simp; done) | (simp [*]; done), by repeat (first | exact Drawn0.refl _ | apply Drawn0.step)⟩
    replace c6 := Bool.eq_false_iff.mpr c6
    subst c6
    rw [if_neg (show ¬ (false = true) by decide)] at H
    have H' := Aside0.mk H
    clear H
    have p101 : 0 ≤ (x5_1 : Int) := tD
    have q101 : x5_1 < (l0.length : Int) := tD
    obtain ⟨ad101, A101_0, c101_0, e101, hx101_0, hl101_0, hi101_0⟩ := at_L3 HR0.out x5_1 p101 q101
    cases e101
    have HR101_0 := Aside0.mk hi101_0
    have HC101_0 := Aside0.mk hl101_0
    clear hi101_0 hl101_0
    replace p101 := eq_true p101
    replace q101 := eq_true q101
    go_wp2_with (first | ((with_reducible refine gate_callee (f := 13) rfl ?_); refine goesL_ (some 17) rfl rfl Try.func13 (by kernel_rfl) rfl #[.slice A101_0 (rd_L3 l0 x5_1).length c101_0, .slice A1 l1.length c1] rfl (by (try simp only [List.map_toArray, List.map_cons, List.map_nil]); first | done | rfl | (simp only [List.length_drop, List.length_take]; rfl)) ?_; (with_reducible refine (r04_Same.calls k1 _ _ (rd_L3 l0 x5_1) _ _ l1 false _ (tC HR101_0.out) HC101_0.out (tC HR1.out) HC1.out A5.out).mono ?_); rintro e w' ⟨rfl, ⟨nd, rfl⟩⟩; refine ⟨_, rfl, ?_⟩))
    go_roundg k1
    case measure => have := HK1.out; omega
    case rel => exact ⟨(wrap64 (x5_1 + 1)), tU, H', ⟨by have := HK1.out; omega⟩, by repeat (first | exact Drawn0.refl _ | apply Drawn0.step)⟩
   rw [if_neg c3] at H
   have c3b0 := decide_eq_false c3
   clear c3
   obtain rfl := Option.some.inj H
   go_wp2
   go_ret
   exact ⟨by first | rfl | (simp; done) | (simp [*]; done), by repeat (first | exact Drawn0.refl _ | apply Drawn0.step)⟩
theorem eqA46 (d : Nat) (w : World) (x0 y0 : Int) (x1 y1 : Int) :
  (Op.equalIn (d + 2) 46 (.agg #[.int .i64 x0, .int .i64 x1]) (.agg #[.int .i64 y0, .int .i64 y1])).run Try.prog w = .ok (x0 == y0 && (x1 == y1)) w := by
 refine eqA_of Try.underlying46 (by kernel_rfl) ?_
 refine eqf_cons (by rfl) (by go_simp; rfl) (by go_simp; rfl) (by go_simp) ?_
 exact eqf_last (by rfl) (by go_simp; rfl) (by go_simp; rfl) (by go_simp)
end Go.Proofs.Ytfnjbgggmddgpaa.Q
end
section
set_option linter.unusedVariables false
set_option linter.unusedSimpArgs false
namespace Go.Proofs.Ytfnjbgggmddgpaa.Q
open Go.RowKit Go.Proofs.Fn Go.Proofs.YtfnjbgggmddgpaaW.PrintWords Go.Proofs.YtfnjbgggmddgpaaW.PrintMore Go.Proofs.Gr
theorem rd_get {xs : List Int} {i : Nat} (h : i < xs.length) : rd xs (i : Int) = xs[i] := by simp [rd, h]
theorem rdL3 {xs : List (List Int)} {i : Nat} (h : i < xs.length) : rd_L3 xs (i : Int) = xs[i] := by simp [rd_L3, h]
theorem same2_ev (a b : List Int) (ha : a.length ≤ 1000000) : Evn (fun k => r04_Same.f k a b) (decide (a = b)) := by
  unfold r04_Same.f
  by_cases hl : a.length = b.length
  · refine Evn.pos (by omega) ?_
    have key : ∀ (m i : Nat), i + m = a.length → Evn (fun k => r04_Same.l0 k a b (i : Int)) (decide (a.drop i = b.drop i)) := by
      intro m
      induction m with
      | zero =>
        intro i hi
        refine Evn.succ ?_
        simp only [r04_Same.l0]
        refine Evn.neg (by omega) ?_
        rw [List.drop_of_length_le (by omega), List.drop_of_length_le (by omega)]
        exact Evn.const _
      | succ m ih =>
        intro i hi
        have h1 : i < a.length := by omega
        have h2 : i < b.length := by omega
        refine Evn.succ ?_
        simp only [r04_Same.l0, wrap_succ (show i < 9223372036854775807 by omega), rd_get h1, rd_get h2]
        refine Evn.pos (by omega) (Evn.pos (by omega) (Evn.pos (by omega) ?_))
        rw [List.drop_eq_getElem_cons h1, List.drop_eq_getElem_cons h2]
        by_cases c : a[i] = b[i]
        · have := ih (i + 1) (by omega)
          refine Evn.pos c ?_
          rw [show decide (a[i] :: a.drop (i + 1) = b[i] :: b.drop (i + 1)) = decide (a.drop (i + 1) = b.drop (i + 1)) by rw [c]; congr 1; rw [List.cons.injEq]; simp only [true_and]]
          exact this
        · refine Evn.neg c ?_
          have : decide (a[i] :: a.drop (i + 1) = b[i] :: b.drop (i + 1)) = false := by
            rw [decide_eq_false_iff_not, List.cons.injEq]; exact fun h => c h.1
          rw [this]
          exact Evn.const _
    exact key a.length 0 (by omega)
  · refine Evn.neg (by omega) ?_
    have : decide (a = b) = false := by
      rw [decide_eq_false_iff_not]; intro h; exact hl (by rw [h])
    rw [this]
    exact Evn.const _
theorem find_dp (L : List (List Int)) (m : List Int) (hL : L.length ≤ 1000000) (hr : ∀ x ∈ L, x.length ≤ 1000000) :
    Dp (fun k => r14_Find.f k L m) (fun r => (r = -1 ∧ m ∉ L) ∨ ∃ i : Nat, r = (i : Int) ∧ L[i]? = some m) := by
  have key : ∀ (n i : Nat), i + n = L.length → Dp (fun k => r14_Find.l0 k L m (i : Int)) (fun r => (r = -1 ∧ m ∉ L.drop i) ∨ ∃ i : Nat, r = (i : Int) ∧ L[i]? = some m) := by
    intro n
    induction n with
    | zero =>
      intro i hi
      refine Dp.succ ?_
      simp only [r14_Find.l0]
      refine Dp.neg (by omega) (Dp.const (.inl ⟨rfl, ?_⟩))
      rw [List.drop_of_length_le (by omega)]; simp
    | succ n ih =>
      intro i hi
      have hil : i < L.length := by omega
      refine Dp.succ ?_
      simp only [r14_Find.l0, wrap_succ (show i < 9223372036854775807 by omega), rdL3 hil]
      refine Dp.pos (by omega) (Dp.pos (by omega) ?_)
      refine Dp.bind (same2_ev L[i] m (hr _ (List.getElem_mem _))).dp (fun a _ ha => ?_)
      subst ha
      by_cases c : L[i] = m
      · refine Dp.pos (by simpa using c) (Dp.const (.inr ⟨i, rfl, ?_⟩))
        rw [List.getElem?_eq_getElem hil, c]
      · refine Dp.neg (by simpa using c) ((ih (i + 1) (by omega)).imp ?_)
        rintro r (⟨h1, h2⟩ | h)
        · refine .inl ⟨h1, ?_⟩
          rw [List.drop_eq_getElem_cons hil, List.mem_cons, not_or]
          exact ⟨fun e => c e.symm, h2⟩
        · exact .inr h
  exact key L.length 0 (by omega)
end Go.Proofs.Ytfnjbgggmddgpaa.Q
end
section
set_option linter.unusedVariables false
set_option linter.unusedSimpArgs false
namespace Go.Proofs.Ytfnjbgggmddgpaa.Q
open Go.RowKit Go.Proofs.Fn Go.Proofs.YtfnjbgggmddgpaaW.PrintWords Go.Proofs.YtfnjbgggmddgpaaW.PrintLast Go.Proofs.YtfnjbgggmddgpaaW.PrintMore
attribute [local go_sem] max2_int min2_int max_two min_two max_three min_three max_four min_four
abbrev Pth := List Int × Int
def kP : Kd Pth := Kd.pair (Kd.slice 3 (Kd.int .i64)) (Kd.int .i64)
def plev (T : List (List S66)) : List Pth → List (List Int) → List Pth → List (List Int) × List Pth × Bool
  | [], out, nxt => (out, nxt, false)
  | p :: lev, out, nxt => if out.length = 5000 then (out, nxt, true) else plev T lev (out ++ [p.1]) (nxt ++ (rd_L66 T p.2).map (fun x => (p.1 ++ [x.f0], x.f1)))
def lang (T : List (List S66)) : Nat → List Pth → List (List Int) → List (List Int) × Bool
  | 0, _, out => (out, false)
  | n + 1, lev, out => if (plev T lev out []).2.2 = true then ((plev T lev out []).1, true) else lang T n (plev T lev out []).2.1 (plev T lev out []).1
def okTab (T : List (List S66)) : Bool := decide (0 < T.length ∧ T.length ≤ 1000000) && T.all (fun r => decide (r.length ≤ 1000) && r.all (fun x => decide (0 ≤ x.f1 ∧ x.f1 < (T.length : Int))))
theorem info100 : (Try.prog.info? 100).map (fun i => (i.zero, i.size, i.bytes)) = some (some (.agg #[.slice none 0 0, .int .i64 0]), 2, 32) := by kernel_rfl
structure JOK (J : Bool → List (List Int) → World → (Nat → Prop) → (Nat → Prop) → Prop) : Prop where
  step : ∀ {s o W W' M ok}, J s o W M ok → W.heap.size ≤ W'.heap.size → (∀ k, ok k → k < W.heap.size → W'.heap[k]? = W.heap[k]?) → J s o W' M ok
  mono : ∀ {s o W M ok ok'}, J s o W M ok → (∀ k, ok k → ok' k) → J s o W M ok'
  bound : ∀ {s o W M ok}, J s o W M ok → J s o W M (fun k => ok k ∧ k < W.heap.size)
  mu : ∀ {s o W M ok}, J s o W M ok → ∀ k, M k → ok k ∧ k < W.heap.size
def GB (T : List (List S66)) (kk : Int) (bk bg : Nat) (Ag : Option Addr) (cg : Nat) (W : World) : Prop :=
  W.heap[bk]? = some (.cells #[.int .i64 kk] 3 (0, 0)) ∧ W.heap[bg]? = some (.cells #[.slice Ag T.length cg] 56 (0, 0)) ∧ Kd.C (Kd.slice 66 k66) W Ag T.length T
def YH (J : Bool → List (List Int) → World → (Nat → Prop) → (Nat → Prop) → Prop) (w : World) (l m : Nat) : Prop :=
  ∀ o W M ok okx (x : List Int) A c, o.length ≤ 5000 → J false o W M ok → Below w.heap.size w W → Kd.F (Kd.int .i64) W okx A x.length x → x.length ≤ c → (∀ k, M k → ¬ okx k) →
    YieldAt Fence.wide m Try.prog l #[.slice A x.length c] W fun e W' => ∃ M' ok', (∀ k, M' k → M k ∨ W.heap.size ≤ k) ∧ (∀ k, ok' k → ok k ∨ okx k ∨ W.heap.size ≤ k) ∧ Kept W W' M ∧ Below w.heap.size w W' ∧
      ((o.length ≠ 5000 ∧ e = .returned (.bool true) ∧ J false (o ++ [x]) W' M' ok') ∨ (o.length = 5000 ∧ e = .returned (.bool false) ∧ J true o W' M' ok'))
theorem kP_K {W : World} {x : List Int} {a : Int} {A : Option Addr} {c : Nat} (hc : x.length ≤ c) (h : Kd.C (Kd.int .i64) W A x.length x) : kP.K W (x, a) [.slice A x.length c, .int .i64 a] :=
  ⟨[.slice A x.length c], [.int .i64 a], rfl, ⟨A, c, rfl, hc, h⟩, rfl⟩
theorem kP_open {W : World} {x : Pth} {cs : List Value} (h : kP.K W x cs) : ∃ A c, cs = [.slice A x.1.length c, .int .i64 x.2] ∧ x.1.length ≤ c ∧ Kd.C (Kd.int .i64) W A x.1.length x.1 := by
  obtain ⟨_, _, rfl, ⟨A, c, rfl, hl, hC⟩, rfl⟩ := h
  exact ⟨A, c, rfl, hl, hC⟩
theorem reps_one {α : Type} {d : Kd α} {W : World} {ok : Nat → Prop} {x : α} {cs : List Value} (h : Kd.FK d W ok x cs) : Reps (Kd.FK d W ok) d.sz [x] cs := by
  have hl := d.K_len (Kd.FK_now h)
  refine ⟨by simpa using hl, fun j p hj => ?_⟩
  rcases j with _ | j
  · simp only [List.getElem?_cons_zero, Option.some.injEq] at hj
    subst hj
    rw [Nat.zero_mul, List.drop_zero, List.take_of_length_le (by omega)]
    exact h
  · simp at hj
theorem at_P {w : World} {base : Nat} {ok : Nat → Prop} {ad : Addr} {n cap : Nat} {xs : List Pth} (h : Kd.N kP 100 w base ok (.slice (some ad) n cap) xs) (i : Nat) (h1 : i < n) {x : List Int} {a : Int} (hx : xs.getD i ([], 0) = (x, a)) :
    ∃ A c, w.cell? (ad.add (i * 2)) = some (.slice A x.length c) ∧ w.cell? ⟨(ad.add (i * 2)).block, (ad.add (i * 2)).off + 1, none⟩ = some (.int .i64 a) ∧ x.length ≤ c ∧ Kd.F (Kd.int .i64) w ok A x.length x := by
  obtain ⟨cs, hcl, hK, hcc⟩ := Kd.N_get h ([], 0) (i : Int) (by omega) (by omega)
  simp only [Int.toNat_natCast] at hK hcc
  rw [hx] at hK
  obtain ⟨A, c, rfl, hl, hC⟩ := kP_open (Kd.FK_now hK)
  have e0 := hcc 0 _ rfl
  have e1 := hcc 1 _ rfl
  have hsz : kP.sz = 2 := rfl
  rw [hsz] at e0 e1
  refine ⟨A, c, by simpa using e0, by rw [← add_field _ _ 1 (by omega)]; exact e1, hl, ?_⟩
  refine Foot.mono (Foot.imp hK (fun W' hk => ?_)) (fun k hk => hk.1)
  obtain ⟨A', c', e, _, hC'⟩ := kP_open hk
  injection e with e _
  injection e with ea _ _
  subst ea
  exact hC'
def Lv (J : Bool → List (List Int) → World → (Nat → Prop) → (Nat → Prop) → Prop) (w : World) (T : List (List S66)) (kk : Int) (bk bg : Nat) (Ag : Option Addr) (cg : Nat) (R : List (List Int) × Bool) (kq : Nat) (n : Nat) (v4 : Value) (W : World) (lev : List Pth) (out : List (List Int)) (M : Nat → Prop) : Prop :=
  n + kq = kk.toNat + 1 ∧ lang T kq lev out = R ∧ out.length ≤ 5000 ∧ (∀ p ∈ lev, p.1.length ≤ n ∧ 0 ≤ p.2 ∧ p.2 < (T.length : Int)) ∧ J false out W M (fun _ => True) ∧ Kd.N kP 100 W w.heap.size (fun k => ¬ M k) v4 lev ∧
    Foot (GB T kk bk bg Ag cg) W (fun k => ¬ M k) ∧ Below w.heap.size w W
def Lw (J : Bool → List (List Int) → World → (Nat → Prop) → (Nat → Prop) → Prop) (w : World) (T : List (List S66)) (kk : Int) (bk bg : Nat) (Ag : Option Addr) (cg : Nat) (R : List (List Int) × List Pth × Bool) (n : Nat) (lev : List Pth) (v4 : Value) (i : Nat) (v6 : Value) (W : World) (nxt : List Pth) (out : List (List Int)) (M : Nat → Prop) : Prop :=
  i ≤ lev.length ∧ plev T (lev.drop i) out nxt = R ∧ out.length ≤ 5000 ∧ nxt.length ≤ 1000 * out.length ∧ (∀ p ∈ nxt, p.1.length ≤ n + 1 ∧ 0 ≤ p.2 ∧ p.2 < (T.length : Int)) ∧ J false out W M (fun k => some k ≠ v6.ownBlock) ∧ Kd.N kP 100 W w.heap.size (fun k => ¬ M k ∧ some k ≠ v6.ownBlock) v4 lev ∧
    Kd.N kP 100 W w.heap.size (fun k => ¬ M k) v6 nxt ∧ Foot (GB T kk bk bg Ag cg) W (fun k => ¬ M k ∧ some k ≠ v6.ownBlock) ∧ Below w.heap.size w W
def Lx (J : Bool → List (List Int) → World → (Nat → Prop) → (Nat → Prop) → Prop) (w : World) (T : List (List S66)) (kk : Int) (bk bg : Nat) (Ag : Option Addr) (cg : Nat) (lev : List Pth) (v4 : Value) (gp : Nat) (ps : List Int) (pa : Int) (Ap : Option Addr) (cp : Nat) (Ar : Option Addr) (row : List S66) (out : List (List Int)) (M : Nat → Prop) (v6 : Value) (W : World) (nxt : List Pth) : Prop :=
  J false out W M (fun k => some k ≠ v6.ownBlock ∧ k ≠ gp) ∧ Kd.N kP 100 W w.heap.size (fun k => (¬ M k ∧ some k ≠ v6.ownBlock) ∧ k ≠ gp) v4 lev ∧ Kd.N kP 100 W w.heap.size (fun k => ¬ M k ∧ k ≠ gp) v6 nxt ∧
    Kd.F (Kd.int .i64) W (fun k => (¬ M k ∧ some k ≠ v6.ownBlock) ∧ k ≠ gp) Ap ps.length ps ∧ Foot (GB T kk bk bg Ag cg) W (fun k => (¬ M k ∧ some k ≠ v6.ownBlock) ∧ k ≠ gp) ∧
    Kd.F k66 W (fun k => (¬ M k ∧ some k ≠ v6.ownBlock) ∧ k ≠ gp) Ar row.length row ∧ W.heap[gp]? = some (.cells #[.slice Ap ps.length cp, .int .i64 pa] 100 (0, 0)) ∧ ¬ M gp ∧ Below w.heap.size w W
theorem at_row {W : World} {ok : Nat → Prop} {A : Option Addr} {T : List (List S66)} (h : Kd.F (Kd.slice 66 k66) W ok A T.length T) (a : Int) (h0 : 0 ≤ a) (h1 : a < (T.length : Int)) :
    ∃ ad A0 c0, A = some ad ∧ W.cell? (ad.add a.toNat) = some (.slice A0 (rd_L66 T a).length c0) ∧ (rd_L66 T a).length ≤ c0 ∧ Kd.F k66 W ok A0 (rd_L66 T a).length (rd_L66 T a) := by
  obtain ⟨ad, cs, e, hcl, hK, hcc, _⟩ := Kd.F_get h ([] : List S66) a h0 h1
  obtain ⟨A0, c0, rfl, hl, hC⟩ := Kd.FK_now hK
  refine ⟨ad, A0, c0, e, ?_, hl, Foot.imp hK (fun W' hk => ?_)⟩
  · have := hcc 0 _ rfl
    rw [show (Kd.slice 66 k66).sz = 1 from rfl, Nat.mul_one, Nat.add_zero] at this
    exact this
  · obtain ⟨A', c', e, _, hC'⟩ := hk
    injection e with e _
    injection e with ea _ _
    subst ea
    exact hC'
theorem R_make0 {P : Program} {ops : Array Oper} {Q : Exit → Act → World → Prop} {rest : List Oper} {o : Oper} {a : Act} {w0 W : World} (base : Nat) (hgd : o.guard = none) {N' : Tmp} (hd : o.dst = some N') (t : TypeId) (x y : Operand) (ho : o.op = .makeSlice t x y) (c : Nat) (hx : a.eval x = .int .i64 0) (hy : a.eval y = .int .i64 (c : Int))
    (ht : P.underlying t = some (.slice 3)) (hinfo : (P.info? 3).map (fun i => (i.zero, i.size, i.bytes)) = some (some (.int .i64 0), 1, 8)) (hc : c ≤ 1000) (HB : Below base w0 W) (hbase : base ≤ W.heap.size)
    (h : ∀ v1 w1, (Kd.int .i64).R 3 w1 base (fun _ => True) v1 [] → Below base w0 w1 → W.grownBy w1 none → (∃ b, v1.ownBlock = some b ∧ W.heap.size ≤ b) → wpList P ops Q rest (a.put o.dst v1) w1) :
    wpList P ops Q (o :: rest) a W := by
  obtain ⟨i0, hi, hzz⟩ := Option.map_eq_some_iff.1 hinfo
  simp only [Prod.mk.injEq] at hzz
  obtain ⟨hz0, hz1, hz2⟩ := hzz
  have hr := run_make (P := P) W t 3 i0 (.int .i64 0) ht hi hz0 .i64 .i64 0 (c : Int) (by omega) (by omega) (by rw [hz2]; omega) (by omega)
  simp only [Int.toNat_natCast] at hr
  rw [hz1] at hr
  refine Kd.event_run hgd (v := .slice (some ⟨W.heap.size, 0, none⟩) 0 c) (w1 := W.alloc (.cells (madeCells (Value.int .i64 0).cells (c * 1)) 3)) ?_ (h _ _ ⟨fun _ _ => trivial, [], ?_, ?_⟩ (HB.alloc hbase _) (World.grownBy_alloc W _ none) ⟨W.heap.size, by simp [Value.ownBlock], Nat.le_refl _⟩)
  · simp [execOp, ho, hx, hy, hr]
  · refine ⟨rfl, .inr ⟨W.heap.size, c, _, rfl, hbase, blk_new W _, Nat.zero_le _, by simp [maxLen]; omega, ?_, by simp⟩⟩
    simp [madeCells]; exact (Nat.mul_one c).symm
  · exact ⟨by simp, fun j p hj => by simp at hj⟩
def seq65T : Bool × List (List Nat × List Nat) := (true, [([], []), ([], []), ([1], [1]), ([0, 2], [0, 2]), ([], []), ([4], [4]), ([5], [5]), ([3, 6, 3], [3, 6]), ([7, 7, 0, 1, 2, 3, 4, 5, 6, 7], [0, 7])])
def seq65B : List Nat := [0, 0, 2, 7, 0, 16, 48, 127, 255]
theorem seq65_tab : rtab .any (opsOf Try.f65 13) = seq65T := by kernel_rfl
theorem seq65_bits : waitsOk seq65T.2 seq65B = true := by kernel_rfl
theorem C_one {W : World} {b : Nat} {y : Int} (h : W.heap[b]? = some (.cells #[.int .i64 y] 3 (0, 0))) : Kd.C (Kd.int .i64) W (some ⟨b, 0, none⟩) 1 [y] := by
  refine ⟨rfl, by decide, fun _ => ⟨_, rfl, fun j p hj => ?_⟩⟩
  rcases j with _ | j
  · simp only [List.getElem?_cons_zero, Option.some.injEq] at hj
    subst hj
    refine ⟨[.int .i64 y], rfl, rfl, fun i u hu => ?_⟩
    rcases i with _ | i
    · simp only [List.getElem?_cons_zero, Option.some.injEq] at hu
      subst hu
      exact (blk_cell h 0).trans rfl
    · simp at hu
  · simp at hj
def Sq (base : Nat) (wr : World) (gp gx : Nat) (vp : Value) (pa u0 u1 : Int) (W : World) : Prop :=
  Below base wr W ∧ W.heap[gp]? = some (.cells #[vp, .int .i64 pa] 100 (0, 0)) ∧ W.heap[gx]? = some (.cells #[.int .i64 u0, .int .i64 u1] 66 (0, 0))
theorem Sq.held {base : Nat} {wr : World} {gp gx : Nat} {vp : Value} {pa u0 u1 : Int} {W : World} (h : Sq base wr gp gx vp pa u0 u1 W) : W.cell? ⟨gp, 0, none⟩ = some vp ∧ W.cell? ⟨gx, 0, none⟩ = some (.int .i64 u0) :=
  ⟨(blk_cell h.2.1 0).trans rfl, (blk_cell h.2.2 0).trans rfl⟩
theorem Sq.grown {base : Nat} {wr : World} {gp gx : Nat} {vp : Value} {pa u0 u1 : Int} {W W' : World} (h : Sq base wr gp gx vp pa u0 u1 W) {v : Value} {xs : List Int} {ok : Nat → Prop} (hR : (Kd.int .i64).R 3 W base ok v xs) (hg : W.grownBy W' v.ownBlock) (hB : Below base wr W') : Sq base wr gp gx vp pa u0 u1 W' :=
  ⟨hB, (hg.block _ (Array.getElem?_eq_some_iff.1 h.2.1).1 (Kd.R_ne hR h.2.1 (by decide))).trans h.2.1, (hg.block _ (Array.getElem?_eq_some_iff.1 h.2.2).1 (Kd.R_ne hR h.2.2 (by decide))).trans h.2.2⟩
theorem Sq.alloc {base : Nat} {wr : World} {gp gx : Nat} {vp : Value} {pa u0 u1 : Int} {W : World} (h : Sq base wr gp gx vp pa u0 u1 W) (hb : base ≤ W.heap.size) (o : Obj) : Sq base wr gp gx vp pa u0 u1 (W.alloc o) :=
  ⟨h.1.alloc hb o, blk_alloc h.2.1 o, blk_alloc h.2.2 o⟩
set_option maxHeartbeats 4000000 in
set_option maxRecDepth 100000 in
theorem seq65 {J : Bool → List (List Int) → World → (Nat → Prop) → (Nat → Prop) → Prop} (hJ : JOK J) (w : World) (l m : Nat) (kk : Int) (T : List (List S66)) (hT : okTab T = true) (bk bg : Nat) (Ag : Option Addr) (cg : Nat)
    (hY : YH J w l m) (W : World) (M ok okG : Nat → Prop) (h0 : J false [] W M ok) (hB : Below w.heap.size w W) (hG : Foot (GB T kk bk bg Ag cg) W okG) (hGM : ∀ k, okG k → ¬ M k) (hkk : 0 ≤ kk ∧ kk ≤ 6) :
    Calls Try.prog 65 #[.func (.yield l) #[] #[], .pointer (some ⟨bk, 0, none⟩), .pointer (some ⟨bg, 0, none⟩)] W fun e W' => (∃ v, e = .returned v) ∧ ∃ M' ok', J (lang T (kk.toNat + 1) [([], 0)] []).2 (lang T (kk.toNat + 1) [([], 0)] []).1 W' M' ok' ∧ Below w.heap.size w W' := by
  have hu100 := Try.underlying100
  have hT1 : 0 < T.length ∧ T.length ≤ 1000000 := by simp only [okTab, Bool.and_eq_true, decide_eq_true_eq] at hT; exact hT.1
  have hT2 : ∀ r ∈ T, r.length ≤ 1000 ∧ ∀ x ∈ r, 0 ≤ x.f1 ∧ x.f1 < (T.length : Int) := by
    simp only [okTab, Bool.and_eq_true, List.all_eq_true, decide_eq_true_eq] at hT
    exact hT.2
  have HT1 := Aside0.mk hT1
  have HT2 := Aside0.mk hT2
  have HJ0 := Aside0.mk h0
  have HB := Aside0.mk hB
  have HG := Aside0.mk (Foot.mono hG hGM)
  have HKK := Aside0.mk hkk
  have HY := Aside0.mk hY
  obtain ⟨R, hR⟩ : ∃ R, lang T (kk.toNat + 1) [([], 0)] [] = R := ⟨_, rfl⟩
  rw [hR]
  have HR := Aside0.mk hR
  clear h0 hB hG hGM hY hT hT1 hT2 hR
  have hM0 : ¬ M W.heap.size := fun h => by have := (hJ.mu HJ0.out _ h).2; omega
  have fk0 : Kd.FK kP W (fun _ => False) (([] : List Int), (0 : Int)) [.slice none 0 0, .int .i64 0] := fun W' _ => kP_K (Nat.le_refl 0) (Kd.C_nil _ W')
  go_enter Try.func65, Try.ntmps65
  go_wp2_with ((with_reducible refine gate_dst (N := 13) rfl ?_); refine Kd.N_lit kP w.heap.size 100 rfl (N' := 13) rfl (xs := [(([] : List Int), (0 : Int))]) (inner := [.slice none 0 0, .int .i64 0]) (okp := fun _ => False) (ok := fun k => ¬ M k) ?hr (reps_one fk0) (fun _ h => h.elim) hM0 HB.out HB.out.size (by decide) ?_; (case hr => first | (go_simp; done) | (go_simp; rfl)); rintro v4 w1 hN hB1 hg1 -; have HJ1 := Aside0.mk (hJ.mono (hJ.step (hJ.bound HJ0.out) hg1.size (fun k hk hlt => hg1.block k hlt (by simp))) (ok' := fun _ => True) (fun _ _ => trivial)); have HG1 := Aside0.mk (Foot.step HG.out (fun k hk hlt => hg1.block k hlt (by simp))); have HN := Aside0.mk hN; replace HB := Aside0.mk hB1; clear hN hB1 hg1 HJ0 HG fk0 hM0)
  go_loopg [4, 5] (kk.toNat + 1) (fun kq v4 v5 w' => ∃ (n : Nat) (lev : List Pth) (out : List (List Int)) (M : Nat → Prop), v5 = .int .i64 (n : Int) ∧ Aside0 (Lv J w T kk bk bg Ag cg R kq n v4 w' lev out M))
  case atStart => exact ⟨0, _, [], M, rfl, ⟨by omega, HR.out, by simp, (by intro p hp; rw [List.mem_singleton.1 hp]; have := HT1.out; simp; omega), HJ1.out, HN.out, HG1.out, HB.out⟩⟩
  case round =>
    clear HJ1 HN HG1 HB HR
    obtain ⟨n, lev, out, M, rfl, HL⟩ := hrel
    obtain ⟨hnk, hlang, ho, hlev, hJ1, hN, hG, hB⟩ := HL.out
    have HJ1 := Aside0.mk hJ1
    have HN := Aside0.mk hN
    have HG := Aside0.mk hG
    have HB := Aside0.mk hB
    have HLEV := Aside0.mk hlev
    have HO := Aside0.mk ho
    have HBK := Aside0.mk (Foot.now hG).1
    clear HL hJ1 hN hG hB hlev ho
    obtain ⟨hcz1, hfz1⟩ := zc1 HBK
    have hkk := HKK.out
    cases gk with
    | zero =>
      have hle : decide ((n : Int) ≤ kk) = false := decide_eq_false (by omega)
      have hR : R = (out, false) := by rw [← hlang]; rfl
      subst hR
      clear hlang hnk hkk
      go_wp2
      go_end0
      exact ⟨⟨_, rfl⟩, ⟨M, _, HJ1.out⟩, HB.out⟩
    | succ k1 =>
      have hle : decide ((n : Int) ≤ kk) = true := decide_eq_true (by omega)
      have HNK := Aside0.mk hnk
      have HLANG := Aside0.mk hlang
      clear hlang hnk hkk
      obtain ⟨A4, c4, rfl⟩ := Kd.N_slice HN.out
      go_wp2
      go_loopg [6, 21] lev.length (fun kq v6 v21 w' => ∃ (i : Nat) (nxt : List Pth) (out' : List (List Int)) (M : Nat → Prop), v21 = .int .i64 (i : Int) ∧ Aside0 (i + kq = lev.length) ∧ Aside0 (Lw J w T kk bk bg Ag cg (plev T lev out []) n lev (.slice A4 lev.length c4) i v6 w' nxt out' M))
      case atStart => exact ⟨0, [], out, M, rfl, ⟨by omega⟩, ⟨by omega, by rw [List.drop_zero], HO.out, by simp, (fun p hp => by cases hp), hJ.mono HJ1.out (fun _ _ => by simp [Value.ownBlock]), Kd.N_mono HN.out (fun k hk => ⟨hk, by simp [Value.ownBlock]⟩), Kd.N_nil _ _ _ _ _, Foot.mono HG.out (fun k hk => ⟨hk, by simp [Value.ownBlock]⟩), HB.out⟩⟩
      case round =>
        clear hcz1 hfz1 hle HBK HJ1 HN HG HB HO
        obtain ⟨i, nxt, out2, M2, rfl, HI, HL⟩ := hrel
        obtain ⟨hi, hplev, ho, hnl, hnx, hJ1, hN, hNx, hG, hB⟩ := HL.out
        have HJ1 := Aside0.mk hJ1
        have HN := Aside0.mk hN
        have HNX := Aside0.mk hNx
        have HG := Aside0.mk hG
        have HB := Aside0.mk hB
        have HX := Aside0.mk hnx
        have HO := Aside0.mk ho
        have HNL := Aside0.mk hnl
        clear HL hJ1 hN hNx hG hB hnx ho hnl
        cases gk with
        | zero =>
          have hc : decide ((i : Int) < (lev.length : Int)) = false := decide_eq_false (by have := HI.out; omega)
          have hil : i = lev.length := by have := HI.out; omega
          subst hil
          rw [List.drop_length] at hplev
          have hlang := HLANG.out
          rw [lang, ← hplev] at hlang
          simp only [plev, Bool.false_eq_true, if_false] at hlang
          have HLANG2 := Aside0.mk hlang
          clear hlang hplev HLANG
          go_wp2
          go_roundg k1
          case measure => omega
          case rel =>
            refine ⟨n + 1, nxt, out2, M2, ?_, ⟨by have := HNK.out; omega, HLANG2.out, HO.out, HX.out, hJ.mono HJ1.out (fun _ _ => trivial), HNX.out, Foot.mono HG.out (fun k hk => hk.1), HB.out⟩⟩
            first | rfl | (have := HNK.out; have := HKK.out; simp; unfold wrap64; omega)
        | succ k2 =>
          have hc : decide ((i : Int) < (lev.length : Int)) = true := decide_eq_true (by have := HI.out; omega)
          have hil : i < lev.length := by have := HI.out; omega
          have HLL := Aside0.mk (Kd.N_reads' HN.out).2.2.2.1
          obtain ⟨ad4, rfl, _⟩ := (Kd.N_reads' HN.out).2.2.2.2 (by omega)
          have p1 : (0 ≤ (i : Int)) = True := eq_true (by omega)
          have q1 : ((i : Int) < (lev.length : Int)) = True := eq_true (by omega)
          obtain ⟨ps, pa, hp⟩ : ∃ ps pa, lev.getD i ([], 0) = (ps, pa) := ⟨_, _, rfl⟩
          have hmem : (ps, pa) ∈ lev := by rw [← hp, List.getD_eq_getElem?_getD, List.getElem?_eq_getElem hil]; exact List.getElem_mem hil
          have hps := HLEV.out _ hmem
          have hdrop : lev.drop i = (ps, pa) :: lev.drop (i + 1) := by
            rw [List.drop_eq_getElem_cons hil, ← hp, List.getD_eq_getElem?_getD, List.getElem?_eq_getElem hil]; rfl
          rw [hdrop] at hplev
          have HPL := Aside0.mk hplev
          have HPS := Aside0.mk hps
          obtain ⟨Ap, cp, hx0, hx1, hpc, hF⟩ := at_P HN.out i hil hp
          have HF := Aside0.mk hF
          have HPC := Aside0.mk hpc
          clear hF hpc hplev hdrop hmem hps hp
          go_upto_region 8 with fail
          clear hx0 hx1 hc p1 q1
          obtain ⟨W2, hW2⟩ : ∃ W2, wr.alloc (.cells #[.slice Ap ps.length cp, .int .i64 pa] 100) = W2 := ⟨_, rfl⟩
          have hb2 : Below wr.heap.size wr W2 := hW2 ▸ below_alloc (Below.refl _ _) _
          have hgp : W2.heap[wr.heap.size]? = some (.cells #[.slice Ap ps.length cp, .int .i64 pa] 100 (0, 0)) := hW2 ▸ blk_new wr _
          rw [hW2]
          clear hW2
          have keep2 : ∀ {p : Nat → Prop} k, p k ∧ k < wr.heap.size → k < wr.heap.size → W2.heap[k]? = wr.heap[k]? := fun k _ hk => hb2.block k hk
          have hJ2 := hJ.step (hJ.bound HJ1.out) hb2.size keep2
          have hN2 := Kd.N_step (Kd.N_bound HN.out) keep2
          have hX2 := Kd.N_step (Kd.N_bound HNX.out) keep2
          have hF2 := Kd.F_step (Kd.F_bound HF.out) keep2
          have hG2 := Foot.step (Foot.bound HG.out) keep2
          have hB2 : Below w.heap.size w W2 := below_then HB.out HB.out.size hb2
          obtain ⟨fn, tmps, assign, body, hy, hYR⟩ := HY.out out2 W2 M2 _ _ ps Ap cp HO.out hJ2 hB2 hF2 HPC.out (fun k hk hk2 => hk2.1.1 hk)
          obtain ⟨hcz0, hcz1, hfz0, hfz1⟩ := zc2 (Aside0.mk hgp)
          have HJ2 := Aside0.mk hJ2
          have HN2 := Aside0.mk hN2
          have HX2 := Aside0.mk hX2
          have HF2 := Aside0.mk hF2
          have HG2 := Aside0.mk hG2
          have HYR := Aside0.mk hYR
          have HGP := Aside0.mk hgp
          have HB2 := Aside0.mk hb2
          clear hJ2 hN2 hX2 hF2 hG2 hB2 hYR hgp hb2 keep2 HJ1 HN HNX HF HG HB
          refine (wpIn_wide (n := m + 1)).mp ?_
          gi_wp2
          refine HYR.out.mono ?_
          clear HYR
          rintro e W3 ⟨M3, ok3, hM3, hok3, hkept, hB3, (⟨ho3, rfl, hJ3⟩ | ⟨ho3, rfl, hJ3⟩)⟩
          rotate_left
          · have hlang := HLANG.out
            rw [lang, ← HPL.out] at hlang
            simp only [plev, ho3, if_true] at hlang
            subst hlang
            clear HLANG HPL hcz0 hcz1 hfz0 hfz1 hkept hM3 hok3 hy
            gi_wp2
            (try go_wp2)
            (try simp only [Exit.inBlock, Exit.then])
            refine bodyPost_ret (results_none rfl _ _ _) rfl ?_
            exact ⟨⟨_, rfl⟩, ⟨M3, _, hJ3⟩, hB3⟩
          obtain ⟨gp, hgp⟩ : ∃ g, wr.heap.size = g := ⟨_, rfl⟩
          have hsz2 : gp < W2.heap.size := by rw [← hgp]; exact (Array.getElem?_eq_some_iff.1 HGP.out).1
          have hM2 : ∀ k, M2 k → k < gp := fun k hk => by have := (hJ.mu HJ2.out k hk).1.2; omega
          have hu6 : ∀ k, u6.ownBlock = some k → k < W2.heap.size := Kd.N_lt HX2.out
          have hnM3 : ∀ k, ¬ M2 k → k < gp → ¬ M3 k := fun k h1 h2 h3 => by
            rcases hM3 k h3 with h | h
            · exact h1 h
            · omega
          have hJ4 : J false (out2 ++ [ps]) W3 M3 (fun k => some k ≠ u6.ownBlock ∧ k ≠ gp) := hJ.mono hJ3 (fun k hk => by
            rcases hok3 k hk with h | h | h
            · exact ⟨h.1, by have := h.2; omega⟩
            · exact ⟨h.1.2, by have := h.2; omega⟩
            · exact ⟨fun e => by have := hu6 k e.symm; omega, by omega⟩)
          have wk : ∀ {p : Nat → Prop} k, (¬ M2 k ∧ p k) ∧ k < wr.heap.size → (¬ M3 k ∧ p k) ∧ k ≠ gp := fun k hk => ⟨⟨hnM3 k hk.1.1 (by have := hk.2; omega), hk.1.2⟩, by have := hk.2; omega⟩
          have hN4 := Kd.N_mono (Kd.N_kept HN2.out hkept (fun k hk => hk.1.1)) (wk (p := fun k => some k ≠ u6.ownBlock))
          have hX4 : Kd.N kP 100 W3 w.heap.size (fun k => ¬ M3 k ∧ k ≠ gp) u6 nxt := Kd.N_mono (Kd.N_kept HX2.out hkept (fun k hk => hk.1)) (fun k hk => ⟨hnM3 k hk.1 (by have := hk.2; omega), by have := hk.2; omega⟩)
          have hF4 := Kd.F_mono (Kd.F_kept HF2.out hkept (fun k hk => hk.1.1)) (wk (p := fun k => some k ≠ u6.ownBlock))
          have hG4 := Foot.mono (Foot.step HG2.out (fun k hk hlt => hkept.2 k hlt (fun h => hk.1.1 h))) (wk (p := fun k => some k ≠ u6.ownBlock))
          have hgp4 : W3.heap[gp]? = some (.cells #[.slice Ap ps.length cp, .int .i64 pa] 100 (0, 0)) := by
            rw [hkept.2 gp hsz2 (fun h => by have := hM2 gp h; omega), ← hgp]; exact HGP.out
          have hMgp : ¬ M3 gp := fun h => by
            rcases hM3 gp h with h | h
            · have := hM2 gp h; omega
            · omega
          obtain ⟨adg, Ar, cr, hAg, hcr, hlr, hFr⟩ := at_row (Foot.imp hG4 (fun _ h => h.2.2)) pa HPS.out.2.1 HPS.out.2.2
          have hrow : (rd_L66 T pa).length ≤ 1000 ∧ ∀ x ∈ rd_L66 T pa, 0 ≤ x.f1 ∧ x.f1 < (T.length : Int) := by
            have : pa.toNat < T.length := by have := HPS.out.2; omega
            refine HT2.out _ ?_
            unfold rd_L66
            rw [List.getD_eq_getElem?_getD, List.getElem?_eq_getElem this]
            exact List.getElem_mem this
          have hpl := HPL.out
          rw [plev, if_neg ho3] at hpl
          obtain ⟨row, hrw⟩ : ∃ row, rd_L66 T pa = row := ⟨_, rfl⟩
          rw [hrw] at hcr hlr hFr hrow hpl
          have HPL2 := Aside0.mk hpl
          have HROW := Aside0.mk hrow
          have HLR := Aside0.mk hlr
          have HO3 := Aside0.mk ho3
          subst hAg
          have hbg := (Foot.now hG4).2.1
          have HX0 : Aside0 (Lx J w T kk bk bg (some adg) cg lev (.slice (some ad4) lev.length c4) gp ps pa Ap cp Ar row (out2 ++ [ps]) M3 u6 W3 nxt) := ⟨hJ4, hN4, hX4, hF4, hG4, hFr, hgp4, hMgp, hB3⟩
          obtain ⟨hcz0, hcz1, hfz0, hfz1⟩ := zc2 (Aside0.mk hgp4)
          obtain ⟨hcz2, hfz2⟩ := zc1 (Aside0.mk hbg)
          have p2 : (0 ≤ pa) = True := eq_true HPS.out.2.1
          have q2 : (pa < (T.length : Int)) = True := eq_true HPS.out.2.2
          rw [hgp]
          clear hJ4 hN4 hX4 hF4 hG4 hFr hgp4 hMgp hB3 hbg HJ2 HN2 HX2 HF2 HG2 HGP HB2 hkept hok3 hM3 hM2 hu6 hnM3 wk hJ3 hsz2 hlr hrow hpl ho3 HPL hy hrw hgp
          gi_wp2
          go_wp2
          go_loopg [6, 36] row.length (fun kq v6 v36 w' => ∃ (j : Nat), v36 = .int .i64 (j : Int) ∧ Aside0 (j + kq = row.length) ∧ Aside0 (Lx J w T kk bk bg (some adg) cg lev (.slice (some ad4) lev.length c4) gp ps pa Ap cp Ar row (out2 ++ [ps]) M3 v6 w' (nxt ++ (row.take j).map (fun x => (ps ++ [x.f0], x.f1)))))
          case atStart => exact ⟨0, rfl, ⟨by omega⟩, by rw [List.take_zero, List.map_nil, List.append_nil]; exact HX0⟩
          case round =>
            clear HX0 hcz0 hcz1 hfz0 hfz1 hcz2 hfz2 p2 q2 hcr
            obtain ⟨j, rfl, HJI, HLX⟩ := hrel
            cases gk with
            | zero =>
              have hjl : j = row.length := by have := HJI.out; omega
              subst hjl
              have hc : decide ((row.length : Int) < (row.length : Int)) = false := decide_eq_false (by omega)
              obtain ⟨kJ, kN, kX, kF, kG, kR, kgp, kM, kB⟩ := HLX.out
              rw [List.take_length] at kX
              have KJ := Aside0.mk kJ
              have KN := Aside0.mk kN
              have KX := Aside0.mk kX
              have KG := Aside0.mk kG
              have KB := Aside0.mk kB
              clear HLX kJ kN kX kF kG kR kgp kM kB
              go_wp2
              go_roundg k2
              case measure => omega
              case rel =>
                refine ⟨i + 1, _, out2 ++ [ps], M3, ?_, ⟨by have := HI.out; omega⟩, ⟨by omega, HPL2.out, by have := HO.out; have := HO3.out; simp; omega, ?_, ?_, hJ.mono KJ.out (fun k hk => hk.1), Kd.N_mono KN.out (fun k hk => hk.1), Kd.N_mono KX.out (fun k hk => hk.1), Foot.mono KG.out (fun k hk => hk.1), KB.out⟩⟩
                · first | rfl | (simp; done) | (have := HI.out; have := HLL.out; simp; unfold wrap64; omega)
                · have := HNL.out; have := HROW.out.1; simp; omega
                · intro p hp
                  rcases List.mem_append.1 hp with hp | hp
                  · exact HX.out p hp
                  · obtain ⟨x, hx, rfl⟩ := List.mem_map.1 hp
                    have := HPS.out.1
                    have := HROW.out.2 x hx
                    simp; omega
            | succ k3 =>
              have hjl : j < row.length := by have := HJI.out; omega
              have hc : decide ((j : Int) < (row.length : Int)) = true := decide_eq_true (by omega)
              obtain ⟨kJ, kN, kX, kF, kG, kR, kgp, kM, kB⟩ := HLX.out
              obtain ⟨adr, eAr, hx0, hx1⟩ := at_T66 (Kd.F_now kR) (j : Int) (by omega) (by omega)
              have kgl := (Array.getElem?_eq_some_iff.1 kgp).1
              have KGP := Aside0.mk kgp
              subst eAr
              have p3 : (0 ≤ (j : Int)) = True := eq_true (by omega)
              have q3 : ((j : Int) < (row.length : Int)) = True := eq_true (by omega)
              obtain ⟨x, hx⟩ : ∃ x, rd_T66 row (j : Int) = x := ⟨_, rfl⟩
              rw [hx] at hx0 hx1
              simp only [Int.toNat_natCast] at hx0 hx1
              clear kJ kN kX kF kG kR kgp kM kB
              go_upto_region 12 with fail
              clear hx0 hx1 p3 q3 hc
              obtain ⟨W4, hW4⟩ : ∃ W4, wr.alloc (.cells #[.int .i64 x.f0, .int .i64 x.f1] 66) = W4 := ⟨_, rfl⟩
              have hb4 : Below wr.heap.size wr W4 := hW4 ▸ below_alloc (Below.refl _ _) _
              have hgx : W4.heap[wr.heap.size]? = some (.cells #[.int .i64 x.f0, .int .i64 x.f1] 66 (0, 0)) := hW4 ▸ blk_new wr _
              have hgp4 : W4.heap[gp]? = some (.cells #[.slice Ap ps.length cp, .int .i64 pa] 100 (0, 0)) := (hb4.block gp kgl).trans KGP.out
              rw [hW4]
              clear hW4 KGP
              have HB4 := Aside0.mk hb4
              have HGX := Aside0.mk hgx
              have HGP4 := Aside0.mk hgp4
              obtain ⟨hcz0, hcz1, hfz0, hfz1⟩ := zc2 HGP4
              have hpl : ps.length ≤ 7 := by have := HPS.out.1; have := HNK.out; have := HKK.out; omega
              have hlen : wrap64 ((ps.length : Int) + 1) = ((ps.length + 1 : Nat) : Int) := by unfold wrap64; omega
              clear hb4 hgx hgp4
              go_wp2_with ((with_reducible refine gate_dst (N := 44) rfl ?_); refine R_make0 (w0 := wr) wr.heap.size rfl (N' := 44) rfl 28 (.const (.int .i64 0)) (.tmp 43) rfl (ps.length + 1) rfl ?hy Try.underlying28 info3 (by omega) HB4.out HB4.out.size ?_; (case hy => first | (go_simp; done) | (simp [hlen]; done) | rfl); rintro v11 W5 hR5 hB5 hg5 -; have HR5 := Aside0.mk hR5; have HGX5 := Aside0.mk ((hg5.block _ (Array.getElem?_eq_some_iff.1 HGX.out).1 (by simp)).trans HGX.out); have HGP5 := Aside0.mk ((hg5.block _ (Array.getElem?_eq_some_iff.1 HGP4.out).1 (by simp)).trans HGP4.out); have HB5 := Aside0.mk hB5; clear hR5 hB5 hg5 HGX HGP4 HB4 hcz0 hcz1 hfz0 hfz1)
              go_upto_region 13 with fail
              obtain ⟨kJ, kN, kX, kF, kG, kR, kgp, kM, kB⟩ := HLX.out
              have HSQ : Aside0 (Sq wr.heap.size wr gp wr.heap.size (.slice Ap ps.length cp) pa x.f0 x.f1 W5) := ⟨HB5.out, HGP5.out, HGX5.out⟩
              have hCp : ∀ W', Below wr.heap.size wr W' → Kd.C (Kd.int .i64) W' Ap ps.length ps := fun W' hb => Kd.F_now (Kd.F_step kF (fun k _ hlt => hb.block k hlt))
              have HCP := Aside0.mk hCp
              clear kJ kN kX kF kG kR kgp kM kB hCp HGX5 HGP5 HB5
              refine sS2 9 [] rfl seq65_tab seq65_bits HSQ.out.held (fun hHeld HT_ HW_ => ?_)
              have HR6 := Aside0.mk (Kd.R_drew HR5.out)
              have HSQ6 : Aside0 (Sq wr.heap.size wr gp wr.heap.size (.slice Ap ps.length cp) pa x.f0 x.f1 W5.drew) := ⟨below_drew1 HSQ.out.1, blk_drew HSQ.out.2.1, blk_drew HSQ.out.2.2⟩
              clear HR5 HSQ
              generalize W5.drew = W6 at HR6 HSQ6 hHeld ⊢
              refine sP 0 45 HT_ rfl rfl ?_
              refine sP 1 46 HT_ rfl rfl ?_
              refine sT 2 47 HT_ HW_ rfl rfl hHeld ?_
              refine sP 4 49 HT_ rfl rfl ?_
              refine sT 5 50 HT_ HW_ rfl rfl hHeld ?_
              refine join_ (σ := Value × Value) 2 (Q.bk 9 127) (fun s => [(48, s.1), (51, s.2)]) (fun s W' => Sq wr.heap.size wr gp wr.heap.size (.slice Ap ps.length cp) pa x.f0 x.f1 W' ∧ (Kd.int .i64).R 3 W' wr.heap.size (fun _ => True) s.1 ps ∧ ∃ b, s.2 = .slice (some ⟨b, 0, none⟩) 1 1 ∧ W'.heap[b]? = some (.cells #[.int .i64 x.f0] 3 (0, 0)) ∧ some b ≠ s.1.ownBlock) ?cont ?fork
              case fork =>
                intro hCont
                refine two_ (i := 3) (j := 6) (Ni := some 48) (Nj := some 51) (Q.bk 9 63) (Q.bk 9 119) rfl rfl rfl rfl (two_of HT_.out (by kernel_rfl)) (by decide) (by decide) (fun K hK => ?_) (fun K hK => ?_)
                · refine Kd.R_append_rows_step (Kd.int .i64) (Rr := (Kd.int .i64).K W6) (w0 := wr) wr.heap.size (by rfl) (.tmp 45) (.tmp 47) 28 3 (.int .i64 0) 8 rfl Try.underlying28 info3 rfl (by decide) (by decide) v11 [] ps Ap ps.length cp (fun _ => True) (fun _ => False) rfl rfl HR6.out (HCP.out _ HSQ6.out.1) (fun _ _ h => h) (fun _ h => h.elim) (fun _ _ => trivial) HSQ6.out.1 HSQ6.out.1.size (by simp; omega) ?_
                  intro v48 W7 hR7 hB7 hg7 hat7
                  have hS7 := HSQ6.out.grown HR6.out hg7 hB7
                  refine hK.out _ _ hS7.held (fun _ => ?_)
                  refine one_ (i := 6) (N := some 51) (Q.bk 9 127) rfl rfl (one_of HT_.out (by kernel_rfl)) (by decide) (fun K2 hK2 => ?_)
                  refine event_step (v := .slice (some ⟨W7.heap.size, 0, none⟩) 1 1) (w1 := W7.alloc (.cells #[.int .i64 x.f0] 3)) (by rfl) (by first | (go_simp; done) | (go_simp; rfl)) ?_
                  have hS8 := hS7.alloc hB7.size (.cells #[.int .i64 x.f0] 3)
                  refine hK2.out _ _ hS8.held (fun _ => ?_)
                  exact norm_ (by first | rfl | (simp only [putAll, tS]; done) | (simp only [putAll, tS]; rfl) | (simp only [putAll, tS, i64_w]; rfl)) (hCont (v48, .slice (some ⟨W7.heap.size, 0, none⟩) 1 1) _ ⟨hS8, Kd.R_alloc (by simpa using hR7) _, _, rfl, blk_new W7 _, fun e => by have := Kd.R_lt hR7 _ e.symm; omega⟩)
                · refine event_step (v := .slice (some ⟨W6.heap.size, 0, none⟩) 1 1) (w1 := W6.alloc (.cells #[.int .i64 x.f0] 3)) (by rfl) (by first | (go_simp; done) | (go_simp; rfl)) ?_
                  have hS7 := HSQ6.out.alloc HSQ6.out.1.size (.cells #[.int .i64 x.f0] 3)
                  have hR7 := Kd.R_alloc HR6.out (.cells #[.int .i64 x.f0] 3)
                  have hb7 : (W6.alloc (.cells #[.int .i64 x.f0] 3)).heap[W6.heap.size]? = some (.cells #[.int .i64 x.f0] 3 (0, 0)) := blk_new W6 _
                  have hne7 : some W6.heap.size ≠ v11.ownBlock := fun e => by have := Kd.R_lt HR6.out _ e.symm; omega
                  have hsz7 : W6.heap.size < (W6.alloc (.cells #[.int .i64 x.f0] 3)).heap.size := by simp
                  generalize W6.alloc (.cells #[.int .i64 x.f0] 3) = W7 at hS7 hR7 hb7 hsz7 ⊢
                  refine hK.out _ _ hS7.held (fun _ => ?_)
                  refine one_ (i := 3) (N := some 48) (Q.bk 9 127) rfl rfl (one_of HT_.out (by kernel_rfl)) (by decide) (fun K2 hK2 => ?_)
                  refine Kd.R_append_rows_step (Kd.int .i64) (Rr := (Kd.int .i64).K W7) (w0 := wr) wr.heap.size (by rfl) (.tmp 45) (.tmp 47) 28 3 (.int .i64 0) 8 rfl Try.underlying28 info3 rfl (by decide) (by decide) v11 [] ps Ap ps.length cp (fun _ => True) (fun _ => False) rfl rfl hR7 (HCP.out _ hS7.1) (fun _ _ h => h) (fun _ h => h.elim) (fun _ _ => trivial) hS7.1 hS7.1.size (by simp; omega) ?_
                  intro v48 W8 hR8 hB8 hg8 hat8
                  have hS8 := hS7.grown hR7 hg8 hB8
                  refine hK2.out _ _ hS8.held (fun _ => ?_)
                  exact norm_ (by first | rfl | (simp only [putAll, tS]; done) | (simp only [putAll, tS]; rfl) | (simp only [putAll, tS, i64_w]; rfl)) (hCont (v48, .slice (some ⟨W6.heap.size, 0, none⟩) 1 1) _ ⟨hS8, by simpa using hR8, _, rfl, (hg8.block _ hsz7 hne7).trans hb7, fun e => by
                    rcases hat8 with h | ⟨b, h, hle⟩
                    · rw [h] at e; exact hne7 e
                    · rw [h] at e; injection e with e; omega⟩)
              case cont =>
                rintro ⟨v48, v51⟩ W9 ⟨hS9, hR9, b, rfl, hb9, hnb⟩
                refine norm_ (a' := ?_) ?_ ?_
                rotate_left
                · simp only [putAll, Act.put, List.setIfInBounds_toArray, List.set_cons_zero, List.set_cons_succ]
                  rfl
                refine one_ (i := 7) (N := some 52) (Q.bk 9 255) rfl rfl (one_of HT_.out (by kernel_rfl)) (by decide) (fun K hK => ?_)
                refine Kd.R_append_rows_step (Kd.int .i64) (Rr := (Kd.int .i64).K W9) (w0 := wr) wr.heap.size (by rfl) (.tmp 48) (.tmp 51) 28 3 (.int .i64 0) 8 rfl Try.underlying28 info3 rfl (by decide) (by decide) v48 ps [x.f0] (some ⟨b, 0, none⟩) 1 1 (fun _ => True) (fun _ => False) rfl rfl hR9 (C_one hb9) (fun _ _ h => h) (fun _ h => h.elim) (fun _ _ => trivial) hS9.1 hS9.1.size (by omega) ?_
                intro v52 W10 hR10 hB10 hg10 hat10
                have HS10 := Aside0.mk (hS9.grown hR9 hg10 hB10)
                obtain ⟨sq, hsq⟩ : ∃ sq, ps ++ [x.f0] = sq := ⟨_, rfl⟩
                rw [hsq] at hR10
                obtain ⟨As, cs, rfl⟩ := Kd.R_slice hR10
                have HR10 := Aside0.mk hR10
                clear hS9 hR9 hb9 hnb hR10 hB10 hg10 hat10
                refine hK.out _ _ HS10.out.held (fun hHeld => ?_)
                clear hK K
                refine sN 52 ?_
                refine pure_ (i := 8) (N := some 11) (v := ?_) (a' := ?_) (Q.bk 9 511) rfl rfl (any_of HT_.out (by kernel_rfl)) (fun _ _ _ h => h) (Or.inl ⟨by rfl, ?_⟩) ?_ ?_
                rotate_left
                · intro w'
                  go_simp
                  with_reducible rfl
                rotate_left
                · simp only [tS, i64_w, i32_w]
                  rfl
                refine sD HT_ ?_
                obtain ⟨kJ, kN, kX, kF, kG, kR, kgp, kM, kB⟩ := HLX.out
                have hS := HS10.out
                have hMw : ∀ k, M3 k → k < wr.heap.size := fun k hk => (hJ.mu kJ k hk).2
                have hgl : gp < wr.heap.size := (Array.getElem?_eq_some_iff.1 kgp).1
                have hul : ∀ k, u6.ownBlock = some k → k < wr.heap.size := Kd.N_lt kX
                have hX10 := Kd.N_step kX (fun k _ hlt => hS.1.block k hlt)
                have hB10 := below_then kB kB.size hS.1
                have hsc := (Kd.R_reads' HR10.out).2.1
                have hfk : Kd.FK kP W10 (fun k => wr.heap.size ≤ k) (sq, x.f1) [.slice As sq.length cs, .int .i64 x.f1] :=
                  Foot.imp (Kd.R_F (Kd.R_mono (Kd.R_bound HR10.out) (fun k hk => hk.2.1))) (fun W' h => kP_K hsc h)
                have hokp : ∀ k, wr.heap.size ≤ k → (¬ M3 k ∧ k ≠ gp) ∧ some k ≠ u6.ownBlock := fun k hk => ⟨⟨fun h => by have := hMw k h; omega, by omega⟩, fun e => by have := hul k e.symm; omega⟩
                have hfr : ∀ k, W10.heap.size ≤ k → ¬ M3 k ∧ k ≠ gp := fun k hk => (hokp k (by have := hS.1.size; omega)).1
                have hll : ((nxt ++ (row.take j).map (fun x => (ps ++ [x.f0], x.f1))).length + 1) * 32 ≤ 140737488355328 := by
                  have := HNL.out; have := HO.out; have := HROW.out.1; simp; omega
                obtain ⟨hcz0, hcz1, hfz0, hfz1⟩ := zc2 (Aside0.mk hS.2.2)
                have HKJ := Aside0.mk kJ
                have HKN := Aside0.mk kN
                have HKX := Aside0.mk kX
                have HKF := Aside0.mk kF
                have HKG := Aside0.mk kG
                have HKR := Aside0.mk kR
                have HKP := Aside0.mk kgp
                have HKM := Aside0.mk kM
                have HHS := Aside0.mk hS
                clear kJ kN kX kF kG kR kgp kM kB hS HLX HS10 HSQ6 HR6 hHeld HT_ HW_
                go_wp2_with ((with_reducible refine gate_builtin (b := .append) (xs := #[.tmp 53, .tmp 58]) rfl ?_); at_builtin; refine Kd.N_append kP (w0 := w) w.heap.size rfl (.tmp 53) (.tmp 58) 101 100 (.agg #[.slice none 0 0, .int .i64 0]) 32 rfl Try.underlying101 info100 rfl (by decide) (by decide) u6 (nxt ++ (row.take j).map (fun x => (ps ++ [x.f0], x.f1))) (sq, x.f1) [.slice As sq.length cs, .int .i64 x.f1] (fun k => ¬ M3 k ∧ k ≠ gp) (fun k => wr.heap.size ≤ k) rfl rfl hfk hokp hfr hX10 hB10 hB10.size hll ?_; intro v7 W11 hN' hB' hg' hat'; have HN' := Aside0.mk hN'; have HB' := Aside0.mk hB'; have HG' := Aside0.mk hg'; have HAT' := Aside0.mk hat'; clear hN' hB' hg' hat' hfk hX10 hB10)
                go_roundg k3
                case measure => omega
                case rel =>
                  have hst : ∀ k, k < wr.heap.size → some k ≠ u6.ownBlock → W11.heap[k]? = wr.heap[k]? ∧ some k ≠ v7.ownBlock := fun k hk hne =>
                    ⟨(HG'.out.block k (by have := HHS.out.1.size; omega) hne).trans (HHS.out.1.block k hk), by
                      rcases HAT'.out with h | ⟨b, h, hle⟩
                      · rw [h]; exact hne
                      · rw [h]; intro e; injection e with e; have := HHS.out.1.size; omega⟩
                  have hsz : wr.heap.size ≤ W11.heap.size := Nat.le_trans HHS.out.1.size HG'.out.size
                  have hxr : row[j] = x := by rw [← hx]; simp [rd_T66, hjl]
                  refine ⟨j + 1, ?_, ⟨by have := HJI.out; omega⟩, ⟨hJ.mono (hJ.step (hJ.bound HKJ.out) hsz (fun k hk _ => (hst k hk.2 hk.1.1).1)) (fun k hk => ⟨(hst k hk.2 hk.1.1).2, hk.1.2⟩), ?_, ?_, ?_, ?_, ?_, (hst gp hgl (Kd.N_away HKX.out (fun k hk => hk.2))).1.trans HKP.out, HKM.out, HB'.out⟩⟩
                  · first | rfl | (have := HROW.out.1; simp; unfold wrap64; omega)
                  · exact Kd.N_mono (Kd.N_step (Kd.N_bound HKN.out) (fun k hk _ => (hst k hk.2 hk.1.1.2).1)) (fun k hk => ⟨⟨hk.1.1.1, (hst k hk.2 hk.1.1.2).2⟩, hk.1.2⟩)
                  · rw [List.take_succ_eq_append_getElem hjl, List.map_append, ← List.append_assoc, List.map_singleton, hxr, hsq]
                    exact HN'.out
                  · exact Kd.F_mono (Kd.F_step (Kd.F_bound HKF.out) (fun k hk _ => (hst k hk.2 hk.1.1.2).1)) (fun k hk => ⟨⟨hk.1.1.1, (hst k hk.2 hk.1.1.2).2⟩, hk.1.2⟩)
                  · exact Foot.mono (Foot.step (Foot.bound HKG.out) (fun k hk _ => (hst k hk.2 hk.1.1.2).1)) (fun k hk => ⟨⟨hk.1.1.1, (hst k hk.2 hk.1.1.2).2⟩, hk.1.2⟩)
                  · exact Kd.F_mono (Kd.F_step (Kd.F_bound HKR.out) (fun k hk _ => (hst k hk.2 hk.1.1.2).1)) (fun k hk => ⟨⟨hk.1.1.1, (hst k hk.2 hk.1.1.2).2⟩, hk.1.2⟩)
end Go.Proofs.Ytfnjbgggmddgpaa.Q
end
