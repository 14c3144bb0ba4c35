/- Part 6 of a proof: Dl. Words and walks that a program printed for this claim stand here without what the claim does not use. -/
import Derived.KernelRfl
import Derived.Test.YtficdonjodadlaaProg
import Derived.RangeFuncNested
import Derived.RangeFuncLeaves
import Derived.OwnWalkIn
import Derived.TacticsInMore
import Derived.LoopNIn
import Derived.LoopIn
import Derived.RegionIn
import Derived.Sort.WalkA
import Derived.IntWalk
import Derived.OrdersIn
import Derived.TacticsIn
import Derived.RangeFuncCalls
import Derived.Test.YtficdonjodadlaaDl3
import Derived.Test.YtficdonjodadlaaDl5
set_option linter.unusedSimpArgs false
set_option linter.unusedVariables false
section
set_option linter.unusedVariables false
namespace Go.Ev
def outs (n b : IV) (i : Int) : List IV := tgs (fld (el (asL (fld n 2)) (asI (fld (el (asL (fld b 1)) i) 0))) 2) (asL (fld (el (asL (fld n 2)) (asI (fld (el (asL (fld b 1)) i) 0))) 2)).length
def poS (n b : IV) (i next : Int) (_ : Unit) (m : Nat) : Stp Unit Bool :=
  if asI ((asL (fld (el (asL (fld b 1)) i) 2)).getD m .N) = next + (m : Int) then
    if ((asL (fld b 0)).length : Int) ≤ asI ((asL (fld (el (asL (fld b 1)) i) 2)).getD m .N) then .ret true
    else if (decide (asI (fld (el (asL (fld b 0)) (asI ((asL (fld (el (asL (fld b 1)) i) 2)).getD m .N))) 0) = asI ((outs n b i).getD m .N)) && decide (asI (fld (el (asL (fld b 0)) (asI ((asL (fld (el (asL (fld b 1)) i) 2)).getD m .N))) 1) = i)) = true then .next () else .ret true
  else .ret true
def PO (n b : IV) (i next : Int) : Int := if (asL (fld (el (asL (fld b 1)) i) 2)).length = (outs n b i).length then (match foldS (poS n b i next) () (List.range (asL (fld (el (asL (fld b 1)) i) 2)).length) with | .ret _ => 7 | _ => 0) else 7
end Go.Ev
end
section
set_option linter.unusedSimpArgs false
set_option linter.unusedVariables false
set_option maxRecDepth 100000
set_option maxHeartbeats 4000000
namespace Go.Proofs.Ytficdonjodadlaa
open Go.Ev Go.Proofs
theorem AU_initial {p : Prop} (h : p := by
  repeat' (first | (with_reducible refine condLt (fun h h' => ?_) (fun h h' => ?_)) | (with_reducible refine condLe (fun h h' => ?_) (fun h h' => ?_)) | (with_reducible refine dop_val ?_) | (with_reducible refine YsLt (fun h h' => ?_) (fun h h' => ?_)) | (with_reducible refine YsLe (fun h h' => ?_) (fun h h' => ?_)) | (with_reducible refine condP (fun h => ?_) (fun h => ?_)) | (with_reducible refine condN (fun h => ?_) (fun h => ?_)) | (with_reducible refine condB (fun h => ?_) (fun h => ?_)) | (with_reducible refine condR (fun h => ?_) (fun h => ?_)) | (with_reducible refine YsB (fun h => ?_) (fun h => ?_)) | (with_reducible refine YsC (fun h => ?_) (fun h => ?_)) | (with_reducible refine Ys_ite (fun h => ?_) (fun h => ?_)) | (intro h) | (with_reducible refine draw_look (by kernel_rfl) (by kernel_rfl) ?_) | (simp (maxDischargeDepth := 9) only [go_sem, Nat.reduceMul, Nat.reduceAdd, Nat.reduceLeDiff, Int.reduceSub, Int.reduceNeg, Int.reduceLT, Int.reduceLE, Int.reduceEq, *, ncheck_ans, plain_ans, ordinary_ans]) | (exfalso; omega))) : p := h
theorem initial_ans (ext : CallF) (k : Nat) (hN : ExN ext) (n : IV) (p : Nat) (hk : maxLen + (24) ≤ k) (hnn : Ok n) (hzp : (asL (fld n 1)).length ≤ 1000) : ans (tab.run ext k) 13 [.iv p 25 n] 9 = some ([ibR n, .one (.at (.int .i64 (IE n)))], [29, 34]) := by
  obtain ⟨k, rfl⟩ : ∃ k', k = k' + 1 := ⟨k - 1, by omega⟩
  have hk1 : maxLen < k := by omega
  have hk0 : 0 < k := by omega
  have hk_0 : maxLen + (16) ≤ k := by omega
  have hk_1 : maxLen + (8) ≤ k := by omega
  refine fn_run (fx := fx13) (m := 63) 64 rfl rfl rfl rfl (fun st hn hg hr => ?_)
  have g0 : st.get (.tmp 0) = .v (.a (.iv p 25 n)) := hg 0 (of_decide_eq_true rfl)
  have r0 := hr 0
  have r1 := hr 1
  have r2 := hr 2
  have r3 := hr 3
  have r4 := hr 4
  have r5 := hr 5
  have r6 := hr 6
  have r7 := hr 7
  have r8 := hr 8
  clear hg hr
  rw [co13]
  simp only [Try.f13, Option.getD_some]
  have hl1 := ok_len (ok_fld (j := 1) hnn)
  have hl2 := ok_len (ok_fld (j := 2) hnn)
  unfold ibR IE
  by_cases h1 : (NC n).1 = 0
  case neg =>
    simp (maxDischargeDepth := 9) only [go_sem, Nat.reduceMul, Nat.reduceAdd, Nat.reduceLeDiff, Int.reduceSub, Int.reduceNeg, Int.reduceLT, Int.reduceLE, Int.reduceEq, *, ncheck_ans, plain_ans, ordinary_ans]
    with_reducible refine draw_with [1] (by kernel_rfl) (by kernel_rfl) ?_
    simp (maxDischargeDepth := 9) only [go_sem, Nat.reduceMul, Nat.reduceAdd, Nat.reduceLeDiff, Int.reduceSub, Int.reduceNeg, Int.reduceLT, Int.reduceLE, Int.reduceEq, *, ncheck_ans, plain_ans, ordinary_ans]
    with_reducible refine dop_valW ?_ ?_
    · simp only [St.keysOf, Op.operands, List.flatMap_cons, List.flatMap_nil, SV.keys, V1.keys, At.keys, go_sem, *]
      try rfl
    simp (maxDischargeDepth := 9) only [go_sem, Nat.reduceMul, Nat.reduceAdd, Nat.reduceLeDiff, Int.reduceSub, Int.reduceNeg, Int.reduceLT, Int.reduceLE, Int.reduceEq, *, ncheck_ans, plain_ans, ordinary_ans]
    with_reducible refine dop_valW ?_ ?_
    · simp only [St.keysOf, Op.operands, List.flatMap_cons, List.flatMap_nil, SV.keys, V1.keys, At.keys, go_sem, *]
      try rfl
    simp (maxDischargeDepth := 9) only [go_sem, Nat.reduceMul, Nat.reduceAdd, Nat.reduceLeDiff, Int.reduceSub, Int.reduceNeg, Int.reduceLT, Int.reduceLE, Int.reduceEq, *, ncheck_ans, plain_ans, ordinary_ans]
    with_reducible refine dop_valW ?_ ?_
    · simp only [St.keysOf, Op.operands, List.flatMap_cons, List.flatMap_nil, SV.keys, V1.keys, At.keys, go_sem, *]
      try rfl
    simp (maxDischargeDepth := 9) only [go_sem, Nat.reduceMul, Nat.reduceAdd, Nat.reduceLeDiff, Int.reduceSub, Int.reduceNeg, Int.reduceLT, Int.reduceLE, Int.reduceEq, *, ncheck_ans, plain_ans, ordinary_ans]
    with_reducible refine dop_eff (by kernel_rfl) rfl ?_
    simp (maxDischargeDepth := 9) only [go_sem, Nat.reduceMul, Nat.reduceAdd, Nat.reduceLeDiff, Int.reduceSub, Int.reduceNeg, Int.reduceLT, Int.reduceLE, Int.reduceEq, *, ncheck_ans, plain_ans, ordinary_ans, Tab.eff]
    with_reducible refine dop_valW ?_ ?_
    · simp only [St.keysOf, Op.operands, List.flatMap_cons, List.flatMap_nil, SV.keys, V1.keys, At.keys, go_sem, *]
      try rfl
    simp (maxDischargeDepth := 9) only [go_sem, Nat.reduceMul, Nat.reduceAdd, Nat.reduceLeDiff, Int.reduceSub, Int.reduceNeg, Int.reduceLT, Int.reduceLE, Int.reduceEq, *, ncheck_ans, plain_ans, ordinary_ans]
  by_cases h2 : PN n = true
  case neg =>
    have h2n : PN n = false := by simpa using h2
    simp (maxDischargeDepth := 9) only [go_sem, Nat.reduceMul, Nat.reduceAdd, Nat.reduceLeDiff, Int.reduceSub, Int.reduceNeg, Int.reduceLT, Int.reduceLE, Int.reduceEq, *, ncheck_ans, plain_ans, ordinary_ans]
  by_cases h3 : ON n = true
  case neg =>
    have h3n : ON n = false := by simpa using h3
    simp (maxDischargeDepth := 9) only [go_sem, Nat.reduceMul, Nat.reduceAdd, Nat.reduceLeDiff, Int.reduceSub, Int.reduceNeg, Int.reduceLT, Int.reduceLE, Int.reduceEq, *, ncheck_ans, plain_ans, ordinary_ans]
  simp (maxDischargeDepth := 9) only [go_sem, Nat.reduceMul, Nat.reduceAdd, Nat.reduceLeDiff, Int.reduceSub, Int.reduceNeg, Int.reduceLT, Int.reduceLE, Int.reduceEq, *, ncheck_ans, plain_ans, ordinary_ans]
  refine gen_st (fun s0 hg hr hn0 => ?_)
  have e1 := hg 1
  have e2 := hg 2
  have e28 := hg 28
  have e29 := hg 29
  have e30 := hg 30
  have q0 := hr 0
  have q1 := hr 1
  have q2 := hr 2
  clear hg hr
  simp only [go_sem, *] at hn0 e1 e2 e28 e29 e30 q0 q1 q2
  refine nr (runs_for (asL (fld n 2)) (fun (_ : Unit) x => if (asL (fld x 1)).length = 0 then .ret true else .next ()) () 64 (fun i a => [(1, s0.get (.tmp 1)), (2, s0.get (.tmp 2)), (28, s0.get (.tmp 28)), (29, s0.get (.tmp 29)), (30, .v (.a (.int .i64 (i : Nat))))]) (fun i a => [(0, s0.row 0), (1, s0.row 1), (2, s0.row 2)]) (fun i a => True) (by omega) ?_ (trivial) ?_ ?_ ?_ ?_)
  · simp (maxDischargeDepth := 9) only [go_sem, Nat.reduceMul, Nat.reduceAdd, Nat.reduceLeDiff, Int.reduceSub, Int.reduceNeg, Int.reduceLT, Int.reduceLE, Int.reduceEq, *, ncheck_ans, plain_ans, ordinary_ans]
  · intro i a; simp (maxDischargeDepth := 9) only [go_sem, Nat.reduceMul, Nat.reduceAdd, Nat.reduceLeDiff, Int.reduceSub, Int.reduceNeg, Int.reduceLT, Int.reduceLE, Int.reduceEq, *, ncheck_ans, plain_ans, ordinary_ans]
  · intro i a; simp (maxDischargeDepth := 9) only [go_sem, Nat.reduceMul, Nat.reduceAdd, Nat.reduceLeDiff, Int.reduceSub, Int.reduceNeg, Int.reduceLT, Int.reduceLE, Int.reduceEq, *, ncheck_ans, plain_ans, ordinary_ans]
  · intro i x a s hx hi hI hS
    clear hn0 e30
    simp only [go_sem] at hS
    obtain ⟨f1, f2, f28, f29, f30, m0, m1, m2, hn⟩ := hS
    have hw := wrap_succ hi (hl2)
    refine rn ?_
    simp (maxDischargeDepth := 9) only [go_sem, Nat.reduceMul, Nat.reduceAdd, Nat.reduceLeDiff, Int.reduceSub, Int.reduceNeg, Int.reduceLT, Int.reduceLE, Int.reduceEq, *, ncheck_ans, plain_ans, ordinary_ans]
    all_goals exact AU_initial
  · intro a s hI hf hS
    clear hn0 e30
    simp only [go_sem] at hS
    obtain ⟨f1, f2, f28, f29, f30, m0, m1, m2, hn⟩ := hS
    try simp only [go_sem] at hf
    refine rn ?_
    simp (maxDischargeDepth := 9) only [go_sem, Nat.reduceMul, Nat.reduceAdd, Nat.reduceLeDiff, Int.reduceSub, Int.reduceNeg, Int.reduceLT, Int.reduceLE, Int.reduceEq, *, ncheck_ans, plain_ans, ordinary_ans]
    refine gen_st (fun s0 hg hr hn0 => ?_)
    have e2 := hg 2
    have e7 := hg 7
    have e41 := hg 41
    have e42 := hg 42
    have e43 := hg 43
    have q0 := hr 0
    have q1 := hr 1
    have q2 := hr 2
    have q4 := hr 4
    have q5 := hr 5
    clear hg hr
    simp only [go_sem, *] at hn0 e2 e7 e41 e42 e43 q0 q1 q2 q4 q5
    refine nr (runs_forN (asL (fld n 1)).length (fun (_ : Unit) i => if (1 : Int) < asI (fld ((asL (fld n 1)).getD i .N) 1) then .ret true else .next ()) () 64 (fun i a => [(2, s0.get (.tmp 2)), (7, s0.get (.tmp 7)), (41, s0.get (.tmp 41)), (42, s0.get (.tmp 42)), (43, .v (.a (.int .i64 (i : Nat))))]) (fun i a => [(0, s0.row 0), (1, s0.row 1), (2, s0.row 2), (4, some (.box false 29 [0] (.g 29 [.own 5, .iv 2 27 .N]))), (5, some (.arr 2 54 (ics n i)))]) (fun i a => True) (by omega) ?_ (trivial) ?_ ?_ ?_ ?_)
    · simp (maxDischargeDepth := 9) only [go_sem, Nat.reduceMul, Nat.reduceAdd, Nat.reduceLeDiff, Int.reduceSub, Int.reduceNeg, Int.reduceLT, Int.reduceLE, Int.reduceEq, *, ncheck_ans, plain_ans, ordinary_ans]
    · intro i a; simp (maxDischargeDepth := 9) only [go_sem, Nat.reduceMul, Nat.reduceAdd, Nat.reduceLeDiff, Int.reduceSub, Int.reduceNeg, Int.reduceLT, Int.reduceLE, Int.reduceEq, *, ncheck_ans, plain_ans, ordinary_ans]
    · intro i a; simp (maxDischargeDepth := 9) only [go_sem, Nat.reduceMul, Nat.reduceAdd, Nat.reduceLeDiff, Int.reduceSub, Int.reduceNeg, Int.reduceLT, Int.reduceLE, Int.reduceEq, *, ncheck_ans, plain_ans, ordinary_ans]
    · intro i a s hi hI hS
      clear hn0 e43 q4 q5
      simp only [go_sem] at hS
      obtain ⟨f2, f7, f41, f42, f43, m0, m1, m2, m4, m5, hn⟩ := hS
      have hw := wrap_succ hi (hl1)
      have hil : (ics n i).length + 1 ≤ 1000000 := by have := ics_len (n := n) (i := i); omega
      refine rn ?_
      simp (maxDischargeDepth := 9) only [go_sem, Nat.reduceMul, Nat.reduceAdd, Nat.reduceLeDiff, Int.reduceSub, Int.reduceNeg, Int.reduceLT, Int.reduceLE, Int.reduceEq, *, ncheck_ans, plain_ans, ordinary_ans]
      all_goals exact AU_initial
    · intro a s hI hf hS
      clear hn0 e43 q4 q5
      simp only [go_sem] at hS
      obtain ⟨f2, f7, f41, f42, f43, m0, m1, m2, m4, m5, hn⟩ := hS
      try simp only [go_sem] at hf
      refine rn ?_
      simp (maxDischargeDepth := 9) only [go_sem, Nat.reduceMul, Nat.reduceAdd, Nat.reduceLeDiff, Int.reduceSub, Int.reduceNeg, Int.reduceLT, Int.reduceLE, Int.reduceEq, *, ncheck_ans, plain_ans, ordinary_ans]
      all_goals exact AU_initial
end Go.Proofs.Ytficdonjodadlaa
end
section
set_option linter.unusedVariables false
namespace Go.Ev
def insL (n e : IV) : List IV := tgs (fld (el (asL (fld n 2)) (asI (fld e 0))) 1) (asL (fld (el (asL (fld n 2)) (asI (fld e 0))) 1)).length
def RZ (v : IV) : Bool := (List.range ((asL v).length - 1)).any fun i => decide (asI ((asL v).getD (i + 1) .N) ≤ asI ((asL v).getD i .N))
def metS (n b e : IV) (S : Nat → Bool) (x : IV) : Stp (Nat → Bool) Unit :=
  if ((insL n e).any fun y => decide (asI y = asI (fld (el (asL (fld b 0)) (asI x)) 0))) = true then
    if S (asI (fld (el (asL (fld b 0)) (asI x)) 0)).toNat = true then .ret () else .next fun g => S g || decide (g = (asI (fld (el (asL (fld b 0)) (asI x)) 0)).toNat)
  else .ret ()
noncomputable def CP2 (n b e : IV) : Int := match foldS (metS n b e) (fun _ => false) (asL (fld e 1)) with | .ret _ => 17 | _ => if CS b (fld e 1) = true then (if KN b (asI (fld e 0)) (fld e 1) = true then 6 else 0) else 15
noncomputable def CP (n b e : IV) : Int := if (asL (fld e 1)).length = (insL n e).length then (if RZ (fld e 1) = true then 8 else if ((asL (fld e 1)).any fun x => decide (asI x < 0 ∨ ((asL (fld b 0)).length : Int) ≤ asI x)) = true then 7 else CP2 n b e) else 2
attribute [go_sem] Int.zero_add
theorem ok_tgs {l : IV} {i : Nat} (h : i ≤ 1000000) (hl : Ok l) : Ok (.L (tgs l i)) := by
  refine .L (by rw [tgs_len]; unfold maxLen; omega) (fun x hx => ?_)
  unfold tgs at hx
  obtain ⟨k, hk, rfl⟩ := List.mem_map.1 hx
  exact .I (ok_int (ok_fld (ok_getD hl)))
end Go.Ev
end
section
set_option linter.unusedSimpArgs false
set_option linter.unusedVariables false
set_option maxRecDepth 100000
set_option maxHeartbeats 4000000
namespace Go.Proofs.Ytficdonjodadlaa
open Go.Ev Go.Proofs
theorem AU_cpost {p : Prop} (h : p := by
  repeat' (first | (with_reducible refine condLt (fun h h' => ?_) (fun h h' => ?_)) | (with_reducible refine condLe (fun h h' => ?_) (fun h h' => ?_)) | (with_reducible refine dop_val ?_) | (with_reducible refine YsLt (fun h h' => ?_) (fun h h' => ?_)) | (with_reducible refine YsLe (fun h h' => ?_) (fun h h' => ?_)) | (with_reducible refine condP (fun h => ?_) (fun h => ?_)) | (with_reducible refine condN (fun h => ?_) (fun h => ?_)) | (with_reducible refine condB (fun h => ?_) (fun h => ?_)) | (with_reducible refine condR (fun h => ?_) (fun h => ?_)) | (with_reducible refine YsB (fun h => ?_) (fun h => ?_)) | (with_reducible refine YsC (fun h => ?_) (fun h => ?_)) | (with_reducible refine Ys_ite (fun h => ?_) (fun h => ?_)) | (intro h) | (with_reducible refine draw_look (by kernel_rfl) (by kernel_rfl) ?_) | (simp (maxDischargeDepth := 9) only [go_sem, Nat.reduceMul, Nat.reduceAdd, Nat.reduceLeDiff, Int.reduceSub, Int.reduceNeg, Int.reduceLT, Int.reduceLE, Int.reduceEq, *, outputs_ans, tgs_len, outs, Tab.eqF, Function.comp_apply]) | (exfalso; omega))) : p := h
theorem cpost_ans (ext : CallF) (k : Nat) (hN : ExN ext) (n b : IV) (i next : Int) (p q : Nat) (hk : maxLen + (30) ≤ k) (hnn : Ok n) (hb : Ok b) (hi0 : 0 ≤ i) (hi1 : i < ((asL (fld b 1)).length : Int)) (hn0 : 0 ≤ next) (hn1 : next ≤ 1000000) (ht : tIn n (asI (fld (el (asL (fld b 1)) i) 0)) = true) (hs : (asL (fld (el (asL (fld n 2)) (asI (fld (el (asL (fld b 1)) i) 0))) 2)).length ≤ 100000) : ans (tab.run ext k) 74 [.iv p 25 n, .iv q 29 b, .int .i64 i, .int .i64 next] 3 = some ([.one (.at (.int .i64 (PO n b i next)))], [34]) := by
  obtain ⟨k, rfl⟩ : ∃ k', k = k' + 1 := ⟨k - 1, by omega⟩
  have hk1 : maxLen < k := by omega
  have hk0 : 0 < k := by omega
  have hk_0 : maxLen + (20) ≤ k := by omega
  refine fn_run (fx := fx74) (m := 59) 63 rfl rfl rfl rfl (fun st hn hg hr => ?_)
  have g0 : st.get (.tmp 0) = .v (.a (.iv p 25 n)) := hg 0 (of_decide_eq_true rfl)
  have g1 : st.get (.tmp 1) = .v (.a (.iv q 29 b)) := hg 1 (of_decide_eq_true rfl)
  have g2 : st.get (.tmp 2) = .v (.a (.int .i64 i)) := hg 2 (of_decide_eq_true rfl)
  have g3 : st.get (.tmp 3) = .v (.a (.int .i64 next)) := hg 3 (of_decide_eq_true rfl)
  have r0 := hr 0
  have r1 := hr 1
  have r2 := hr 2
  clear hg hr
  rw [co74]
  simp only [Try.f74, Option.getD_some]
  unfold PO
  have hlp : Ok (fld (el (asL (fld b 1)) i) 2) := ok_fld (ok_el (ok_fld hb))
  have hlq := ok_len hlp
  simp (maxDischargeDepth := 9) only [go_sem, Nat.reduceMul, Nat.reduceAdd, Nat.reduceLeDiff, Int.reduceSub, Int.reduceNeg, Int.reduceLT, Int.reduceLE, Int.reduceEq, *, outputs_ans, tgs_len, outs, Tab.eqF, Function.comp_apply]
  with_reducible refine condN (fun heq => ?_) (fun heq => ?_)
  · simp (maxDischargeDepth := 9) only [go_sem, Nat.reduceMul, Nat.reduceAdd, Nat.reduceLeDiff, Int.reduceSub, Int.reduceNeg, Int.reduceLT, Int.reduceLE, Int.reduceEq, *, outputs_ans, tgs_len, outs, Tab.eqF, Function.comp_apply]
  have heq2 : (asL (fld (el (asL (fld n 2)) (asI (fld (el (asL (fld b 1)) i) 0))) 2)).length = (asL (fld (el (asL (fld b 1)) i) 2)).length := Eq.symm heq
  clear heq
  simp (maxDischargeDepth := 9) only [go_sem, Nat.reduceMul, Nat.reduceAdd, Nat.reduceLeDiff, Int.reduceSub, Int.reduceNeg, Int.reduceLT, Int.reduceLE, Int.reduceEq, *, outputs_ans, tgs_len, outs, Tab.eqF, Function.comp_apply]
  refine gen_st (fun s0 hg hr hn0 => ?_)
  have e2 := hg 2
  have e3 := hg 3
  have e5 := hg 5
  have e10 := hg 10
  have e29 := hg 29
  have e30 := hg 30
  have e31 := hg 31
  have q0 := hr 0
  have q1 := hr 1
  have q2 := hr 2
  clear hg hr
  simp only [go_sem, *] at hn0 e2 e3 e5 e10 e29 e30 e31 q0 q1 q2
  refine nr (runs_forN (asL (fld (el (asL (fld b 1)) i) 2)).length (poS n b i next) () 63 (fun m a => [(2, s0.get (.tmp 2)), (3, s0.get (.tmp 3)), (5, s0.get (.tmp 5)), (10, s0.get (.tmp 10)), (29, s0.get (.tmp 29)), (30, s0.get (.tmp 30)), (31, .v (.a (.int .i64 (m : Nat))))]) (fun m a => [(0, s0.row 0), (1, s0.row 1), (2, s0.row 2)]) (fun m a => True) (by omega) ?_ (trivial) ?_ ?_ ?_ ?_)
  · simp (maxDischargeDepth := 9) only [go_sem, Nat.reduceMul, Nat.reduceAdd, Nat.reduceLeDiff, Int.reduceSub, Int.reduceNeg, Int.reduceLT, Int.reduceLE, Int.reduceEq, *, outputs_ans, tgs_len, outs, Tab.eqF, Function.comp_apply]
  · intro i a; simp (maxDischargeDepth := 9) only [go_sem, Nat.reduceMul, Nat.reduceAdd, Nat.reduceLeDiff, Int.reduceSub, Int.reduceNeg, Int.reduceLT, Int.reduceLE, Int.reduceEq, *, outputs_ans, tgs_len, outs, Tab.eqF, Function.comp_apply]
  · intro i a; simp (maxDischargeDepth := 9) only [go_sem, Nat.reduceMul, Nat.reduceAdd, Nat.reduceLeDiff, Int.reduceSub, Int.reduceNeg, Int.reduceLT, Int.reduceLE, Int.reduceEq, *, outputs_ans, tgs_len, outs, Tab.eqF, Function.comp_apply]
  · intro m a s hi hI hS
    clear hn0 e31
    simp only [go_sem] at hS
    obtain ⟨f2, f3, f5, f10, f29, f30, f31, m0, m1, m2, hn⟩ := hS
    have hw := wrap_succ hi (hlq)
    have hm0 : 0 ≤ next + (m : Int) := by omega
    have hml : (m : Int) < 100001 := by omega
    have hwn : IntKind.i64.wrap (next + (m : Int)) = next + (m : Int) := Go.IntWalk.i64_in _ (by omega)
    unfold poS
    refine rn ?_
    simp (maxDischargeDepth := 9) only [go_sem, Nat.reduceMul, Nat.reduceAdd, Nat.reduceLeDiff, Int.reduceSub, Int.reduceNeg, Int.reduceLT, Int.reduceLE, Int.reduceEq, *, outputs_ans, tgs_len, outs, Tab.eqF, Function.comp_apply]
    all_goals exact AU_cpost
  · intro a s hI hf hS
    clear hn0 e31
    simp only [go_sem] at hS
    obtain ⟨f2, f3, f5, f10, f29, f30, f31, m0, m1, m2, hn⟩ := hS
    try simp only [go_sem] at hf
    refine rn ?_
    simp (maxDischargeDepth := 9) only [go_sem, Nat.reduceMul, Nat.reduceAdd, Nat.reduceLeDiff, Int.reduceSub, Int.reduceNeg, Int.reduceLT, Int.reduceLE, Int.reduceEq, *, outputs_ans, tgs_len, outs, Tab.eqF, Function.comp_apply]
    all_goals exact AU_cpost
end Go.Proofs.Ytficdonjodadlaa
end
section
set_option linter.unusedVariables false
namespace Go.Ev
def cutB (b : IV) (i next : Int) : IV := .A [.L ((asL (fld b 0)).take next.toNat), .L ((asL (fld b 1)).take i.toNat)]
noncomputable def CE (n b : IV) (i next : Int) : Int :=
  if asI (fld (el (asL (fld b 1)) i) 0) < 0 ∨ ((asL (fld n 2)).length : Int) ≤ asI (fld (el (asL (fld b 1)) i) 0) then 1
  else if CP n (cutB b i next) (el (asL (fld b 1)) i) = 0 then PO n b i next else CP n (cutB b i next) (el (asL (fld b 1)) i)
structure NG (n : IV) : Prop where
  vn : VN n = true
  lt : ∀ t ∈ asL (fld n 2), (asL (fld t 1)).length ≤ 100000 ∧ (asL (fld t 2)).length ≤ 100000
  pl : (asL (fld n 1)).length ≤ 1000
  tl : (asL (fld n 2)).length ≤ 1000
  inp : ∀ t ∈ asL (fld n 2), ∀ x ∈ asL (fld t 1), 0 ≤ asI (fld x 0) ∧ asI (fld x 0) < ((asL (fld n 1)).length : Int)
theorem NG.t1 {n : IV} (h : NG n) {t : Int} (h0 : 0 ≤ t) (h1 : t < ((asL (fld n 2)).length : Int)) : tIn n t = true := by
  simp [tIn, h.vn, h0, h1]
theorem NG.l1 {n : IV} (h : NG n) {t : Int} (h0 : 0 ≤ t) (h1 : t < ((asL (fld n 2)).length : Int)) : (asL (fld (el (asL (fld n 2)) t) 1)).length ≤ 100000 := (h.lt _ (el_mem h0 h1)).1
theorem NG.l2 {n : IV} (h : NG n) {t : Int} (h0 : 0 ≤ t) (h1 : t < ((asL (fld n 2)).length : Int)) : (asL (fld (el (asL (fld n 2)) t) 2)).length ≤ 100000 := (h.lt _ (el_mem h0 h1)).2
theorem NG.in1 {n e : IV} (h : NG n) (h0 : 0 ≤ asI (fld e 0)) (h1 : asI (fld e 0) < ((asL (fld n 2)).length : Int)) : ∀ y ∈ insL n e, 0 ≤ asI y ∧ asI y < ((asL (fld n 1)).length : Int) := by
  intro y hy
  simp only [insL, tgs, List.mem_map, List.mem_range] at hy
  obtain ⟨k, hk, rfl⟩ := hy
  exact h.inp _ (el_mem h0 h1) _ (memD hk)
theorem ok_take {v : IV} {i : Nat} (h : Ok v) : Ok (.L ((asL v).take i)) := by
  refine .L (Nat.le_trans (List.length_take_le' _ _) (ok_len h)) (fun x hx => ok_mem h (List.mem_of_mem_take hx))
theorem ok_cutB {b : IV} {i next : Int} (h : Ok b) : Ok (cutB b i next) := by
  refine .A (fun x hx => ?_)
  simp only [List.mem_cons, List.not_mem_nil, or_false] at hx
  rcases hx with rfl | rfl
  · exact ok_take (ok_fld h)
  · exact ok_take (ok_fld h)
theorem cutB_1 {b : IV} {i next : Int} : asL (fld (cutB b i next) 1) = (asL (fld b 1)).take i.toNat := (rfl)
theorem cutB_eq {b : IV} {i next : Int} : IV.A [.L ((asL (fld b 0)).take next.toNat), .L ((asL (fld b 1)).take i.toNat)] = cutB b i next := (rfl)
end Go.Ev
end
section
set_option linter.unusedSimpArgs false
set_option linter.unusedVariables false
set_option maxRecDepth 100000
set_option maxHeartbeats 4000000
namespace Go.Proofs.Ytficdonjodadlaa
open Go.Ev Go.Proofs
theorem AU_cpre {p : Prop} (h : p := by
  repeat' (first | (with_reducible refine condLt (fun h h' => ?_) (fun h h' => ?_)) | (with_reducible refine condLe (fun h h' => ?_) (fun h h' => ?_)) | (with_reducible refine dop_val ?_) | (with_reducible refine YsLt (fun h h' => ?_) (fun h h' => ?_)) | (with_reducible refine YsLe (fun h h' => ?_) (fun h h' => ?_)) | (with_reducible refine condP (fun h => ?_) (fun h => ?_)) | (with_reducible refine condN (fun h => ?_) (fun h => ?_)) | (with_reducible refine condB (fun h => ?_) (fun h => ?_)) | (with_reducible refine condR (fun h => ?_) (fun h => ?_)) | (with_reducible refine YsB (fun h => ?_) (fun h => ?_)) | (with_reducible refine YsC (fun h => ?_) (fun h => ?_)) | (with_reducible refine Ys_ite (fun h => ?_) (fun h => ?_)) | (intro h) | (with_reducible refine draw_look (by kernel_rfl) (by kernel_rfl) ?_) | (simp (maxDischargeDepth := 9) only [go_sem, Nat.reduceMul, Nat.reduceAdd, Nat.reduceLeDiff, Int.reduceSub, Int.reduceNeg, Int.reduceLT, Int.reduceLE, Int.reduceEq, *, inputs_ans, has_ans, coset_ans, known_ans, tgs_len, insL]) | (exfalso; omega))) : p := h
theorem cpre_ans (ext : CallF) (k : Nat) (hN : ExN ext) (hE : ExC ext) (hU : ExU ext) (n b e : IV) (p q r : Nat) (hk : maxLen + (D0 + 40) ≤ k) (hnn : Ok n) (hb : Ok b) (hq : q ≠ 0) (heo : Ok e) (hz : (asL (fld b 1)).length ≤ 1000000) (hpl : (asL (fld n 1)).length ≤ 1000) (ht : tIn n (asI (fld e 0)) = true) (hs : (asL (fld (el (asL (fld n 2)) (asI (fld e 0))) 1)).length ≤ 100000) (hin : ∀ y ∈ insL n e, 0 ≤ asI y ∧ asI y < ((asL (fld n 1)).length : Int)) : ans (tab.run ext k) 50 [.iv p 25 n, .iv q 29 b, .iv r 56 e] 5 = some ([.one (.at (.int .i64 (CP n b e)))], [34]) := by
  obtain ⟨k, rfl⟩ : ∃ k', k = k' + 1 := ⟨k - 1, by omega⟩
  have hk1 : maxLen < k := by omega
  have hk0 : 0 < k := by omega
  have hk_0 : maxLen + (2) ≤ k := by omega
  have hk_1 : maxLen + (20) ≤ k := by omega
  have hk_2 : maxLen + (6) ≤ k := by omega
  have hk_3 : maxLen + (D0 + 24) ≤ k := by omega
  refine fn_run (fx := fx50) (m := 100) 103 rfl rfl rfl rfl (fun st hn hg hr => ?_)
  have g0 : st.get (.tmp 0) = .v (.a (.iv p 25 n)) := hg 0 (of_decide_eq_true rfl)
  have g1 : st.get (.tmp 1) = .v (.a (.iv q 29 b)) := hg 1 (of_decide_eq_true rfl)
  have g2 : st.get (.tmp 2) = .v (.a (.iv r 56 e)) := hg 2 (of_decide_eq_true rfl)
  have r0 := hr 0
  have r1 := hr 1
  have r2 := hr 2
  have r3 := hr 3
  have r4 := hr 4
  clear hg hr
  rw [co50]
  simp only [Try.f50, Option.getD_some]
  unfold CP RZ
  have hlq := ok_len (ok_fld (j := 1) heo)
  have hlp := ok_len (ok_fld (j := 1) hnn)
  have hpl2 : (asL (fld n 1)).length ≤ 1000000 := by omega
  simp (maxDischargeDepth := 9) only [go_sem, Nat.reduceMul, Nat.reduceAdd, Nat.reduceLeDiff, Int.reduceSub, Int.reduceNeg, Int.reduceLT, Int.reduceLE, Int.reduceEq, *, inputs_ans, has_ans, coset_ans, known_ans, tgs_len, insL]
  with_reducible refine condN (fun heq => ?_) (fun heq => ?_)
  · simp (maxDischargeDepth := 9) only [go_sem, Nat.reduceMul, Nat.reduceAdd, Nat.reduceLeDiff, Int.reduceSub, Int.reduceNeg, Int.reduceLT, Int.reduceLE, Int.reduceEq, *, inputs_ans, has_ans, coset_ans, known_ans, tgs_len, insL]
  have heq2 : (asL (fld (el (asL (fld n 2)) (asI (fld e 0))) 1)).length = (asL (fld e 1)).length := Eq.symm heq
  clear heq
  simp (maxDischargeDepth := 9) only [go_sem, Nat.reduceMul, Nat.reduceAdd, Nat.reduceLeDiff, Int.reduceSub, Int.reduceNeg, Int.reduceLT, Int.reduceLE, Int.reduceEq, *, inputs_ans, has_ans, coset_ans, known_ans, tgs_len, insL]
  refine gen_st (fun s0 hg hr hn0 => ?_)
  have e3 := hg 3
  have e4 := hg 4
  have e5 := hg 5
  have e7 := hg 7
  have e8 := hg 8
  have q0 := hr 0
  have q1 := hr 1
  have q2 := hr 2
  clear hg hr
  simp only [go_sem, *] at hn0 e3 e4 e5 e7 e8 q0 q1 q2
  refine nr (runs_forN ((asL (fld e 1)).length - 1) (fun (_ : Unit) i => if asI ((asL (fld e 1)).getD (i + 1) .N) ≤ asI ((asL (fld e 1)).getD i .N) then .ret true else .next ()) () 103 (fun i a => [(3, s0.get (.tmp 3)), (4, s0.get (.tmp 4)), (5, s0.get (.tmp 5)), (7, s0.get (.tmp 7)), (8, .v (.a (.int .i64 (((i : Nat) : Int) + 1))))]) (fun i a => [(0, s0.row 0), (1, s0.row 1), (2, s0.row 2)]) (fun i a => True) (by omega) ?_ (trivial) ?_ ?_ ?_ ?_)
  · simp (maxDischargeDepth := 9) only [go_sem, Nat.reduceMul, Nat.reduceAdd, Nat.reduceLeDiff, Int.reduceSub, Int.reduceNeg, Int.reduceLT, Int.reduceLE, Int.reduceEq, *, inputs_ans, has_ans, coset_ans, known_ans, tgs_len, insL]
  · intro i a; simp (maxDischargeDepth := 9) only [go_sem, Nat.reduceMul, Nat.reduceAdd, Nat.reduceLeDiff, Int.reduceSub, Int.reduceNeg, Int.reduceLT, Int.reduceLE, Int.reduceEq, *, inputs_ans, has_ans, coset_ans, known_ans, tgs_len, insL]
  · intro i a; simp (maxDischargeDepth := 9) only [go_sem, Nat.reduceMul, Nat.reduceAdd, Nat.reduceLeDiff, Int.reduceSub, Int.reduceNeg, Int.reduceLT, Int.reduceLE, Int.reduceEq, *, inputs_ans, has_ans, coset_ans, known_ans, tgs_len, insL]
  · intro i a s hi hI hS
    clear hn0 e8
    simp only [go_sem] at hS
    obtain ⟨f3, f4, f5, f7, f8, m0, m1, m2, hn⟩ := hS
    have hlt : ((i : Nat) : Int) + 1 < ((asL (fld e 1)).length : Int) := by omega
    have hiL : i < (asL (fld e 1)).length := by omega
    have hiL2 : i + 1 < (asL (fld e 1)).length := by omega
    have hw : IntKind.i64.wrap (((i : Nat) : Int) + 1 + 1) = ((i + 1 : Nat) : Int) + 1 := by
      rw [Go.IntWalk.i64_in _ (by unfold maxLen at hlq; omega)]; omega
    have hws : IntKind.i64.wrap (((i : Nat) : Int) + 1 - 1) = ((i : Nat) : Int) := by
      rw [Go.IntWalk.i64_in _ (by unfold maxLen at hlq; omega)]; omega
    have hge : (0 : Int) ≤ ((i : Nat) : Int) + 1 := by omega
    have hti : (((i : Nat) : Int) + 1).toNat = i + 1 := by omega
    refine rn ?_
    simp (maxDischargeDepth := 9) only [go_sem, Nat.reduceMul, Nat.reduceAdd, Nat.reduceLeDiff, Int.reduceSub, Int.reduceNeg, Int.reduceLT, Int.reduceLE, Int.reduceEq, *, inputs_ans, has_ans, coset_ans, known_ans, tgs_len, insL]
    all_goals exact AU_cpre
  · intro a s hI hf hS
    clear hn0 e8
    simp only [go_sem] at hS
    obtain ⟨f3, f4, f5, f7, f8, m0, m1, m2, hn⟩ := hS
    try simp only [go_sem] at hf
    have hnl : ¬ (((asL (fld e 1)).length - 1 : Nat) : Int) + 1 < ((asL (fld e 1)).length : Int) := by omega
    refine rn ?_
    simp (maxDischargeDepth := 9) only [go_sem, Nat.reduceMul, Nat.reduceAdd, Nat.reduceLeDiff, Int.reduceSub, Int.reduceNeg, Int.reduceLT, Int.reduceLE, Int.reduceEq, *, inputs_ans, has_ans, coset_ans, known_ans, tgs_len, insL]
    refine gen_st (fun s0 hg hr hn0 => ?_)
    have e3 := hg 3
    have e4 := hg 4
    have e5 := hg 5
    have e7 := hg 7
    have e45 := hg 45
    have e46 := hg 46
    have e47 := hg 47
    have q0 := hr 0
    have q1 := hr 1
    have q2 := hr 2
    clear hg hr
    simp only [go_sem, *] at hn0 e3 e4 e5 e7 e45 e46 e47 q0 q1 q2
    refine nr (runs_for (asL (fld e 1)) (fun (_ : Unit) x => if asI x < 0 ∨ ((asL (fld b 0)).length : Int) ≤ asI x then .ret true else .next ()) () 103 (fun i a => [(3, s0.get (.tmp 3)), (4, s0.get (.tmp 4)), (5, s0.get (.tmp 5)), (7, s0.get (.tmp 7)), (45, s0.get (.tmp 45)), (46, s0.get (.tmp 46)), (47, .v (.a (.int .i64 i)))]) (fun i a => [(0, s0.row 0), (1, s0.row 1), (2, s0.row 2)]) (fun i a => True) (by omega) ?_ (trivial) ?_ ?_ ?_ ?_)
    · simp (maxDischargeDepth := 9) only [go_sem, Nat.reduceMul, Nat.reduceAdd, Nat.reduceLeDiff, Int.reduceSub, Int.reduceNeg, Int.reduceLT, Int.reduceLE, Int.reduceEq, *, inputs_ans, has_ans, coset_ans, known_ans, tgs_len, insL]
    · intro i a; simp (maxDischargeDepth := 9) only [go_sem, Nat.reduceMul, Nat.reduceAdd, Nat.reduceLeDiff, Int.reduceSub, Int.reduceNeg, Int.reduceLT, Int.reduceLE, Int.reduceEq, *, inputs_ans, has_ans, coset_ans, known_ans, tgs_len, insL]
    · intro i a; simp (maxDischargeDepth := 9) only [go_sem, Nat.reduceMul, Nat.reduceAdd, Nat.reduceLeDiff, Int.reduceSub, Int.reduceNeg, Int.reduceLT, Int.reduceLE, Int.reduceEq, *, inputs_ans, has_ans, coset_ans, known_ans, tgs_len, insL]
    · intro i x a s hx hi hI hS
      clear hn0 e47
      simp only [go_sem] at hS
      obtain ⟨f3, f4, f5, f7, f45, f46, f47, m0, m1, m2, hn⟩ := hS
      have hw := wrap_succ hi (hlq)
      refine rn ?_
      simp (maxDischargeDepth := 9) only [go_sem, Nat.reduceMul, Nat.reduceAdd, Nat.reduceLeDiff, Int.reduceSub, Int.reduceNeg, Int.reduceLT, Int.reduceLE, Int.reduceEq, *, inputs_ans, has_ans, coset_ans, known_ans, tgs_len, insL]
      all_goals exact AU_cpre
    · intro a s hI hf hS
      clear hn0 e47
      simp only [go_sem] at hS
      obtain ⟨f3, f4, f5, f7, f45, f46, f47, m0, m1, m2, hn⟩ := hS
      try simp only [go_sem] at hf
      unfold CP2
      refine rn ?_
      simp (maxDischargeDepth := 9) only [go_sem, Nat.reduceMul, Nat.reduceAdd, Nat.reduceLeDiff, Int.reduceSub, Int.reduceNeg, Int.reduceLT, Int.reduceLE, Int.reduceEq, *, inputs_ans, has_ans, coset_ans, known_ans, tgs_len, insL]
      refine gen_st (fun s0 hg hr hn0 => ?_)
      have e4 := hg 4
      have e5 := hg 5
      have e7 := hg 7
      have e11 := hg 11
      have e66 := hg 66
      have e67 := hg 67
      have e68 := hg 68
      have q0 := hr 0
      have q1 := hr 1
      have q2 := hr 2
      have q3 := hr 3
      have q4 := hr 4
      clear hg hr
      simp only [go_sem, *] at hn0 e4 e5 e7 e11 e66 e67 e68 q0 q1 q2 q3 q4
      refine nr (runs_for (asL (fld e 1)) (metS n b e) (fun _ => false) 103 (fun i S => [(4, s0.get (.tmp 4)), (5, s0.get (.tmp 5)), (7, s0.get (.tmp 7)), (11, s0.get (.tmp 11)), (66, s0.get (.tmp 66)), (67, s0.get (.tmp 67)), (68, .v (.a (.int .i64 i)))]) (fun i S => [(0, s0.row 0), (1, s0.row 1), (2, s0.row 2), (3, s0.row 3), (4, some (.arr 2 4 (bl (asL (fld n 1)).length S)))]) (fun i S => True) (by omega) ?_ (trivial) ?_ ?_ ?_ ?_)
      · simp (maxDischargeDepth := 9) only [go_sem, Nat.reduceMul, Nat.reduceAdd, Nat.reduceLeDiff, Int.reduceSub, Int.reduceNeg, Int.reduceLT, Int.reduceLE, Int.reduceEq, *, inputs_ans, has_ans, coset_ans, known_ans, tgs_len, insL]
      · intro i a; simp (maxDischargeDepth := 9) only [go_sem, Nat.reduceMul, Nat.reduceAdd, Nat.reduceLeDiff, Int.reduceSub, Int.reduceNeg, Int.reduceLT, Int.reduceLE, Int.reduceEq, *, inputs_ans, has_ans, coset_ans, known_ans, tgs_len, insL]
      · intro i a; simp (maxDischargeDepth := 9) only [go_sem, Nat.reduceMul, Nat.reduceAdd, Nat.reduceLeDiff, Int.reduceSub, Int.reduceNeg, Int.reduceLT, Int.reduceLE, Int.reduceEq, *, inputs_ans, has_ans, coset_ans, known_ans, tgs_len, insL]
      · intro i x S s hx hi hI hS
        clear hn0 e68 q4
        simp only [go_sem] at hS
        obtain ⟨f4, f5, f7, f11, f66, f67, f68, m0, m1, m2, m3, m4, hn⟩ := hS
        have hw := wrap_succ hi (hlq)
        obtain ⟨hy0, hy1⟩ := any_in hf (i := i) hi
        have hxd : (asL (fld e 1)).getD i .N = x := by simp [List.getD, hx]
        rw [hxd] at hy0 hy1
        have hoi : Ok (.L (tgs (fld (el (asL (fld n 2)) (asI (fld e 0))) 1) (asL (fld e 1)).length)) := ok_tgs (by omega) (ok_fld (ok_el (ok_fld hnn)))
        refine rn ?_
        simp (maxDischargeDepth := 9) only [go_sem, Nat.reduceMul, Nat.reduceAdd, Nat.reduceLeDiff, Int.reduceSub, Int.reduceNeg, Int.reduceLT, Int.reduceLE, Int.reduceEq, *, inputs_ans, has_ans, coset_ans, known_ans, tgs_len, insL]
        unfold metS
        by_cases hm : ((tgs (fld (el (asL (fld n 2)) (asI (fld e 0))) 1) (asL (fld e 1)).length).any fun y => decide (asI y = asI (fld (el (asL (fld b 0)) (asI x)) 0))) = true
        · obtain ⟨y, hy, hye⟩ := List.any_eq_true.1 hm
          have hye := of_decide_eq_true hye
          obtain ⟨hp0, hp1⟩ := hin y (by unfold insL; rw [heq2]; exact hy)
          rw [hye] at hp0 hp1
          have hp2 : (asI (fld (el (asL (fld b 0)) (asI x)) 0)).toNat < (asL (fld n 1)).length := by omega
          simp (maxDischargeDepth := 9) only [go_sem, Nat.reduceMul, Nat.reduceAdd, Nat.reduceLeDiff, Int.reduceSub, Int.reduceNeg, Int.reduceLT, Int.reduceLE, Int.reduceEq, *, inputs_ans, has_ans, coset_ans, known_ans, tgs_len, insL]
          all_goals exact AU_cpre
        · have hmn : ((tgs (fld (el (asL (fld n 2)) (asI (fld e 0))) 1) (asL (fld e 1)).length).any fun y => decide (asI y = asI (fld (el (asL (fld b 0)) (asI x)) 0))) = false := by simpa using hm
          simp (maxDischargeDepth := 9) only [go_sem, Nat.reduceMul, Nat.reduceAdd, Nat.reduceLeDiff, Int.reduceSub, Int.reduceNeg, Int.reduceLT, Int.reduceLE, Int.reduceEq, *, inputs_ans, has_ans, coset_ans, known_ans, tgs_len, insL]
          all_goals exact AU_cpre
      · intro S s hI hf hS
        clear hn0 e68 q4
        simp only [go_sem] at hS
        obtain ⟨f4, f5, f7, f11, f66, f67, f68, m0, m1, m2, m3, m4, hn⟩ := hS
        try simp only [go_sem] at hf
        refine rn ?_
        simp (maxDischargeDepth := 9) only [go_sem, Nat.reduceMul, Nat.reduceAdd, Nat.reduceLeDiff, Int.reduceSub, Int.reduceNeg, Int.reduceLT, Int.reduceLE, Int.reduceEq, *, inputs_ans, has_ans, coset_ans, known_ans, tgs_len, insL]
        all_goals exact AU_cpre
end Go.Proofs.Ytficdonjodadlaa
end
section
set_option linter.unusedVariables false
namespace Go.Ev
def fcs (n : IV) : List IV := ics n (asL (fld n 1)).length
def ckF (n b : IV) (_ : Unit) (i : Nat) : Stp Unit Unit :=
  if (decide (asI (fld ((asL (fld b 0)).getD i .N) 0) = asI (fld ((fcs n).getD i .N) 0)) && decide (asI (fld ((asL (fld b 0)).getD i .N) 1) = asI (fld ((fcs n).getD i .N) 1))) = true then .next () else .ret ()
noncomputable def ckE (n b : IV) (m : Nat) (i : Nat) : Stp Nat (Int × Int) :=
  if CE n b (i : Int) (m : Int) = 0 then .next (m + (asL (fld ((asL (fld b 1)).getD i .N) 2)).length) else .ret (CE n b (i : Int) (m : Int), (i : Int))
noncomputable def CK2 (n b : IV) : Int × Int := match foldS (ckE n b) (fcs n).length (List.range (asL (fld b 1)).length) with | .ret r => r | .stop m => if (m : Int) < ((asL (fld b 0)).length : Int) then (2, ((asL (fld b 1)).length : Int)) else (0, 0) | .next _ => (0, 0)
noncomputable def CK1 (n b : IV) : Int × Int := if ((List.range (fcs n).length).any fun i => !(decide (asI (fld ((asL (fld b 0)).getD i .N) 0) = asI (fld ((fcs n).getD i .N) 0)) && decide (asI (fld ((asL (fld b 0)).getD i .N) 1) = asI (fld ((fcs n).getD i .N) 1)))) = true then (10, 0) else CK2 n b
noncomputable def CK (n b : IV) : Int × Int := if IE n = 0 then (if (2000 : Int) < ((asL (fld b 1)).length : Int) then (2, 0) else if ((asL (fld b 0)).length : Int) < ((fcs n).length : Int) then (10, 0) else CK1 n b) else (IE n, 0)
theorem fold_all {α ρ : Type} {step : Unit → α → Stp Unit ρ} {a : Unit} : ∀ {l : List α}, foldS step () l = .stop a → (∀ x ∈ l, ∀ r, step () x ≠ .stop r) → ∀ x ∈ l, step () x = .next ()
  | [], _, _, x, hx => by cases hx
  | y :: l, h, hs, x, hx => by
    simp only [foldS] at h
    cases hy : step () y with
    | next u =>
      rw [hy] at h
      rcases List.mem_cons.1 hx with rfl | hx
      · exact hy
      · exact fold_all h (fun z hz => hs z (List.mem_cons_of_mem _ hz)) x hx
    | stop u => exact absurd hy (hs y (List.mem_cons_self ..) u)
    | ret r => rw [hy] at h; cases h
theorem CE_ok {n b : IV} {i m : Nat} (h : CE n b (i : Int) (m : Int) = 0) (hm : m ≤ (asL (fld b 0)).length) : m + (asL (fld ((asL (fld b 1)).getD i .N) 2)).length ≤ (asL (fld b 0)).length := by
  have hp : PO n b (i : Int) (m : Int) = 0 := by
    unfold CE at h
    split at h
    · cases h
    · split at h
      · exact h
      · contradiction
  unfold PO at hp
  split at hp
  · rename_i hl
    rw [el_nat] at hp hl
    by_cases h0 : (asL (fld ((asL (fld b 1)).getD i .N) 2)).length = 0
    · omega
    cases hf : foldS (poS n b (i : Int) (m : Int)) () (List.range (asL (fld ((asL (fld b 1)).getD i .N) 2)).length) with
    | ret r => rw [hf] at hp; cases hp
    | next r =>
      have : ∀ l : List Nat, ∀ a, foldS (poS n b (i : Int) (m : Int)) () l ≠ .next a := by
        intro l
        induction l with
        | nil => intro a h; cases h
        | cons x l ih =>
          intro a h
          simp only [foldS] at h
          split at h
          · exact ih _ h
          · rename_i hne; exact hne _ h
      exact absurd hf (this _ _)
    | stop r =>
      have hl2 := fold_all hf (fun x hx r => by unfold poS; split <;> (try split) <;> (try split) <;> simp) ((asL (fld ((asL (fld b 1)).getD i .N) 2)).length - 1) (List.mem_range.2 (by omega))
      unfold poS at hl2
      split at hl2
      · rename_i e1
        split at hl2
        · cases hl2
        · rename_i e2
          rw [el_nat] at e1 e2
          omega
      · cases hl2
  · cases hp
theorem fcs_len {n : IV} : (fcs n).length ≤ (asL (fld n 1)).length := ics_len
theorem ibR_ok {n : IV} (h : IE n = 0) : ibR n = .g 29 [.at (.iv 2 26 (.L (fcs n))), .at (.iv 2 27 .N)] := by unfold ibR; rw [if_pos h]; rfl
theorem ibR_no {n : IV} (h : ¬IE n = 0) : ibR n = .one (.at (.iv 2 29 (.A [.N, .N]))) := by unfold ibR; rw [if_neg h]
end Go.Ev
end
section
set_option linter.unusedSimpArgs false
set_option linter.unusedVariables false
set_option maxRecDepth 100000
set_option maxHeartbeats 4000000
namespace Go.Proofs.Ytficdonjodadlaa
open Go.Ev Go.Proofs
theorem cev_ans (ext : CallF) (k : Nat) (hN : ExN ext) (hE : ExC ext) (hU : ExU ext) (n b : IV) (i next : Int) (p q : Nat) (hk : maxLen + (D0 + 44) ≤ k) (hnn : Ok n) (hb : Ok b) (hq : q ≠ 0) (hz : (asL (fld b 1)).length ≤ 1000000) (hg : NG n) (hi0 : 0 ≤ i) (hi1 : i < ((asL (fld b 1)).length : Int)) (hn0 : 0 ≤ next) (hn1 : next ≤ ((asL (fld b 0)).length : Int)) (hn2 : next ≤ 1000000) : ans (tab.run ext k) 41 [.iv p 25 n, .iv q 29 b, .int .i64 i, .int .i64 next] 3 = some ([.one (.at (.int .i64 (CE n b i next)))], [34]) := by
  obtain ⟨k, rfl⟩ : ∃ k', k = k' + 1 := ⟨k - 1, by omega⟩
  have hk1 : maxLen < k := by omega
  have hk0 : 0 < k := by omega
  have hk_0 : maxLen + (30) ≤ k := by omega
  have hk_1 : maxLen + (D0 + 40) ≤ k := by omega
  refine fn_run (fx := fx41) (m := 43) 47 rfl rfl rfl rfl (fun st hn hg hr => ?_)
  have g0 : st.get (.tmp 0) = .v (.a (.iv p 25 n)) := hg 0 (of_decide_eq_true rfl)
  have g1 : st.get (.tmp 1) = .v (.a (.iv q 29 b)) := hg 1 (of_decide_eq_true rfl)
  have g2 : st.get (.tmp 2) = .v (.a (.int .i64 i)) := hg 2 (of_decide_eq_true rfl)
  have g3 : st.get (.tmp 3) = .v (.a (.int .i64 next)) := hg 3 (of_decide_eq_true rfl)
  have r0 := hr 0
  have r1 := hr 1
  have r2 := hr 2
  clear hg hr
  rw [co41]
  simp only [Try.f41, Option.getD_some]
  unfold CE
  have hl0 := ok_len (ok_fld (j := 0) hb)
  have hl1 := ok_len (ok_fld (j := 1) hb)
  have hin2 : next.toNat ≤ (asL (fld b 0)).length := by omega
  have hii2 : i.toNat ≤ (asL (fld b 1)).length := by omega
  have hoe : Ok (el (asL (fld b 1)) i) := ok_el (ok_fld hb)
  have hoc : Ok (cutB b i next) := ok_cutB hb
  have hzc : (asL (fld (cutB b i next) 1)).length ≤ 1000000 := by rw [cutB_1]; exact Nat.le_trans (List.length_take_le' _ _) hz
  have hpl := hg.pl
  have hqm : (if q ≤ if q ≤ 2 then q else 2 then q else if q ≤ 2 then q else 2) ≠ 0 := by (repeat' split) <;> omega
  by_cases h1 : asI (fld (el (asL (fld b 1)) i) 0) < 0
  · simp (maxDischargeDepth := 9) only [go_sem, Nat.reduceMul, Nat.reduceAdd, Nat.reduceLeDiff, Int.reduceSub, Int.reduceNeg, Int.reduceLT, Int.reduceLE, Int.reduceEq, *, cpre_ans, cpost_ans, cutB_eq]
  by_cases h2 : ((asL (fld n 2)).length : Int) ≤ asI (fld (el (asL (fld b 1)) i) 0)
  · simp (maxDischargeDepth := 9) only [go_sem, Nat.reduceMul, Nat.reduceAdd, Nat.reduceLeDiff, Int.reduceSub, Int.reduceNeg, Int.reduceLT, Int.reduceLE, Int.reduceEq, *, cpre_ans, cpost_ans, cutB_eq]
  have h3 : 0 ≤ asI (fld (el (asL (fld b 1)) i) 0) := by omega
  have h4 : asI (fld (el (asL (fld b 1)) i) 0) < ((asL (fld n 2)).length : Int) := by omega
  have ht := hg.t1 h3 h4
  have ht1 := hg.l1 h3 h4
  have ht2 := hg.l2 h3 h4
  have hti := hg.in1 h3 h4
  have hcp := cpre_ans ext k hN hE hU n (cutB b i next) (el (asL (fld b 1)) i) p (if q ≤ if q ≤ 2 then q else 2 then q else if q ≤ 2 then q else 2) q hk_1 hnn hoc hqm hoe hzc hpl ht ht1 hti
  simp (maxDischargeDepth := 9) only [go_sem, Nat.reduceMul, Nat.reduceAdd, Nat.reduceLeDiff, Int.reduceSub, Int.reduceNeg, Int.reduceLT, Int.reduceLE, Int.reduceEq, *, cpre_ans, cpost_ans, cutB_eq]
  repeat' (first | (with_reducible refine condLt (fun h h' => ?_) (fun h h' => ?_)) | (with_reducible refine condLe (fun h h' => ?_) (fun h h' => ?_)) | (with_reducible refine dop_val ?_) | (with_reducible refine YsLt (fun h h' => ?_) (fun h h' => ?_)) | (with_reducible refine YsLe (fun h h' => ?_) (fun h h' => ?_)) | (with_reducible refine condP (fun h => ?_) (fun h => ?_)) | (with_reducible refine condN (fun h => ?_) (fun h => ?_)) | (with_reducible refine condB (fun h => ?_) (fun h => ?_)) | (with_reducible refine condR (fun h => ?_) (fun h => ?_)) | (with_reducible refine YsB (fun h => ?_) (fun h => ?_)) | (with_reducible refine YsC (fun h => ?_) (fun h => ?_)) | (with_reducible refine Ys_ite (fun h => ?_) (fun h => ?_)) | (intro h) | (with_reducible refine draw_look (by kernel_rfl) (by kernel_rfl) ?_) | (simp (maxDischargeDepth := 9) only [go_sem, Nat.reduceMul, Nat.reduceAdd, Nat.reduceLeDiff, Int.reduceSub, Int.reduceNeg, Int.reduceLT, Int.reduceLE, Int.reduceEq, *, cpre_ans, cpost_ans, cutB_eq]) | (exfalso; omega))
end Go.Proofs.Ytficdonjodadlaa
end
section
set_option linter.unusedVariables false
namespace Go.Ev
def pv (q i : Nat) : Nat := if i = 0 then 2 else q
theorem pv_zero {q : Nat} : pv q 0 = 2 := (rfl)
theorem pv_succ {q i : Nat} (h : q ≤ 2) : (if pv q i ≤ q then pv q i else q) = pv q (i + 1) := by
  unfold pv; rw [if_neg (Nat.succ_ne_zero i)]
  by_cases h1 : i = 0 <;> simp [h1]
  omega
theorem pv_ne {q i : Nat} (h : q ≠ 0) : pv q i ≠ 0 := by unfold pv; split <;> omega
theorem mn_2 {q : Nat} (h : q ≤ 2) : (if 2 ≤ q then 2 else q) = q := by split <;> omega
def clE (x : IV) : IV := setf (setf x 1 (.L (asL (fld x 1)))) 2 (.L (asL (fld x 2)))
def cls (b : IV) (i : Nat) : List IV := (List.range i).map fun k => clE ((asL (fld b 1)).getD k .N)
theorem cls_zero {b : IV} : cls b 0 = [] := (rfl)
theorem cls_succ {b : IV} {i : Nat} : cls b (i + 1) = cls b i ++ [clE ((asL (fld b 1)).getD i .N)] := by simp [cls, List.range_succ]
theorem cls_len {b : IV} {i : Nat} : (cls b i).length = i := by simp [cls]
theorem fld_setf {v u : IV} {j k : Nat} (h : j ≠ k) : fld (setf v j u) k = fld v k := by
  cases v <;> try rfl
  simp [fld, setf, List.getD, List.getElem?_set, h]
theorem clE_A {l : List IV} : clE (.A l) = .A ((l.set 1 (.L (asL (fld (.A l) 1)))).set 2 (.L (asL (fld (.A l) 2)))) := (rfl)
theorem fld_set {l : List IV} {u : IV} {j k : Nat} (h : j ≠ k) : fld (.A (l.set j u)) k = fld (.A l) k := fld_setf (v := .A l) h
theorem cls_get {b x : IV} {i : Nat} (h : (asL (fld b 1))[i]? = some x) : cls b (i + 1) = cls b i ++ [clE x] := by rw [cls_succ]; simp [List.getD, h]
attribute [go_sem] pv_zero cls_zero fld_set clE_A
end Go.Ev
end
section
set_option linter.unusedSimpArgs false
set_option linter.unusedVariables false
set_option maxRecDepth 100000
set_option maxHeartbeats 4000000
namespace Go.Proofs.Ytficdonjodadlaa
open Go.Ev Go.Proofs
theorem AU_check {p : Prop} (h : p := by
  repeat' (first | (with_reducible refine condLt (fun h h' => ?_) (fun h h' => ?_)) | (with_reducible refine condLe (fun h h' => ?_) (fun h h' => ?_)) | (with_reducible refine dop_val ?_) | (with_reducible refine YsLt (fun h h' => ?_) (fun h h' => ?_)) | (with_reducible refine YsLe (fun h h' => ?_) (fun h h' => ?_)) | (with_reducible refine condP (fun h => ?_) (fun h => ?_)) | (with_reducible refine condN (fun h => ?_) (fun h => ?_)) | (with_reducible refine condB (fun h => ?_) (fun h => ?_)) | (with_reducible refine condR (fun h => ?_) (fun h => ?_)) | (with_reducible refine YsB (fun h => ?_) (fun h => ?_)) | (with_reducible refine YsC (fun h => ?_) (fun h => ?_)) | (with_reducible refine Ys_ite (fun h => ?_) (fun h => ?_)) | (intro h) | (with_reducible refine draw_look (by kernel_rfl) (by kernel_rfl) ?_) | (simp (maxDischargeDepth := 9) only [go_sem, Nat.reduceMul, Nat.reduceAdd, Nat.reduceLeDiff, Int.reduceSub, Int.reduceNeg, Int.reduceLT, Int.reduceLE, Int.reduceEq, *, initial_ans, cev_ans, Tab.eqF, Function.comp_apply, R1.frozenL]) | (exfalso; omega))) : p := h
theorem check_ans (ext : CallF) (k : Nat) (hN : ExN ext) (hE : ExC ext) (hU : ExU ext) (n b : IV) (p q : Nat) (hk : maxLen + (D0 + 48) ≤ k) (hnn : Ok n) (hb : Ok b) (hq : q ≠ 0) (hz : (asL (fld b 1)).length ≤ 1000000) (hzc : (asL (fld b 0)).length ≤ 1000000) (hzp : (asL (fld n 1)).length ≤ 1000) (hg : IE n = 0 → NG n) : ans (tab.run ext k) 15 [.iv p 25 n, .iv q 29 b] 6 = some ([.one (.at (.iv 2 38 (.A [.I (CK n b).1, .I (CK n b).2])))], [38]) := by
  obtain ⟨k, rfl⟩ : ∃ k', k = k' + 1 := ⟨k - 1, by omega⟩
  have hk1 : maxLen < k := by omega
  have hk0 : 0 < k := by omega
  have hk_0 : maxLen + (24) ≤ k := by omega
  have hk_1 : maxLen + (D0 + 44) ≤ k := by omega
  refine fn_run (fx := fx15) (m := 85) 87 rfl rfl rfl rfl (fun st hn hg hr => ?_)
  have g0 : st.get (.tmp 0) = .v (.a (.iv p 25 n)) := hg 0 (of_decide_eq_true rfl)
  have g1 : st.get (.tmp 1) = .v (.a (.iv q 29 b)) := hg 1 (of_decide_eq_true rfl)
  have r0 := hr 0
  have r1 := hr 1
  have r2 := hr 2
  have r3 := hr 3
  have r4 := hr 4
  have r5 := hr 5
  clear hg hr
  rw [co15]
  simp only [Try.f15, Option.getD_some]
  unfold CK
  have hl0 := ok_len (ok_fld (j := 0) hb)
  have hl1 := ok_len (ok_fld (j := 1) hb)
  have hlf := fcs_len (n := n)
  have hlf2 : (fcs n).length ≤ 1000000 := by omega
  by_cases h1 : IE n = 0
  case neg =>
    have hib := ibR_no h1
    simp (maxDischargeDepth := 9) only [go_sem, Nat.reduceMul, Nat.reduceAdd, Nat.reduceLeDiff, Int.reduceSub, Int.reduceNeg, Int.reduceLT, Int.reduceLE, Int.reduceEq, *, initial_ans, cev_ans, Tab.eqF, Function.comp_apply, R1.frozenL]
  have hib := ibR_ok h1
  have hg := hg h1
  simp (maxDischargeDepth := 9) only [go_sem, Nat.reduceMul, Nat.reduceAdd, Nat.reduceLeDiff, Int.reduceSub, Int.reduceNeg, Int.reduceLT, Int.reduceLE, Int.reduceEq, *, initial_ans, cev_ans, Tab.eqF, Function.comp_apply, R1.frozenL]
  repeat' (first | (with_reducible refine condLt (fun h h' => ?_) (fun h h' => ?_)) | (with_reducible refine condLe (fun h h' => ?_) (fun h h' => ?_)) | (with_reducible refine dop_val ?_) | (with_reducible refine YsLt (fun h h' => ?_) (fun h h' => ?_)) | (with_reducible refine YsLe (fun h h' => ?_) (fun h h' => ?_)) | (with_reducible refine condP (fun h => ?_) (fun h => ?_)) | (with_reducible refine condN (fun h => ?_) (fun h => ?_)) | (with_reducible refine condB (fun h => ?_) (fun h => ?_)) | (with_reducible refine condR (fun h => ?_) (fun h => ?_)) | (with_reducible refine YsB (fun h => ?_) (fun h => ?_)) | (with_reducible refine YsC (fun h => ?_) (fun h => ?_)) | (with_reducible refine Ys_ite (fun h => ?_) (fun h => ?_)) | (intro h) | (with_reducible refine draw_look (by kernel_rfl) (by kernel_rfl) ?_) | (simp (maxDischargeDepth := 9) only [go_sem, Nat.reduceMul, Nat.reduceAdd, Nat.reduceLeDiff, Int.reduceSub, Int.reduceNeg, Int.reduceLT, Int.reduceLE, Int.reduceEq, *, initial_ans, cev_ans, Tab.eqF, Function.comp_apply, R1.frozenL]) | (exfalso; omega))
  unfold CK1
  refine gen_st (fun s0 hg hr hn0 => ?_)
  have e2 := hg 2
  have e3 := hg 3
  have e4 := hg 4
  have e7 := hg 7
  have e37 := hg 37
  have e38 := hg 38
  have e39 := hg 39
  have q0 := hr 0
  have q1 := hr 1
  have q2 := hr 2
  have q3 := hr 3
  clear hg hr
  simp only [go_sem, *] at hn0 e2 e3 e4 e7 e37 e38 e39 q0 q1 q2 q3
  refine nr (runs_forN (fcs n).length (ckF n b) () 87 (fun i a => [(2, s0.get (.tmp 2)), (3, s0.get (.tmp 3)), (4, s0.get (.tmp 4)), (7, s0.get (.tmp 7)), (37, s0.get (.tmp 37)), (38, s0.get (.tmp 38)), (39, .v (.a (.int .i64 (i : Nat))))]) (fun i a => [(0, s0.row 0), (1, s0.row 1), (2, s0.row 2), (3, s0.row 3)]) (fun i a => True) (by omega) ?_ (trivial) ?_ ?_ ?_ ?_)
  · simp (maxDischargeDepth := 9) only [go_sem, Nat.reduceMul, Nat.reduceAdd, Nat.reduceLeDiff, Int.reduceSub, Int.reduceNeg, Int.reduceLT, Int.reduceLE, Int.reduceEq, *, initial_ans, cev_ans, Tab.eqF, Function.comp_apply, R1.frozenL]
  · intro i a; simp (maxDischargeDepth := 9) only [go_sem, Nat.reduceMul, Nat.reduceAdd, Nat.reduceLeDiff, Int.reduceSub, Int.reduceNeg, Int.reduceLT, Int.reduceLE, Int.reduceEq, *, initial_ans, cev_ans, Tab.eqF, Function.comp_apply, R1.frozenL]
  · intro i a; simp (maxDischargeDepth := 9) only [go_sem, Nat.reduceMul, Nat.reduceAdd, Nat.reduceLeDiff, Int.reduceSub, Int.reduceNeg, Int.reduceLT, Int.reduceLE, Int.reduceEq, *, initial_ans, cev_ans, Tab.eqF, Function.comp_apply, R1.frozenL]
  · intro i a s hi hI hS
    clear hn0 e39
    simp only [go_sem] at hS
    obtain ⟨f2, f3, f4, f7, f37, f38, f39, m0, m1, m2, m3, hn⟩ := hS
    have hw := wrap_succ hi (by unfold maxLen; omega)
    unfold ckF
    have hib : i < (asL (fld b 0)).length := by omega
    refine rn ?_
    simp (maxDischargeDepth := 9) only [go_sem, Nat.reduceMul, Nat.reduceAdd, Nat.reduceLeDiff, Int.reduceSub, Int.reduceNeg, Int.reduceLT, Int.reduceLE, Int.reduceEq, *, initial_ans, cev_ans, Tab.eqF, Function.comp_apply, R1.frozenL]
    all_goals exact AU_check
  · intro a s hI hf hS
    clear hn0 e39
    simp only [go_sem] at hS
    obtain ⟨f2, f3, f4, f7, f37, f38, f39, m0, m1, m2, m3, hn⟩ := hS
    try simp only [go_sem] at hf
    unfold ckF at hf
    simp only [go_sem] at hf
    unfold CK2
    refine rn ?_
    simp (maxDischargeDepth := 9) only [go_sem, Nat.reduceMul, Nat.reduceAdd, Nat.reduceLeDiff, Int.reduceSub, Int.reduceNeg, Int.reduceLT, Int.reduceLE, Int.reduceEq, *, initial_ans, cev_ans, Tab.eqF, Function.comp_apply, R1.frozenL]
    refine gen_st (fun s0 hg hr hn0 => ?_)
    have e2 := hg 2
    have e3 := hg 3
    have e4 := hg 4
    have e54 := hg 54
    have e55 := hg 55
    have e56 := hg 56
    have e7 := hg 7
    have q0 := hr 0
    have q1 := hr 1
    have q2 := hr 2
    have q3 := hr 3
    clear hg hr
    simp only [go_sem, *] at hn0 e2 e3 e4 e54 e55 e56 e7 q0 q1 q2 q3
    refine nr (runs_forN (asL (fld b 1)).length (ckE n b) (fcs n).length 87 (fun i m => [(2, s0.get (.tmp 2)), (3, s0.get (.tmp 3)), (4, s0.get (.tmp 4)), (54, s0.get (.tmp 54)), (55, s0.get (.tmp 55)), (7, .v (.a (.int .i64 (m : Nat)))), (56, .v (.a (.int .i64 (i : Nat))))]) (fun i m => [(0, s0.row 0), (1, s0.row 1), (2, s0.row 2), (3, s0.row 3)]) (fun i m => (m ≤ (asL (fld b 0)).length)) (by omega) ?_ (by omega) ?_ ?_ ?_ ?_)
    · simp (maxDischargeDepth := 9) only [go_sem, Nat.reduceMul, Nat.reduceAdd, Nat.reduceLeDiff, Int.reduceSub, Int.reduceNeg, Int.reduceLT, Int.reduceLE, Int.reduceEq, *, initial_ans, cev_ans, Tab.eqF, Function.comp_apply, R1.frozenL]
    · intro i a; simp (maxDischargeDepth := 9) only [go_sem, Nat.reduceMul, Nat.reduceAdd, Nat.reduceLeDiff, Int.reduceSub, Int.reduceNeg, Int.reduceLT, Int.reduceLE, Int.reduceEq, *, initial_ans, cev_ans, Tab.eqF, Function.comp_apply, R1.frozenL]
    · intro i a; simp (maxDischargeDepth := 9) only [go_sem, Nat.reduceMul, Nat.reduceAdd, Nat.reduceLeDiff, Int.reduceSub, Int.reduceNeg, Int.reduceLT, Int.reduceLE, Int.reduceEq, *, initial_ans, cev_ans, Tab.eqF, Function.comp_apply, R1.frozenL]
    · intro i m s hi hI hS
      clear hn0 e56 e7
      simp only [go_sem] at hS
      obtain ⟨f2, f3, f4, f54, f55, f7, f56, m0, m1, m2, m3, hn⟩ := hS
      have hw := wrap_succ hi (hl1)
      have hoI : (0 : Int) ≤ (i : Int) := by omega
      have hoJ : (i : Int) < ((asL (fld b 1)).length : Int) := by omega
      have hoM : (0 : Int) ≤ (m : Int) := by omega
      have hoN : (m : Int) ≤ ((asL (fld b 0)).length : Int) := by omega
      have hoK : (m : Int) ≤ 1000000 := by omega
      refine rn ?_
      simp (maxDischargeDepth := 9) only [go_sem, Nat.reduceMul, Nat.reduceAdd, Nat.reduceLeDiff, Int.reduceSub, Int.reduceNeg, Int.reduceLT, Int.reduceLE, Int.reduceEq, *, initial_ans, cev_ans, Tab.eqF, Function.comp_apply, R1.frozenL]
      unfold ckE
      by_cases hce : CE n b (i : Int) (m : Int) = 0
      · have hnx := CE_ok hce hI
        have hwm : IntKind.i64.wrap ((m : Int) + ((asL (fld ((asL (fld b 1)).getD i .N) 2)).length : Int)) = ((m + (asL (fld ((asL (fld b 1)).getD i .N) 2)).length : Nat) : Int) := by
          rw [Go.IntWalk.i64_in _ (by omega)]; omega
        simp (maxDischargeDepth := 9) only [go_sem, Nat.reduceMul, Nat.reduceAdd, Nat.reduceLeDiff, Int.reduceSub, Int.reduceNeg, Int.reduceLT, Int.reduceLE, Int.reduceEq, *, initial_ans, cev_ans, Tab.eqF, Function.comp_apply, R1.frozenL]
        all_goals exact AU_check
      · simp (maxDischargeDepth := 9) only [go_sem, Nat.reduceMul, Nat.reduceAdd, Nat.reduceLeDiff, Int.reduceSub, Int.reduceNeg, Int.reduceLT, Int.reduceLE, Int.reduceEq, *, initial_ans, cev_ans, Tab.eqF, Function.comp_apply, R1.frozenL]
        all_goals exact AU_check
    · intro m s hI hf hS
      clear hn0 e56 e7
      simp only [go_sem] at hS
      obtain ⟨f2, f3, f4, f54, f55, f7, f56, m0, m1, m2, m3, hn⟩ := hS
      try simp only [go_sem] at hf
      refine rn ?_
      simp (maxDischargeDepth := 9) only [go_sem, Nat.reduceMul, Nat.reduceAdd, Nat.reduceLeDiff, Int.reduceSub, Int.reduceNeg, Int.reduceLT, Int.reduceLE, Int.reduceEq, *, initial_ans, cev_ans, Tab.eqF, Function.comp_apply, R1.frozenL]
      all_goals exact AU_check
end Go.Proofs.Ytficdonjodadlaa
end
section
set_option linter.unusedVariables false
namespace Go.Ev
def nE (t : Int) (l : IV) : IV := .A [.I t, l, .N, .B false]
noncomputable def aE (n b : IV) (t : Int) (l : IV) : Int :=
  if (CK n b).1 = 0 then (if t < 0 ∨ ((asL (fld n 2)).length : Int) ≤ t ∨ ¬CP n b (nE t l) = 0 then 7 else if (2000 : Int) ≤ ((asL (fld b 1)).length : Int) then 2 else 0) else (CK n b).1
def ocs (n b : IV) (t : Int) (i : Nat) : List IV := (List.range i).map fun k => .A [.I (asI ((tgs (fld (el (asL (fld n 2)) t) 2) (asL (fld (el (asL (fld n 2)) t) 2)).length).getD k .N)), .I ((asL (fld b 1)).length : Int)]
theorem ocs_zero {n b : IV} {t : Int} : ocs n b t 0 = [] := (rfl)
theorem ocs_succ {n b : IV} {t : Int} {i : Nat} : ocs n b t (i + 1) = ocs n b t i ++ [.A [.I (asI ((tgs (fld (el (asL (fld n 2)) t) 2) (asL (fld (el (asL (fld n 2)) t) 2)).length).getD i .N)), .I ((asL (fld b 1)).length : Int)]] := by simp [ocs, List.range_succ]
theorem ocs_len {n b : IV} {t : Int} {i : Nat} : (ocs n b t i).length = i := by simp [ocs]
def pss (b : IV) (i : Nat) : List IV := (List.range i).map fun (k : Nat) => .I (((asL (fld b 0)).length + k : Nat) : Int)
theorem pss_zero {b : IV} : pss b 0 = [] := (rfl)
theorem pss_succ {b : IV} {i : Nat} : pss b (i + 1) = pss b i ++ [.I (((asL (fld b 0)).length + i : Nat) : Int)] := by simp [pss, List.range_succ]
theorem pss_len {b : IV} {i : Nat} : (pss b i).length = i := by simp [pss]
attribute [go_sem] ocs_zero pss_zero
def aC (n b : IV) (t : Int) : List IV := asL (fld b 0) ++ ocs n b t (asL (fld (el (asL (fld n 2)) t) 2)).length
def aV (n b : IV) (t : Int) (l : IV) : List IV := cls b (asL (fld b 1)).length ++ [.A [.I t, .L (asL l), .L (pss b (asL (fld (el (asL (fld n 2)) t) 2)).length), .B false]]
def pvx (q r i : Nat) : Nat := if pv q i ≤ r then pv q i else r
noncomputable def aR (n b : IV) (t : Int) (l : IV) (q r : Nat) : RV := if aE n b t l = 0 then .g 29 [.at (.iv q 26 (.L (aC n b t))), .at (.iv (pvx q r (asL (fld b 1)).length) 27 (.L (aV n b t l)))] else .one (.at (.iv 2 29 (.A [.N, .N])))
theorem CK_IE {n b : IV} (h : (CK n b).1 = 0) : IE n = 0 := by
  unfold CK at h
  split at h
  · assumption
  · exact h
theorem aR_no {n b : IV} {t : Int} {l : IV} {q r : Nat} (h : ¬aE n b t l = 0) : aR n b t l q r = .one (.at (.iv 2 29 (.A [.N, .N]))) := by unfold aR; rw [if_neg h]
theorem aR_ok {n b : IV} {t : Int} {l : IV} {q r : Nat} (h : aE n b t l = 0) : aR n b t l q r = .g 29 [.at (.iv q 26 (.L (aC n b t))), .at (.iv (pvx q r (asL (fld b 1)).length) 27 (.L (aV n b t l)))] := by unfold aR; rw [if_pos h]
theorem nE_eq {t : Int} {l : IV} : IV.A [.I t, l, .N, .B false] = nE t l := (rfl)
theorem ok_nE {t : Int} {l : IV} (h : -9223372036854775808 ≤ t ∧ t < 18446744073709551616) (hl : Ok l) : Ok (nE t l) := by
  refine .A (fun x hx => ?_)
  simp only [List.mem_cons, List.not_mem_nil, or_false] at hx
  rcases hx with rfl | rfl | rfl | rfl
  · exact .I h
  · exact hl
  · exact .N
  · exact .B
theorem nE_f0 {t : Int} {l : IV} : fld (nE t l) 0 = .I t := (rfl)
theorem nE_f1 {t : Int} {l : IV} : fld (nE t l) 1 = l := (rfl)
theorem nE_f2 {t : Int} {l : IV} : fld (nE t l) 2 = .N := (rfl)
theorem nE_f3 {t : Int} {l : IV} : fld (nE t l) 3 = .B false := (rfl)
attribute [go_sem] nE_f0 nE_f1 nE_f2 nE_f3
theorem nE_0 {t : Int} {l : IV} : asI (fld (nE t l) 0) = t := (rfl)
end Go.Ev
end
section
set_option linter.unusedSimpArgs false
set_option linter.unusedVariables false
set_option maxRecDepth 100000
set_option maxHeartbeats 4000000
namespace Go.Proofs.Ytficdonjodadlaa
open Go.Ev Go.Proofs
theorem AU_clone {p : Prop} (h : p := by
  repeat' (first | (with_reducible refine condLt (fun h h' => ?_) (fun h h' => ?_)) | (with_reducible refine condLe (fun h h' => ?_) (fun h h' => ?_)) | (with_reducible refine dop_val ?_) | (with_reducible refine YsLt (fun h h' => ?_) (fun h h' => ?_)) | (with_reducible refine YsLe (fun h h' => ?_) (fun h h' => ?_)) | (with_reducible refine condP (fun h => ?_) (fun h => ?_)) | (with_reducible refine condN (fun h => ?_) (fun h => ?_)) | (with_reducible refine condB (fun h => ?_) (fun h => ?_)) | (with_reducible refine condR (fun h => ?_) (fun h => ?_)) | (with_reducible refine YsB (fun h => ?_) (fun h => ?_)) | (with_reducible refine YsC (fun h => ?_) (fun h => ?_)) | (with_reducible refine Ys_ite (fun h => ?_) (fun h => ?_)) | (intro h) | (with_reducible refine draw_look (by kernel_rfl) (by kernel_rfl) ?_) | (simp (maxDischargeDepth := 9) only [go_sem, Nat.reduceMul, Nat.reduceAdd, Nat.reduceLeDiff, Int.reduceSub, Int.reduceNeg, Int.reduceLT, Int.reduceLE, Int.reduceEq, *, cls_len, Nat.le_refl]) | (exfalso; omega))) : p := h
theorem clone_ans (ext : CallF) (k : Nat) (b : IV) (q : Nat) (hk : maxLen + (4) ≤ k) (hb : Ok b) (hq : q ≠ 0) (hq2 : q ≤ 2) (hz : (asL (fld b 1)).length ≤ 1000000) (hzc : (asL (fld b 0)).length ≤ 1000000) (hpp : ∀ x ∈ (asL (fld b 1)), (∃ l, x = .A l) ∧ (asL (fld x 1)).length ≤ 100000 ∧ (asL (fld x 2)).length ≤ 100000) : ans (tab.run ext k) 51 [.iv q 29 b] 12 = some ([.g 29 [.own q 54 (asL (fld b 0)), .own (pv q (asL (fld b 1)).length) 56 (cls b (asL (fld b 1)).length)]], [29]) := by
  obtain ⟨k, rfl⟩ : ∃ k', k = k' + 1 := ⟨k - 1, by omega⟩
  have hk1 : maxLen < k := by omega
  have hk0 : 0 < k := by omega
  refine fn_run (fx := fx51) (m := 36) 37 rfl rfl rfl rfl (fun st hn hg hr => ?_)
  have g0 : st.get (.tmp 0) = .v (.a (.iv q 29 b)) := hg 0 (of_decide_eq_true rfl)
  have r0 := hr 0
  have r1 := hr 1
  have r2 := hr 2
  have r3 := hr 3
  have r4 := hr 4
  have r5 := hr 5
  have r6 := hr 6
  have r7 := hr 7
  have r8 := hr 8
  have r9 := hr 9
  have r10 := hr 10
  have r11 := hr 11
  clear hg hr
  rw [co51]
  simp only [Try.f51, Option.getD_some]
  have hl0 := ok_len (ok_fld (j := 0) hb)
  have hl1 := ok_len (ok_fld (j := 1) hb)
  have hpv := fun i => pv_ne (q := q) (i := i) hq
  have hpa := mn_2 hq2
  have hps := fun i => pv_succ (q := q) (i := i) hq2
  have hqq := Nat.le_refl q
  simp (maxDischargeDepth := 9) only [go_sem, Nat.reduceMul, Nat.reduceAdd, Nat.reduceLeDiff, Int.reduceSub, Int.reduceNeg, Int.reduceLT, Int.reduceLE, Int.reduceEq, *, cls_len, Nat.le_refl]
  refine gen_st (fun s0 hg hr hn0 => ?_)
  have e2 := hg 2
  have e3 := hg 3
  have e13 := hg 13
  have e14 := hg 14
  have e15 := hg 15
  have q0 := hr 0
  have q1 := hr 1
  have q2 := hr 2
  have q3 := hr 3
  have q4 := hr 4
  have q5 := hr 5
  have q6 := hr 6
  have q8 := hr 8
  clear hg hr
  simp (maxDischargeDepth := 9) only [go_sem, *] at hn0 e2 e3 e13 e14 e15 q0 q1 q2 q3 q4 q5 q6 q8
  refine nr (runs_for (asL (fld b 1)) (fun (_ : Unit) _ => Stp.next (ρ := Unit) ()) () 37 (fun i a => [(2, s0.get (.tmp 2)), (3, s0.get (.tmp 3)), (13, s0.get (.tmp 13)), (14, s0.get (.tmp 14)), (15, .v (.a (.int .i64 (i : Nat))))]) (fun i a => [(0, s0.row 0), (1, s0.row 1), (2, s0.row 2), (3, s0.row 3), (8, s0.row 8), (4, some (.box false 29 [0, 1] (.g 29 [.own 5, .own 6]))), (5, some (.arr q 54 (asL (fld b 0)))), (6, some (.arr (pv q i) 56 (cls b i)))]) (fun i a => True) (by omega) ?_ (trivial) ?_ ?_ ?_ ?_)
  · simp (maxDischargeDepth := 9) only [go_sem, Nat.reduceMul, Nat.reduceAdd, Nat.reduceLeDiff, Int.reduceSub, Int.reduceNeg, Int.reduceLT, Int.reduceLE, Int.reduceEq, *, cls_len, Nat.le_refl]
  · intro i a; simp (maxDischargeDepth := 9) only [go_sem, Nat.reduceMul, Nat.reduceAdd, Nat.reduceLeDiff, Int.reduceSub, Int.reduceNeg, Int.reduceLT, Int.reduceLE, Int.reduceEq, *, cls_len, Nat.le_refl]
  · intro i a; simp (maxDischargeDepth := 9) only [go_sem, Nat.reduceMul, Nat.reduceAdd, Nat.reduceLeDiff, Int.reduceSub, Int.reduceNeg, Int.reduceLT, Int.reduceLE, Int.reduceEq, *, cls_len, Nat.le_refl]
  · intro i x a s hx hi hI hS
    clear hn0 e15 q4 q5 q6
    simp only [go_sem] at hS
    obtain ⟨f2, f3, f13, f14, f15, m0, m1, m2, m3, m8, m4, m5, m6, hn⟩ := hS
    have hw := wrap_succ hi (hl1)
    have hcg := cls_get hx
    obtain ⟨⟨l, rfl⟩, hp1, hp2⟩ := hpp x (List.mem_of_getElem? hx)
    have hp1 : (asL (fld (.A l) 1)).length ≤ 1000000 := by omega
    have hp2 : (asL (fld (.A l) 2)).length ≤ 1000000 := by omega
    have hcl : i + 1 ≤ 1000000 := by omega
    refine rn ?_
    simp (maxDischargeDepth := 9) only [go_sem, Nat.reduceMul, Nat.reduceAdd, Nat.reduceLeDiff, Int.reduceSub, Int.reduceNeg, Int.reduceLT, Int.reduceLE, Int.reduceEq, *, cls_len, Nat.le_refl]
    all_goals exact AU_clone
  · intro a s hI hf hS
    clear hn0 e15 q4 q5 q6
    simp only [go_sem] at hS
    obtain ⟨f2, f3, f13, f14, f15, m0, m1, m2, m3, m8, m4, m5, m6, hn⟩ := hS
    try simp only [go_sem] at hf
    refine rn ?_
    simp (maxDischargeDepth := 9) only [go_sem, Nat.reduceMul, Nat.reduceAdd, Nat.reduceLeDiff, Int.reduceSub, Int.reduceNeg, Int.reduceLT, Int.reduceLE, Int.reduceEq, *, cls_len, Nat.le_refl]
    all_goals exact AU_clone
end Go.Proofs.Ytficdonjodadlaa
end
section
set_option linter.unusedVariables false
namespace Go.Ev
def chO (b : IV) (p : Int) (i : Nat) : List IV := ((List.range i).filter fun (c : Nat) => decide (asI (fld ((asL (fld b 0)).getD c .N) 0) = p)).map fun (c : Nat) => .L [.I (c : Int)]
theorem chO_zero {b : IV} {p : Int} : chO b p 0 = [] := (rfl)
theorem chO_in {b : IV} {p : Int} {i : Nat} (h : asI (fld ((asL (fld b 0)).getD i .N) 0) = p) : chO b p (i + 1) = chO b p i ++ [.L [.I (i : Int)]] := by
  simp only [chO, List.range_succ, List.filter_append, List.map_append, List.filter_cons, List.filter_nil, h, decide_true, if_true, List.map_cons, List.map_nil]
theorem chO_no {b : IV} {p : Int} {i : Nat} (h : ¬asI (fld ((asL (fld b 0)).getD i .N) 0) = p) : chO b p (i + 1) = chO b p i := by
  simp only [chO, List.range_succ, List.filter_append, List.map_append, List.filter_cons, List.filter_nil, h, decide_false, Bool.false_eq_true, if_false, List.map_nil, List.append_nil]
theorem chO_len {b : IV} {p : Int} {i : Nat} : (chO b p i).length ≤ i := by
  unfold chO; rw [List.length_map]; exact Nat.le_trans (List.length_filter_le _ _) (by simp)
attribute [go_sem] chO_zero
noncomputable def FT (b l : IV) (c : Int) : Bool := !((asL l).any fun d => !TG b c (asI d))
end Go.Ev
end
section
set_option linter.unusedVariables false
namespace Go.Ev
section
variable {T : Tab} {fx : Fx} {call : CallF} {st : St}
theorem val_append {d0 : Option Tmp} {s x : Operand} {t : TypeId} {t0 : TypeId} {p0 : String} {af : Array Edge} {g0 : Option (Nat × Bool)} : T.val fx call ⟨d0, .call ⟨.builtin .append, #[s, x], #[t, t]⟩, t0, p0, af, g0⟩ st = if (hintAt fx d0).isSome = true then none else (match T.ty t with
        | .slice e =>
          if t = t then
          (get1 st s).bind fun a => (get1 st x).bind fun b =>
          match a, b with
          | .iv _ t1 .N, .iv q t2 v => if t1 = t ∧ t2 = t ∧ roomFor (asL v).length (T.row e).bytes ∧ T.okE e then some (.v (.a (.iv q t (.L (asL v))))) else none
          | _, _ => none
          else none
        | _ => none) := (rfl)
attribute [go_sem] val_append
end
end Go.Ev
end
section
set_option linter.unusedSimpArgs false
set_option linter.unusedVariables false
set_option maxRecDepth 100000
namespace Go.Proofs.Ytficdonjodadlaa
open Go.Ev Go.Proofs
def cmA (b : IV) (p : Nat) (l : List IV) : Mem := [none, none, none, none, none, some (.box true 44 [0] (.a (.own 6))), some (.arr 2 46 l), some (.box true 29 [] (.a (.iv p 29 b))), some (.box true 88 [] (.a (.fn 75 [5, 7, 8])))]
def cmB (b : IV) (p : Nat) (l : List IV) (R : Nat → Option Row) : Prop := R 5 = some (.box true 44 [0] (.a (.own 6))) ∧ R 6 = some (.arr 2 46 l) ∧ R 7 = some (.box true 29 [] (.a (.iv p 29 b))) ∧ R 8 = some (.box true 88 [] (.a (.fn 75 [5, 7, 8])))
theorem choose_call {st : St} {call : CallF} {b v : IV} {p q k : Nat} {l l2 : List IV} {m2 : Mem} {t s : Tmp} (hp : p ≠ 0) (hk : k < 5)
    (r5 : st.row 5 = some (.box true 44 [0] (.a (.own 6)))) (r6 : st.row 6 = some (.arr 2 46 l)) (r7 : st.row 7 = some (.box true 29 [] (.a (.iv p 29 b)))) (r8 : st.row 8 = some (.box true 88 [] (.a (.fn 75 [5, 7, 8])))) {z : Nat} {rl : List IV} (rk : st.row k = some (.arr z 3 rl))
    (ho : st.get (.tmp t) = .v (.a (.iv q 46 v))) (ho2 : st.get (.tmp s) = .v (.a (.own k)))
    (hrun : call 75 [.iv q 46 v, .iv 0 46 (.L rl), .ptr 5 [] 44, .ptr 7 [] 29, .ptr 8 [] 88] (cmA b p l) = some ([], [], m2))
    (hm : cmB b p l2 (rowIn m2)) :
    ∃ st', st.callee tab call 75 [5, 7, 8] [46, 46] [.tmp t, .tmp s] = some ([], [], st') ∧ (∀ d, st'.get (.tmp d) = (st.get (.tmp d)).map (At.killL [6])) ∧ st'.env.length = st.env.length ∧
      st'.row 5 = some (.box true 44 [0] (.a (.own 6))) ∧ st'.row 6 = some (.arr 2 46 l2) ∧ st'.row 7 = some (.box true 29 [] (.a (.iv p 29 b))) ∧ st'.row 8 = some (.box true 88 [] (.a (.fn 75 [5, 7, 8]))) := by
  obtain ⟨h5, h6, h7, h8⟩ := hm
  have k5 : k ≠ 5 := by omega
  have k6 : k ≠ 6 := by omega
  have k7 : k ≠ 7 := by omega
  have k8 : k ≠ 8 := by omega
  have e1 : st.reach 60 ([5, 7, 8] ++ [Operand.tmp t, Operand.tmp s].flatMap fun o => (st.get o).caps) [] = [5, 7, 8] := by
    simp [St.reach, ho, ho2, SV.caps, St.capsAt, r5, r7, r8, V1.caps]
  have e2 : st.pairs (tab.nk 75) [5, 7, 8] = [(5, 5), (6, 6), (7, 7), (8, 8)] := by
    simp [St.pairs, nk75, St.ownAt, r5, r7, r8]
  have e3 : st.handOver (tab.nk 75) [(5, 5), (6, 6), (7, 7), (8, 8)] = cmA b p l := by
    simp [St.handOver, nk75, setD, r5, r6, r7, r8, Row.tr, At.tr, V1.map, hp, List.lookup, cmA, List.replicate]
  have e4 : st.args tab [(5, 5), (6, 6), (7, 7), (8, 8)] [46, 46] [.tmp t, .tmp s] = some [.iv q 46 v, .iv 0 46 (.L rl)] := by
    simp [St.args, ho, ho2, St.arg, St.view1, Tab.iv1, rk, ty46]
  have e5 : [5, 7, 8].mapM (st.capPtr [(5, 5), (6, 6), (7, 7), (8, 8)]) = some [.ptr 5 [] 44, .ptr 7 [] 29, .ptr 8 [] 88] := by
    simp [St.capPtr, List.lookup, r5, r7, r8]
  have e6 : (nodup (([(5, 5), (6, 6), (7, 7), (8, 8)] : List (Nat × Nat)).map (·.1)) && nodup (([(5, 5), (6, 6), (7, 7), (8, 8)] : List (Nat × Nat)).map (·.2)) && [5, 7, 8].all st.isBox && st.handOk [(5, 5), (6, 6), (7, 7), (8, 8)] && [Operand.tmp t, Operand.tmp s].all (fun o => (st.get o).viewKeys.all fun k => !((([(5, 5), (6, 6), (7, 7), (8, 8)] : List (Nat × Nat)).map (·.1)).contains k))) = true := by
    simp [nodup, St.isBox, r5, r6, r7, r8, St.handOk, ho, ho2, SV.viewKeys, At.viewKeys, k5, k6, k7, k8]
  refine ⟨((((st.killL [6]).putRow 5 (some (.box true 44 [0] (.a (.own 6))))).putRow 6 (some (.arr 2 46 l2))).putRow 7 (some (.box true 29 [] (.a (.iv p 29 b))))).putRow 8 (some (.box true 88 [] (.a (.fn 75 [5, 7, 8])))), ?_, fun d => ?_, ?_, ?_, ?_, ?_, ?_⟩
  · unfold St.callee
    rw [e1, e2]
    unfold St.callee1
    rw [if_pos e6, e4, Option.bind_some, e5, Option.bind_some, e3]
    simp only [List.cons_append, List.nil_append]
    rw [hrun, Option.bind_some]
    simp [St.takeBack, elders, backRows, backRow, h5, h6, h7, h8, r5, r7, r8, V1.map, At.tr, swap, List.lookup, hp]
  · simp only [get_put, get_killL]
  · simp only [len_put, len_killL]
  all_goals simp [St.row_put]
theorem choices_call {st : St} {call : CallF} {b u : IV} {p q : Nat} {l l2 : List IV} {m2 : Mem} {s : Tmp} (hp : p ≠ 0)
    (r1 : st.row 1 = some (.box false 44 [0] (.a (.own 2)))) (r2 : st.row 2 = some (.arr 2 46 l)) (r0 : st.row 0 = some (.box false 29 [] (.a (.iv p 29 b)))) (r3 : st.row 3 = some (.box false 88 [] (.a (.fn 75 [1, 0, 3]))))
    (ho : st.get (.tmp s) = .v (.a (.iv q 46 u)))
    (hrun : call 75 [.iv 2 46 .N, .iv q 46 u, .ptr 5 [] 44, .ptr 7 [] 29, .ptr 8 [] 88] (cmA b p l) = some ([], [], m2))
    (hm : cmB b p l2 (rowIn m2)) :
    ∃ st', st.callee tab call 75 [1, 0, 3] [46, 46] [.const (.slice none 0 0), .tmp s] = some ([], [], st') ∧ (∀ d, st'.get (.tmp d) = (st.get (.tmp d)).map (At.killL [2])) ∧ st'.env.length = st.env.length ∧
      st'.row 1 = some (.box false 44 [0] (.a (.own 2))) ∧ st'.row 2 = some (.arr 2 46 l2) ∧ st'.row 0 = some (.box false 29 [] (.a (.iv p 29 b))) ∧ st'.row 3 = some (.box false 88 [] (.a (.fn 75 [1, 0, 3]))) := by
  obtain ⟨h5, h6, h7, h8⟩ := hm
  have hc : st.get (.const (.slice none 0 0)) = .v (.a .nil) := rfl
  have e1 : st.reach 60 ([1, 0, 3] ++ [Operand.const (.slice none 0 0), Operand.tmp s].flatMap fun o => (st.get o).caps) [] = [1, 0, 3] := by
    simp [St.reach, ho, hc, SV.caps, St.capsAt, r0, r1, r3, V1.caps]
  have e2 : st.pairs (tab.nk 75) [1, 0, 3] = [(1, 5), (2, 6), (0, 7), (3, 8)] := by
    simp [St.pairs, nk75, St.ownAt, r0, r1, r3]
  have e3 : st.handOver (tab.nk 75) [(1, 5), (2, 6), (0, 7), (3, 8)] = cmA b p l := by
    simp [St.handOver, nk75, setD, r0, r1, r2, r3, Row.tr, At.tr, V1.map, hp, List.lookup, cmA, List.replicate]
  have e4 : st.args tab [(1, 5), (2, 6), (0, 7), (3, 8)] [46, 46] [.const (.slice none 0 0), .tmp s] = some [.iv 2 46 .N, .iv q 46 u] := by
    simp [St.args, ho, hc, St.arg, St.view1, Tab.iv1, ty46]
  have e5 : [1, 0, 3].mapM (st.capPtr [(1, 5), (2, 6), (0, 7), (3, 8)]) = some [.ptr 5 [] 44, .ptr 7 [] 29, .ptr 8 [] 88] := by
    simp [St.capPtr, List.lookup, r0, r1, r3]
  have e6 : (nodup (([(1, 5), (2, 6), (0, 7), (3, 8)] : List (Nat × Nat)).map (·.1)) && nodup (([(1, 5), (2, 6), (0, 7), (3, 8)] : List (Nat × Nat)).map (·.2)) && [1, 0, 3].all st.isBox && st.handOk [(1, 5), (2, 6), (0, 7), (3, 8)] && [Operand.const (.slice none 0 0), Operand.tmp s].all (fun o => (st.get o).viewKeys.all fun k => !((([(1, 5), (2, 6), (0, 7), (3, 8)] : List (Nat × Nat)).map (·.1)).contains k))) = true := by
    simp [nodup, St.isBox, r0, r1, r2, r3, St.handOk, ho, hc, SV.viewKeys, At.viewKeys]
  refine ⟨((((st.killL [2]).putRow 1 (some (.box false 44 [0] (.a (.own 2))))).putRow 2 (some (.arr 2 46 l2))).putRow 0 (some (.box false 29 [] (.a (.iv p 29 b))))).putRow 3 (some (.box false 88 [] (.a (.fn 75 [1, 0, 3])))), ?_, fun d => ?_, ?_, ?_, ?_, ?_, ?_⟩
  · unfold St.callee
    rw [e1, e2]
    unfold St.callee1
    rw [if_pos e6, e4, Option.bind_some, e5, Option.bind_some, e3]
    simp only [List.cons_append, List.nil_append]
    rw [hrun, Option.bind_some]
    simp [St.takeBack, elders, backRows, backRow, h5, h6, h7, h8, r0, r1, r3, V1.map, At.tr, swap, List.lookup, hp]
  · simp only [get_put, get_killL]
  · simp only [len_put, len_killL]
  all_goals simp [St.row_put]
end Go.Proofs.Ytficdonjodadlaa
end
section
set_option linter.unusedSimpArgs false
set_option linter.unusedVariables false
set_option maxRecDepth 100000
set_option maxHeartbeats 4000000
namespace Go.Proofs.Ytficdonjodadlaa
open Go.Ev Go.Proofs
theorem AU_fits {p : Prop} (h : p := by
  repeat' (first | (with_reducible refine condLt (fun h h' => ?_) (fun h h' => ?_)) | (with_reducible refine condLe (fun h h' => ?_) (fun h h' => ?_)) | (with_reducible refine dop_val ?_) | (with_reducible refine YsLt (fun h h' => ?_) (fun h h' => ?_)) | (with_reducible refine YsLe (fun h h' => ?_) (fun h h' => ?_)) | (with_reducible refine condP (fun h => ?_) (fun h => ?_)) | (with_reducible refine condN (fun h => ?_) (fun h => ?_)) | (with_reducible refine condB (fun h => ?_) (fun h => ?_)) | (with_reducible refine condR (fun h => ?_) (fun h => ?_)) | (with_reducible refine YsB (fun h => ?_) (fun h => ?_)) | (with_reducible refine YsC (fun h => ?_) (fun h => ?_)) | (with_reducible refine Ys_ite (fun h => ?_) (fun h => ?_)) | (intro h) | (with_reducible refine draw_look (by kernel_rfl) (by kernel_rfl) ?_) | (simp (maxDischargeDepth := 9) only [go_sem, Nat.reduceMul, Nat.reduceAdd, Nat.reduceLeDiff, Int.reduceSub, Int.reduceNeg, Int.reduceLT, Int.reduceLE, Int.reduceEq, *, concurrent_ans]) | (exfalso; omega))) : p := h
theorem fits_ans (ext : CallF) (k : Nat) (hE : ExC ext) (hU : ExU ext) (b l : IV) (c : Int) (p q : Nat) (hk : maxLen + (D0 + 24) ≤ k) (hb : Ok b) (hp : p ≠ 0) (hfd : FD b = true) (hv : Ok l) (hc0 : 0 ≤ c) (hc1 : c < ((asL (fld b 0)).length : Int)) (hz : (asL (fld b 1)).length ≤ 1000000) (hl : ∀ x ∈ asL l, 0 ≤ asI x ∧ asI x < ((asL (fld b 0)).length : Int)) : ans (tab.run ext k) 77 [.iv p 29 b, .iv q 46 l, .int .i64 c] 1 = some ([.one (.at (.bool (FT b l c)))], [4]) := by
  obtain ⟨k, rfl⟩ : ∃ k', k = k' + 1 := ⟨k - 1, by omega⟩
  have hk1 : maxLen < k := by omega
  have hk0 : 0 < k := by omega
  have hk_0 : maxLen + (D0 + 20) ≤ k := by omega
  refine fn_run (fx := fx77) (m := 18) 21 rfl rfl rfl rfl (fun st hn hg hr => ?_)
  have g0 : st.get (.tmp 0) = .v (.a (.iv p 29 b)) := hg 0 (of_decide_eq_true rfl)
  have g1 : st.get (.tmp 1) = .v (.a (.iv q 46 l)) := hg 1 (of_decide_eq_true rfl)
  have g2 : st.get (.tmp 2) = .v (.a (.int .i64 c)) := hg 2 (of_decide_eq_true rfl)
  have r0 := hr 0
  clear hg hr
  rw [co77]
  simp only [Try.f77, Option.getD_some]
  unfold FT
  have hll := ok_len hv
  simp (maxDischargeDepth := 9) only [go_sem, Nat.reduceMul, Nat.reduceAdd, Nat.reduceLeDiff, Int.reduceSub, Int.reduceNeg, Int.reduceLT, Int.reduceLE, Int.reduceEq, *, concurrent_ans]
  refine gen_st (fun s0 hg hr hn0 => ?_)
  have e2 := hg 2
  have e3 := hg 3
  have e9 := hg 9
  have e10 := hg 10
  have e11 := hg 11
  have q0 := hr 0
  clear hg hr
  simp only [go_sem, *] at hn0 e2 e3 e9 e10 e11 q0
  refine nr (runs_for (asL l) (fun (_ : Unit) x => if TG b c (asI x) = true then .next () else .ret false) () 21 (fun i a => [(2, s0.get (.tmp 2)), (3, s0.get (.tmp 3)), (9, s0.get (.tmp 9)), (10, s0.get (.tmp 10)), (11, .v (.a (.int .i64 (i : Nat))))]) (fun i a => [(0, s0.row 0)]) (fun i a => True) (by omega) ?_ (trivial) ?_ ?_ ?_ ?_)
  · simp (maxDischargeDepth := 9) only [go_sem, Nat.reduceMul, Nat.reduceAdd, Nat.reduceLeDiff, Int.reduceSub, Int.reduceNeg, Int.reduceLT, Int.reduceLE, Int.reduceEq, *, concurrent_ans]
  · intro i a; simp (maxDischargeDepth := 9) only [go_sem, Nat.reduceMul, Nat.reduceAdd, Nat.reduceLeDiff, Int.reduceSub, Int.reduceNeg, Int.reduceLT, Int.reduceLE, Int.reduceEq, *, concurrent_ans]
  · intro i a; simp (maxDischargeDepth := 9) only [go_sem, Nat.reduceMul, Nat.reduceAdd, Nat.reduceLeDiff, Int.reduceSub, Int.reduceNeg, Int.reduceLT, Int.reduceLE, Int.reduceEq, *, concurrent_ans]
  · intro i x a s hx hi hI hS
    clear hn0 e11
    simp only [go_sem] at hS
    obtain ⟨f2, f3, f9, f10, f11, m0, hn⟩ := hS
    have hw := wrap_succ hi (hll)
    obtain ⟨hx0, hx1⟩ := hl x (List.mem_of_getElem? hx)
    refine rn ?_
    simp (maxDischargeDepth := 9) only [go_sem, Nat.reduceMul, Nat.reduceAdd, Nat.reduceLeDiff, Int.reduceSub, Int.reduceNeg, Int.reduceLT, Int.reduceLE, Int.reduceEq, *, concurrent_ans]
    all_goals exact AU_fits
  · intro a s hI hf hS
    clear hn0 e11
    simp only [go_sem] at hS
    obtain ⟨f2, f3, f9, f10, f11, m0, hn⟩ := hS
    try simp only [go_sem] at hf
    refine rn ?_
    simp (maxDischargeDepth := 9) only [go_sem, Nat.reduceMul, Nat.reduceAdd, Nat.reduceLeDiff, Int.reduceSub, Int.reduceNeg, Int.reduceLT, Int.reduceLE, Int.reduceEq, *, concurrent_ans]
    all_goals exact AU_fits
theorem choose_leaf (ext : CallF) (k : Nat) (b l : IV) (out : List IV) (p z : Nat) (hp : p ≠ 0) (hv : Ok l) (hll : (asL l).length ≤ 1000000) (ho : out.length + 1 ≤ 1000000) (hk : 0 < k) : ∃ m', tab.run ext k 75 [.iv 2 46 l, .iv z 46 (.L []), .ptr 5 [] 44, .ptr 7 [] 29, .ptr 8 [] 88] (cmA b p out) = some ([], [], m') ∧ cmB b p (out ++ [.L (asL l)]) (rowIn m') := by
  obtain ⟨k, rfl⟩ : ∃ k', k = k' + 1 := ⟨k - 1, by omega⟩
  refine fn_mem (fx := fx75) (m := 81) (R := cmB b p (out ++ [IV.L (asL l)])) 86 rfl rfl rfl rfl (fun st hn hg hr => ?_)
  have g0 : st.get (.tmp 0) = .v (.a (.iv 2 46 l)) := hg 0 (of_decide_eq_true rfl)
  have g1 : st.get (.tmp 1) = .v (.a (.iv z 46 (.L []))) := hg 1 (of_decide_eq_true rfl)
  have g2 : st.get (.tmp 2) = .v (.a (.ptr 5 [] 44)) := hg 2 (of_decide_eq_true rfl)
  have g3 : st.get (.tmp 3) = .v (.a (.ptr 7 [] 29)) := hg 3 (of_decide_eq_true rfl)
  have g4 : st.get (.tmp 4) = .v (.a (.ptr 8 [] 88)) := hg 4 (of_decide_eq_true rfl)
  have r5 := hr 5
  have r6 := hr 6
  have r7 := hr 7
  have r8 := hr 8
  clear hg hr
  simp only [go_sem, cmA] at r5 r6 r7 r8
  rw [co75]
  simp only [Try.f75, Option.getD_some]
  unfold cmB
  simp (maxDischargeDepth := 9) only [go_sem, Nat.reduceMul, Nat.reduceAdd, Nat.reduceLeDiff, Int.reduceSub, Int.reduceNeg, Int.reduceLT, Int.reduceLE, Int.reduceEq, *, has_ans, List.length_replicate, Nat.le_refl]
theorem choose_one (ext : CallF) (k : Nat) (hE : ExC ext) (hU : ExU ext) (b : IV) (out : List IV) (p0 : Int) (p z : Nat) (hp : p ≠ 0) (hb : Ok b) (hfd : FD b = true) (hz : (asL (fld b 1)).length ≤ 1000000) (hzc : (asL (fld b 0)).length ≤ 100000) (ho : out.length ≤ 100000) (hok : Ok (.L [.I p0])) (hk : maxLen + (D0 + 30) ≤ k) : ∃ m', tab.run ext k 75 [.iv 2 46 .N, .iv z 46 (.L [.I p0]), .ptr 5 [] 44, .ptr 7 [] 29, .ptr 8 [] 88] (cmA b p out) = some ([], [], m') ∧ cmB b p (out ++ chO b p0 (asL (fld b 0)).length) (rowIn m') := by
  obtain ⟨k, rfl⟩ : ∃ k', k = k' + 1 := ⟨k - 1, by omega⟩
  have hk1 : maxLen < k := by omega
  have hk0 : 0 < k := by omega
  have hk_0 : maxLen + (2) ≤ k := by have := D0_ge; omega
  have hl0 := ok_len (ok_fld (j := 0) hb)
  refine fn_mem (fx := fx75) (m := 81) (R := cmB b p (out ++ chO b p0 (asL (fld b 0)).length)) 86 rfl rfl rfl rfl (fun st hn hg hr => ?_)
  have g0 : st.get (.tmp 0) = .v (.a (.iv 2 46 .N)) := hg 0 (of_decide_eq_true rfl)
  have g1 : st.get (.tmp 1) = .v (.a (.iv z 46 (.L [.I p0]))) := hg 1 (of_decide_eq_true rfl)
  have g2 : st.get (.tmp 2) = .v (.a (.ptr 5 [] 44)) := hg 2 (of_decide_eq_true rfl)
  have g3 : st.get (.tmp 3) = .v (.a (.ptr 7 [] 29)) := hg 3 (of_decide_eq_true rfl)
  have g4 : st.get (.tmp 4) = .v (.a (.ptr 8 [] 88)) := hg 4 (of_decide_eq_true rfl)
  have r5 := hr 5
  have r6 := hr 6
  have r7 := hr 7
  have r8 := hr 8
  clear hg hr
  simp only [go_sem, cmA] at r5 r6 r7 r8
  rw [co75]
  simp only [Try.f75, Option.getD_some]
  unfold cmB
  simp (maxDischargeDepth := 9) only [go_sem, Nat.reduceMul, Nat.reduceAdd, Nat.reduceLeDiff, Int.reduceSub, Int.reduceNeg, Int.reduceLT, Int.reduceLE, Int.reduceEq, *, has_ans]
  refine gen_st (fun s0 hg hr hn0 => ?_)
  have e0 := hg 0
  have e1 := hg 1
  have e3 := hg 3
  have e4 := hg 4
  have e9 := hg 9
  have q5 := hr 5
  have q6 := hr 6
  have q7 := hr 7
  have q8 := hr 8
  clear hg hr
  simp only [go_sem, *] at hn0 e0 e1 e3 e4 e9 q5 q6 q7 q8
  refine nr (runs_forN (asL (fld b 0)).length (fun (_ : Unit) _ => Stp.next (ρ := Unit) ()) () 86 (fun i a => [(0, s0.get (.tmp 0)), (1, s0.get (.tmp 1)), (3, s0.get (.tmp 3)), (4, s0.get (.tmp 4)), (9, .v (.a (.int .i64 (i : Nat))))]) (fun i a => [(5, some (.box true 44 [0] (.a (.own 6)))), (6, some (.arr 2 46 (out ++ chO b p0 i))), (7, some (.box true 29 [] (.a (.iv p 29 b)))), (8, some (.box true 88 [] (.a (.fn 75 [5, 7, 8]))))]) (fun i a => True) (by omega) ?_ (trivial) ?_ ?_ ?_ ?_)
  · simp (maxDischargeDepth := 9) only [go_sem, Nat.reduceMul, Nat.reduceAdd, Nat.reduceLeDiff, Int.reduceSub, Int.reduceNeg, Int.reduceLT, Int.reduceLE, Int.reduceEq, *, has_ans]
  · intro i a; simp (maxDischargeDepth := 9) only [go_sem, Nat.reduceMul, Nat.reduceAdd, Nat.reduceLeDiff, Int.reduceSub, Int.reduceNeg, Int.reduceLT, Int.reduceLE, Int.reduceEq, *, has_ans]
  · intro i a; simp (maxDischargeDepth := 9) only [go_sem, Nat.reduceMul, Nat.reduceAdd, Nat.reduceLeDiff, Int.reduceSub, Int.reduceNeg, Int.reduceLT, Int.reduceLE, Int.reduceEq, *, has_ans]
  · intro i a s hi hI hS
    clear hn0 e9 q5 q6 q7 q8
    simp only [go_sem] at hS
    obtain ⟨f0, f1, f3, f4, f9, m5, m6, m7, m8, hn⟩ := hS
    have hw := wrap_succ hi (hl0)
    have hFT : FT b .N (i : Int) = true := by unfold FT; rfl
    have hft := fits_ans ext k hE hU b .N (i : Int) p 2 (by omega) hb hp hfd .N (by omega) (by omega) hz (by intro x hx; simp [asL] at hx)
    have hiL : (i : Int) < ((asL (fld b 0)).length : Int) := by omega
    refine rn ?_
    simp (maxDischargeDepth := 9) only [go_sem, Nat.reduceMul, Nat.reduceAdd, Nat.reduceLeDiff, Int.reduceSub, Int.reduceNeg, Int.reduceLT, Int.reduceLE, Int.reduceEq, *, has_ans]
    by_cases hpl : asI (fld ((asL (fld b 0)).getD i .N) 0) = p0
    case neg =>
      have hp2 : ¬p0 = asI (fld ((asL (fld b 0)).getD i .N) 0) := fun h => hpl h.symm
      have hch := chO_no hpl
      simp (maxDischargeDepth := 9) only [go_sem, Nat.reduceMul, Nat.reduceAdd, Nat.reduceLeDiff, Int.reduceSub, Int.reduceNeg, Int.reduceLT, Int.reduceLE, Int.reduceEq, *, has_ans, List.any_cons, List.any_nil, Bool.or_false]
    have hch := chO_in hpl
    obtain ⟨m2, hlr, hlm⟩ := choose_leaf ext k b (.L [.I (i : Int)]) (out ++ chO b p0 i) p 0 hp (.L (by unfold maxLen; simp) (by intro x hx; simp only [List.mem_cons, List.not_mem_nil, or_false] at hx; subst hx; exact .I (by omega))) (by simp [asL]) (by rw [List.length_append]; have := chO_len (b := b) (p := p0) (i := i); omega) hk0
    simp (maxDischargeDepth := 9) only [go_sem, Nat.reduceMul, Nat.reduceAdd, Nat.reduceLeDiff, Int.reduceSub, Int.reduceNeg, Int.reduceLT, Int.reduceLE, Int.reduceEq, *, has_ans, List.any_cons, List.any_nil, Bool.or_false]
    refine gen_st (fun s0 hg hr hn0 => ?_)
    have e0 := hg 0
    have e1 := hg 1
    have e3 := hg 3
    have e4 := hg 4
    have e9 := hg 9
    have e37 := hg 37
    have e38 := hg 38
    have e39 := hg 39
    have e40 := hg 40
    have e41 := hg 41
    have e44 := hg 44
    have e45 := hg 45
    have e46 := hg 46
    have e47 := hg 47
    have e48 := hg 48
    have e49 := hg 49
    have e50 := hg 50
    have e51 := hg 51
    have e52 := hg 52
    have e53 := hg 53
    have e54 := hg 54
    have e55 := hg 55
    have e56 := hg 56
    have e57 := hg 57
    have e58 := hg 58
    have e59 := hg 59
    have e60 := hg 60
    have e61 := hg 61
    have e62 := hg 62
    have e10 := hg 10
    have q3 := hr 3
    have q5 := hr 5
    have q6 := hr 6
    have q7 := hr 7
    have q8 := hr 8
    clear hg hr
    simp only [go_sem, *] at hn0 e0 e1 e3 e4 e9 e37 e38 e39 e40 e41 e44 e45 e46 e47 e48 e49 e50 e51 e52 e53 e54 e55 e56 e57 e58 e59 e60 e61 e62 e10 q3 q5 q6 q7 q8
    refine nr (runs_for [IV.I p0] (fun (_ : Unit) _ => Stp.next (ρ := Unit) ()) () 86 (fun j a => [(0, s0.get (.tmp 0)), (1, s0.get (.tmp 1)), (3, s0.get (.tmp 3)), (4, s0.get (.tmp 4)), (9, s0.get (.tmp 9)), (37, s0.get (.tmp 37)), (38, s0.get (.tmp 38)), (39, s0.get (.tmp 39)), (40, s0.get (.tmp 40)), (41, s0.get (.tmp 41)), (44, s0.get (.tmp 44)), (45, s0.get (.tmp 45)), (46, s0.get (.tmp 46)), (47, s0.get (.tmp 47)), (48, s0.get (.tmp 48)), (49, s0.get (.tmp 49)), (50, s0.get (.tmp 50)), (51, s0.get (.tmp 51)), (52, s0.get (.tmp 52)), (53, s0.get (.tmp 53)), (54, s0.get (.tmp 54)), (55, s0.get (.tmp 55)), (56, s0.get (.tmp 56)), (57, s0.get (.tmp 57)), (58, s0.get (.tmp 58)), (59, s0.get (.tmp 59)), (60, s0.get (.tmp 60)), (61, s0.get (.tmp 61)), (10, .v (.a (.own 3))), (62, .v (.a (.int .i64 (j : Nat))))]) (fun j a => [(3, some (.arr 2 3 [])), (5, some (.box true 44 [0] (.a (.own 6)))), (6, some (.arr 2 46 (out ++ chO b p0 i))), (7, some (.box true 29 [] (.a (.iv p 29 b)))), (8, some (.box true 88 [] (.a (.fn 75 [5, 7, 8]))))]) (fun j a => True) (by show 1 < k; unfold maxLen at hk1; omega) ?_ (trivial) ?_ ?_ ?_ ?_)
    · simp (maxDischargeDepth := 9) only [go_sem, Nat.reduceMul, Nat.reduceAdd, Nat.reduceLeDiff, Int.reduceSub, Int.reduceNeg, Int.reduceLT, Int.reduceLE, Int.reduceEq, *, has_ans]
    · intro i a; simp (maxDischargeDepth := 9) only [go_sem, Nat.reduceMul, Nat.reduceAdd, Nat.reduceLeDiff, Int.reduceSub, Int.reduceNeg, Int.reduceLT, Int.reduceLE, Int.reduceEq, *, has_ans]
    · intro i a; simp (maxDischargeDepth := 9) only [go_sem, Nat.reduceMul, Nat.reduceAdd, Nat.reduceLeDiff, Int.reduceSub, Int.reduceNeg, Int.reduceLT, Int.reduceLE, Int.reduceEq, *, has_ans]
    · intro j x a s hx hi hI hS
      clear hn0 e62 e10 q5 q6 q7 q8 q3
      simp only [go_sem] at hS
      obtain ⟨f0, f1, f3, f4, f9, f37, f38, f39, f40, f41, f44, f45, f46, f47, f48, f49, f50, f51, f52, f53, f54, f55, f56, f57, f58, f59, f60, f61, f10, f62, m3, m5, m6, m7, m8, hn⟩ := hS
      have hw := wrap_succ hi (by show 1 ≤ maxLen; unfold maxLen; omega)
      have hj1 : j < 1 := hi
      obtain rfl : x = .I p0 := by simpa using List.mem_of_getElem? hx
      refine rn ?_
      simp (maxDischargeDepth := 9) only [go_sem, Nat.reduceMul, Nat.reduceAdd, Nat.reduceLeDiff, Int.reduceSub, Int.reduceNeg, Int.reduceLT, Int.reduceLE, Int.reduceEq, *, has_ans]
      all_goals exact AU_choose
    · intro a s hI hf hS
      clear hn0 e62 e10 q5 q6 q7 q8 q3
      simp only [go_sem] at hS
      obtain ⟨f0, f1, f3, f4, f9, f37, f38, f39, f40, f41, f44, f45, f46, f47, f48, f49, f50, f51, f52, f53, f54, f55, f56, f57, f58, f59, f60, f61, f10, f62, m3, m5, m6, m7, m8, hn⟩ := hS
      try simp only [go_sem] at hf
      refine rn ?_
      simp (maxDischargeDepth := 9) only [go_sem, Nat.reduceMul, Nat.reduceAdd, Nat.reduceLeDiff, Int.reduceSub, Int.reduceNeg, Int.reduceLT, Int.reduceLE, Int.reduceEq, *, has_ans]
      with_reducible refine draw_look (by kernel_rfl) (by kernel_rfl) ?_
      simp (maxDischargeDepth := 9) only [go_sem, Nat.reduceMul, Nat.reduceAdd, Nat.reduceLeDiff, Int.reduceSub, Int.reduceNeg, Int.reduceLT, Int.reduceLE, Int.reduceEq, *, has_ans, Nat.le_refl]
      iterate 6
        with_reducible refine dop_val ?_
        simp (maxDischargeDepth := 9) only [go_sem, Nat.reduceMul, Nat.reduceAdd, Nat.reduceLeDiff, Int.reduceSub, Int.reduceNeg, Int.reduceLT, Int.reduceLE, Int.reduceEq, *, has_ans, Nat.le_refl]
      with_reducible refine dop_loud (by kernel_rfl) ?_
      simp (maxDischargeDepth := 9) only [go_sem, Nat.reduceMul, Nat.reduceAdd, Nat.reduceLeDiff, Int.reduceSub, Int.reduceNeg, Int.reduceLT, Int.reduceLE, Int.reduceEq, *, has_ans, Nat.le_refl]
      refine Ys_call (choose_call hp (k := 3) (z := 2) (by omega) ?_ ?_ ?_ ?_ ?_ ?_ ?_ hlr hlm) ?_
      all_goals (try (simp (maxDischargeDepth := 9) only [go_sem, Nat.reduceMul, Nat.reduceAdd, Nat.reduceLeDiff, Int.reduceSub, Int.reduceNeg, Int.reduceLT, Int.reduceLE, Int.reduceEq, *, has_ans]; done))
      rintro st2 ⟨hg2, hn2, hq0, hq1, hq2, hq3⟩
      simp (maxDischargeDepth := 9) only [go_sem, Nat.reduceMul, Nat.reduceAdd, Nat.reduceLeDiff, Int.reduceSub, Int.reduceNeg, Int.reduceLT, Int.reduceLE, Int.reduceEq, *, has_ans, List.append_assoc]
  · intro a s hI hf hS
    clear hn0 e9 q5 q6 q7 q8
    simp only [go_sem] at hS
    obtain ⟨f0, f1, f3, f4, f9, m5, m6, m7, m8, hn⟩ := hS
    try simp only [go_sem] at hf
    refine rn ?_
    simp (maxDischargeDepth := 9) only [go_sem, Nat.reduceMul, Nat.reduceAdd, Nat.reduceLeDiff, Int.reduceSub, Int.reduceNeg, Int.reduceLT, Int.reduceLE, Int.reduceEq, *, has_ans]
    all_goals exact AU_choose
theorem choices_ans (ext : CallF) (k : Nat) (hE : ExC ext) (hU : ExU ext) (b : IV) (p0 : Int) (p z : Nat) (hk : maxLen + (D0 + 34) ≤ k) (hp : p ≠ 0) (hb : Ok b) (hfd : FD b = true) (hz : (asL (fld b 1)).length ≤ 1000000) (hzc : (asL (fld b 0)).length ≤ 100000) (hok : Ok (.L [.I p0])) : ans (tab.run ext k) 46 [.iv p 29 b, .iv z 46 (.L [.I p0])] 4 = some ([.one (.own 2 46 (chO b p0 (asL (fld b 0)).length))], [44]) := by
  obtain ⟨k, rfl⟩ : ∃ k', k = k' + 1 := ⟨k - 1, by omega⟩
  have hk1 : maxLen < k := by omega
  have hk0 : 0 < k := by omega
  refine fn_run (fx := fx46) (m := 10) 12 rfl rfl rfl rfl (fun st hn hg hr => ?_)
  have g0 : st.get (.tmp 0) = .v (.a (.iv p 29 b)) := hg 0 (of_decide_eq_true rfl)
  have g1 : st.get (.tmp 1) = .v (.a (.iv z 46 (.L [.I p0]))) := hg 1 (of_decide_eq_true rfl)
  have r0 := hr 0
  have r1 := hr 1
  have r2 := hr 2
  have r3 := hr 3
  clear hg hr
  rw [co46]
  simp only [Try.f46, Option.getD_some]
  obtain ⟨m2, hlr, hlm⟩ := choose_one ext k hE hU b [] p0 p z hp hb hfd hz hzc (by simp) hok (by omega)
  simp (maxDischargeDepth := 9) only [go_sem, Nat.reduceMul, Nat.reduceAdd, Nat.reduceLeDiff, Int.reduceSub, Int.reduceNeg, Int.reduceLT, Int.reduceLE, Int.reduceEq, *]
  refine Ys_call (choices_call hp ?_ ?_ ?_ ?_ ?_ hlr hlm) ?_
  all_goals (try (simp (maxDischargeDepth := 9) only [go_sem, Nat.reduceMul, Nat.reduceAdd, Nat.reduceLeDiff, Int.reduceSub, Int.reduceNeg, Int.reduceLT, Int.reduceLE, Int.reduceEq, *]; done))
  rintro st2 ⟨hg2, hn2, hq1, hq2, hq0, hq3⟩
  simp (maxDischargeDepth := 9) only [go_sem, Nat.reduceMul, Nat.reduceAdd, Nat.reduceLeDiff, Int.reduceSub, Int.reduceNeg, Int.reduceLT, Int.reduceLE, Int.reduceEq, *, List.nil_append]
end Go.Proofs.Ytficdonjodadlaa
end
section
set_option linter.unusedVariables false
namespace Go.Ev
def poI (b : IV) (t : Int) (ls : List IV) (j : Nat) : List IV := ((List.range j).filter fun (k : Nat) => !KN b t (ls.getD k .N)).map fun (k : Nat) => .L ([.I t] ++ asL (ls.getD k .N))
theorem poI_zero {b : IV} {t : Int} {ls : List IV} : poI b t ls 0 = [] := (rfl)
theorem poI_in {b : IV} {t : Int} {ls : List IV} {j : Nat} (h : KN b t (ls.getD j .N) = false) : poI b t ls (j + 1) = poI b t ls j ++ [.L ([.I t] ++ asL (ls.getD j .N))] := by
  simp only [poI, List.range_succ, List.filter_append, List.map_append, List.filter_cons, List.filter_nil, h, Bool.not_false, if_true, List.map_cons, List.map_nil]
theorem poI_no {b : IV} {t : Int} {ls : List IV} {j : Nat} (h : KN b t (ls.getD j .N) = true) : poI b t ls (j + 1) = poI b t ls j := by
  simp only [poI, List.range_succ, List.filter_append, List.map_append, List.filter_cons, List.filter_nil, h, Bool.not_true, Bool.false_eq_true, if_false, List.map_nil, List.append_nil]
theorem poI_len {b : IV} {t : Int} {ls : List IV} {j : Nat} : (poI b t ls j).length ≤ j := by
  unfold poI; rw [List.length_map]; exact Nat.le_trans (List.length_filter_le _ _) (by simp)
def poO (b : IV) (ch : Nat → List IV) (i : Nat) : List IV := (List.range i).flatMap fun (t : Nat) => poI b (t : Int) (ch t) (ch t).length
theorem poO_zero {b : IV} {ch : Nat → List IV} : poO b ch 0 = [] := (rfl)
theorem poO_succ {b : IV} {ch : Nat → List IV} {i : Nat} : poO b ch (i + 1) = poO b ch i ++ poI b (i : Int) (ch i) (ch i).length := by simp [poO, List.range_succ, List.flatMap_append]
theorem poO_len {b : IV} {ch : Nat → List IV} {m : Nat} (h : ∀ i, (ch i).length ≤ m) : ∀ i, (poO b ch i).length ≤ i * m
  | 0 => by simp [poO]
  | i + 1 => by
    rw [poO_succ, List.length_append, Nat.succ_mul]
    exact Nat.add_le_add (poO_len h i) (Nat.le_trans poI_len (h i))
noncomputable def PS (n b : IV) (ch : Nat → List IV) : List IV := if (CK n b).1 = 0 then poO b ch (asL (fld n 2)).length else []
attribute [go_sem] poI_zero poO_zero
end Go.Ev
end
section
set_option linter.unusedSimpArgs false
set_option linter.unusedVariables false
set_option maxRecDepth 100000
set_option maxHeartbeats 4000000
namespace Go.Proofs.Ytficdonjodadlaa
open Go.Ev Go.Proofs
theorem AU_possible {p : Prop} (h : p := by
  repeat' (first | (with_reducible refine condLt (fun h h' => ?_) (fun h h' => ?_)) | (with_reducible refine condLe (fun h h' => ?_) (fun h h' => ?_)) | (with_reducible refine dop_val ?_) | (with_reducible refine YsLt (fun h h' => ?_) (fun h h' => ?_)) | (with_reducible refine YsLe (fun h h' => ?_) (fun h h' => ?_)) | (with_reducible refine condP (fun h => ?_) (fun h => ?_)) | (with_reducible refine condN (fun h => ?_) (fun h => ?_)) | (with_reducible refine condB (fun h => ?_) (fun h => ?_)) | (with_reducible refine condR (fun h => ?_) (fun h => ?_)) | (with_reducible refine YsB (fun h => ?_) (fun h => ?_)) | (with_reducible refine YsC (fun h => ?_) (fun h => ?_)) | (with_reducible refine Ys_ite (fun h => ?_) (fun h => ?_)) | (intro h) | (with_reducible refine draw_look (by kernel_rfl) (by kernel_rfl) ?_) | (simp (maxDischargeDepth := 9) only [go_sem, Nat.reduceMul, Nat.reduceAdd, Nat.reduceLeDiff, Int.reduceSub, Int.reduceNeg, Int.reduceLT, Int.reduceLE, Int.reduceEq, *, check_ans, inputs_ans, known_ans]) | (exfalso; omega))) : p := h
theorem possible_ans (ext : CallF) (k : Nat) (hN : ExN ext) (hE : ExC ext) (hU : ExU ext) (n b : IV) (p q : Nat) (ch : Nat → List IV) (hk : maxLen + (D0 + 52) ≤ k) (hnn : Ok n) (hb : Ok b) (hq : q ≠ 0) (hz : (asL (fld b 1)).length ≤ 1000000) (hzc : (asL (fld b 0)).length ≤ 1000000) (hzp : (asL (fld n 1)).length ≤ 1000) (hig : IE n = 0 → NG n) (hlt : (asL (fld n 2)).length ≤ 24) (hcl : ∀ i, (ch i).length ≤ 40000) (hcu : ∀ i, ∀ u ∈ ch i, (asL u).length ≤ 1000) (hC : (CK n b).1 = 0 → ∀ (i : Nat) (k : Nat), i < (asL (fld n 2)).length → maxLen + (D0 + 40) ≤ k → ans (tab.run ext k) 46 [.iv q 29 b, .iv 2 46 (.L (tgs (fld ((asL (fld n 2)).getD i .N) 1) (asL (fld ((asL (fld n 2)).getD i .N) 1)).length))] 4 = some ([.one (.own 2 46 (ch i))], [44])) : ans (tab.run ext k) 20 [.iv p 25 n, .iv q 29 b] 5 = some ([.one (.own 2 46 (PS n b ch))], [44]) := by
  obtain ⟨k, rfl⟩ : ∃ k', k = k' + 1 := ⟨k - 1, by omega⟩
  have hk1 : maxLen < k := by omega
  have hk0 : 0 < k := by omega
  have hk_0 : maxLen + (20) ≤ k := by omega
  have hk_1 : maxLen + (6) ≤ k := by omega
  have hk_2 : maxLen + (D0 + 48) ≤ k := by omega
  refine fn_run (fx := fx20) (m := 43) 45 rfl rfl rfl rfl (fun st hn hg hr => ?_)
  have g0 : st.get (.tmp 0) = .v (.a (.iv p 25 n)) := hg 0 (of_decide_eq_true rfl)
  have g1 : st.get (.tmp 1) = .v (.a (.iv q 29 b)) := hg 1 (of_decide_eq_true rfl)
  have r0 := hr 0
  have r1 := hr 1
  have r2 := hr 2
  have r3 := hr 3
  have r4 := hr 4
  clear hg hr
  rw [co20]
  simp only [Try.f20, Option.getD_some]
  unfold PS
  have hl2 := ok_len (ok_fld (j := 2) hnn)
  have hck := check_ans ext k hN hE hU n b p q (by omega) hnn hb hq hz hzc hzp hig
  by_cases h1 : (CK n b).1 = 0
  case neg =>
    simp (maxDischargeDepth := 9) only [go_sem, Nat.reduceMul, Nat.reduceAdd, Nat.reduceLeDiff, Int.reduceSub, Int.reduceNeg, Int.reduceLT, Int.reduceLE, Int.reduceEq, *, check_ans, inputs_ans, known_ans]
  have hg := hig (CK_IE h1)
  have hC := hC h1
  simp (maxDischargeDepth := 9) only [go_sem, Nat.reduceMul, Nat.reduceAdd, Nat.reduceLeDiff, Int.reduceSub, Int.reduceNeg, Int.reduceLT, Int.reduceLE, Int.reduceEq, *, check_ans, inputs_ans, known_ans]
  refine gen_st (fun s0 hg hr hn0 => ?_)
  have e2 := hg 2
  have e3 := hg 3
  have e4 := hg 4
  have e16 := hg 16
  have e17 := hg 17
  have e5 := hg 5
  have q0 := hr 0
  have q1 := hr 1
  have q2 := hr 2
  clear hg hr
  simp only [go_sem, *] at hn0 e2 e3 e4 e16 e17 e5 q0 q1 q2
  refine nr (runs_forN (asL (fld n 2)).length (fun (_ : Unit) _ => Stp.next (ρ := Unit) ()) () 45 (fun i a => [(2, s0.get (.tmp 2)), (3, s0.get (.tmp 3)), (4, s0.get (.tmp 4)), (16, s0.get (.tmp 16)), (5, .v (.a (.own 2))), (17, .v (.a (.int .i64 (i : Nat))))]) (fun i a => [(0, s0.row 0), (1, s0.row 1), (2, some (.arr 2 46 (poO b ch i)))]) (fun i a => True) (by omega) ?_ (trivial) ?_ ?_ ?_ ?_)
  · simp (maxDischargeDepth := 9) only [go_sem, Nat.reduceMul, Nat.reduceAdd, Nat.reduceLeDiff, Int.reduceSub, Int.reduceNeg, Int.reduceLT, Int.reduceLE, Int.reduceEq, *, check_ans, inputs_ans, known_ans]
  · intro i a; simp (maxDischargeDepth := 9) only [go_sem, Nat.reduceMul, Nat.reduceAdd, Nat.reduceLeDiff, Int.reduceSub, Int.reduceNeg, Int.reduceLT, Int.reduceLE, Int.reduceEq, *, check_ans, inputs_ans, known_ans]
  · intro i a; simp (maxDischargeDepth := 9) only [go_sem, Nat.reduceMul, Nat.reduceAdd, Nat.reduceLeDiff, Int.reduceSub, Int.reduceNeg, Int.reduceLT, Int.reduceLE, Int.reduceEq, *, check_ans, inputs_ans, known_ans]
  · intro i a s hi hI hS
    clear hn0 e17 e5 q2
    simp only [go_sem] at hS
    obtain ⟨f2, f3, f4, f16, f5, f17, m0, m1, m2, hn⟩ := hS
    have hw := wrap_succ hi (hl2)
    have h2a : (0 : Int) ≤ ((i : Nat) : Int) := by omega
    have h2b : ((i : Nat) : Int) < (((asL (fld n 2)).length : Nat) : Int) := by omega
    have ht := hg.t1 h2a h2b
    have hs1 := hg.l1 h2a h2b
    rw [el_nat] at hs1
    have hci := hC i k hi (by omega)
    have hcli := hcl i
    have hpo := poO_len (b := b) (ch := ch) hcl i
    have hpo2 := Nat.mul_le_mul_right 40000 (show i ≤ 23 by omega)
    have hiw := hi
    have hcm : (ch i).length < maxLen := by unfold maxLen; omega
    refine rn ?_
    simp (maxDischargeDepth := 9) only [go_sem, Nat.reduceMul, Nat.reduceAdd, Nat.reduceLeDiff, Int.reduceSub, Int.reduceNeg, Int.reduceLT, Int.reduceLE, Int.reduceEq, *, check_ans, inputs_ans, known_ans]
    repeat' (first | (with_reducible refine condLt (fun h h' => ?_) (fun h h' => ?_)) | (with_reducible refine condLe (fun h h' => ?_) (fun h h' => ?_)) | (with_reducible refine dop_val ?_) | (with_reducible refine YsLt (fun h h' => ?_) (fun h h' => ?_)) | (with_reducible refine YsLe (fun h h' => ?_) (fun h h' => ?_)) | (with_reducible refine condP (fun h => ?_) (fun h => ?_)) | (with_reducible refine condN (fun h => ?_) (fun h => ?_)) | (with_reducible refine condB (fun h => ?_) (fun h => ?_)) | (with_reducible refine condR (fun h => ?_) (fun h => ?_)) | (with_reducible refine YsB (fun h => ?_) (fun h => ?_)) | (with_reducible refine YsC (fun h => ?_) (fun h => ?_)) | (with_reducible refine Ys_ite (fun h => ?_) (fun h => ?_)) | (intro h) | (with_reducible refine draw_look (by kernel_rfl) (by kernel_rfl) ?_) | (simp (maxDischargeDepth := 9) only [go_sem, Nat.reduceMul, Nat.reduceAdd, Nat.reduceLeDiff, Int.reduceSub, Int.reduceNeg, Int.reduceLT, Int.reduceLE, Int.reduceEq, *, check_ans, inputs_ans, known_ans]) | (exfalso; omega))
    refine gen_st (fun s0 hg hr hn0 => ?_)
    have e2 := hg 2
    have e3 := hg 3
    have e4 := hg 4
    have e6 := hg 6
    have e16 := hg 16
    have e17 := hg 17
    have e18 := hg 18
    have e19 := hg 19
    have e20 := hg 20
    have e21 := hg 21
    have e22 := hg 22
    have e23 := hg 23
    have e24 := hg 24
    have e25 := hg 25
    have e26 := hg 26
    have e5 := hg 5
    have q0 := hr 0
    have q1 := hr 1
    have q2 := hr 2
    clear hg hr
    simp only [go_sem, *] at hn0 e2 e3 e4 e6 e16 e17 e18 e19 e20 e21 e22 e23 e24 e25 e26 e5 q0 q1 q2
    refine nr (runs_forN (ch i).length (fun (_ : Unit) _ => Stp.next (ρ := Unit) ()) () 45 (fun j a => [(2, s0.get (.tmp 2)), (3, s0.get (.tmp 3)), (4, s0.get (.tmp 4)), (6, s0.get (.tmp 6)), (16, s0.get (.tmp 16)), (17, s0.get (.tmp 17)), (18, s0.get (.tmp 18)), (19, s0.get (.tmp 19)), (20, s0.get (.tmp 20)), (21, s0.get (.tmp 21)), (22, s0.get (.tmp 22)), (23, s0.get (.tmp 23)), (24, s0.get (.tmp 24)), (25, s0.get (.tmp 25)), (5, .v (.a (.own 2))), (26, .v (.a (.int .i64 (j : Nat))))]) (fun j a => [(0, s0.row 0), (1, s0.row 1), (2, some (.arr 2 46 (poO b ch i ++ poI b (i : Int) (ch i) j)))]) (fun j a => True) (by omega) ?_ (trivial) ?_ ?_ ?_ ?_)
    · simp (maxDischargeDepth := 9) only [go_sem, Nat.reduceMul, Nat.reduceAdd, Nat.reduceLeDiff, Int.reduceSub, Int.reduceNeg, Int.reduceLT, Int.reduceLE, Int.reduceEq, *, check_ans, inputs_ans, known_ans]
    · intro i a; simp (maxDischargeDepth := 9) only [go_sem, Nat.reduceMul, Nat.reduceAdd, Nat.reduceLeDiff, Int.reduceSub, Int.reduceNeg, Int.reduceLT, Int.reduceLE, Int.reduceEq, *, check_ans, inputs_ans, known_ans]
    · intro i a; simp (maxDischargeDepth := 9) only [go_sem, Nat.reduceMul, Nat.reduceAdd, Nat.reduceLeDiff, Int.reduceSub, Int.reduceNeg, Int.reduceLT, Int.reduceLE, Int.reduceEq, *, check_ans, inputs_ans, known_ans]
    · intro j a s hi hI hS
      clear hn0 e26 e5 q2
      simp only [go_sem] at hS
      obtain ⟨f2, f3, f4, f6, f16, f17, f18, f19, f20, f21, f22, f23, f24, f25, f5, f26, m0, m1, m2, hn⟩ := hS
      have hw := wrap_succ hi (Nat.le_of_lt hcm)
      have hpj := poI_len (b := b) (t := (i : Int)) (ls := ch i) (j := j)
      have hpl : (poO b ch i).length + (poI b (i : Int) (ch i) j).length + 1 ≤ 1000000 := by omega
      have hul : 1 + (asL ((ch i).getD j .N)).length ≤ 1000000 := by
        have := hcu i ((ch i).getD j .N) (by rw [List.getD, List.getElem?_eq_getElem hi]; simp)
        omega
      refine rn ?_
      simp (maxDischargeDepth := 9) only [go_sem, Nat.reduceMul, Nat.reduceAdd, Nat.reduceLeDiff, Int.reduceSub, Int.reduceNeg, Int.reduceLT, Int.reduceLE, Int.reduceEq, *, check_ans, inputs_ans, known_ans]
      by_cases hkn : KN b (i : Int) ((ch i).getD j .N) = true
      case pos =>
        have hpn := poI_no hkn
        simp (maxDischargeDepth := 9) only [go_sem, Nat.reduceMul, Nat.reduceAdd, Nat.reduceLeDiff, Int.reduceSub, Int.reduceNeg, Int.reduceLT, Int.reduceLE, Int.reduceEq, *, check_ans, inputs_ans, known_ans]
      have hkf : KN b (i : Int) ((ch i).getD j .N) = false := by simpa using hkn
      have hpn := poI_in hkf
      simp (maxDischargeDepth := 9) only [go_sem, Nat.reduceMul, Nat.reduceAdd, Nat.reduceLeDiff, Int.reduceSub, Int.reduceNeg, Int.reduceLT, Int.reduceLE, Int.reduceEq, *, check_ans, inputs_ans, known_ans]
    · intro a s hI hf hS
      clear hn0 e26 e5 q2
      simp only [go_sem] at hS
      obtain ⟨f2, f3, f4, f6, f16, f17, f18, f19, f20, f21, f22, f23, f24, f25, f5, f26, m0, m1, m2, hn⟩ := hS
      try simp only [go_sem] at hf
      have hps := poO_succ (b := b) (ch := ch) (i := i)
      refine rn ?_
      simp (maxDischargeDepth := 9) only [go_sem, Nat.reduceMul, Nat.reduceAdd, Nat.reduceLeDiff, Int.reduceSub, Int.reduceNeg, Int.reduceLT, Int.reduceLE, Int.reduceEq, *, check_ans, inputs_ans, known_ans]
      all_goals exact AU_possible
  · intro a s hI hf hS
    clear hn0 e17 e5 q2
    simp only [go_sem] at hS
    obtain ⟨f2, f3, f4, f16, f5, f17, m0, m1, m2, hn⟩ := hS
    try simp only [go_sem] at hf
    refine rn ?_
    simp (maxDischargeDepth := 9) only [go_sem, Nat.reduceMul, Nat.reduceAdd, Nat.reduceLeDiff, Int.reduceSub, Int.reduceNeg, Int.reduceLT, Int.reduceLE, Int.reduceEq, *, check_ans, inputs_ans, known_ans]
    all_goals exact AU_possible
end Go.Proofs.Ytficdonjodadlaa
end
section
set_option linter.unusedVariables false
set_option linter.unusedSimpArgs false
namespace Go.Ev
section
variable {T : Tab} {fx : Fx} {call : CallF} {st : St}
theorem place_g2 {k d : Nat} {t p p2 e e2 : Nat} {l l2 : List IV} {a b : TypeId × Nat} (ht : aggOf T t = [a, b]) (hd : d < st.env.length) :
    st.placeV T (some ⟨k, [0, 1]⟩) (some d) t (.g t [.own p e l, .own p2 e2 l2]) = some ((((st.newRow (k + 1) (.arr p e l)).newRow (k + 2) (.arr p2 e2 l2))).set (some d) (.v (.g t [.own (k + 1), .own (k + 2)]))) := by
  obtain ⟨env, mem⟩ := st
  simp only at hd
  simp only [St.placeV, hd, and_self, if_true, ht]
  obtain ⟨a1, a2⟩ := a
  obtain ⟨b1, b2⟩ := b
  have h1 : ∀ (E : List SV) (M : List (Option Row)) v, d < E.length → (St.set ⟨E, M⟩ (some d) (.v (.g t v))).env.getD d U = .v (.g t v) := by
    intro E M v h; simp [St.set, List.getD, h]
  simp only [St.placeF, List.length_cons, List.length_nil, List.replicate]
  simp only [List.mem_cons, List.not_mem_nil, or_false, true_or, or_true, if_true, Nat.zero_add, Nat.add_zero]
  congr 1
  simp [St.setField, St.newRow, St.kill, St.map, St.putRow, St.set, List.getD, hd, List.map_set, SV.map, V1.map, At.kill]
end
end Go.Ev
end
section
set_option linter.unusedVariables false
namespace Go.Proofs.Ytficdonjodadlaa
open Go.Ev Go.Proofs
theorem place29 {st : St} {k d : Nat} {p p2 e e2 : Nat} {l l2 : List IV} (hd : d < st.env.length) :
    st.placeV tab (some ⟨k, [0, 1]⟩) (some d) 29 (.g 29 [.own p e l, .own p2 e2 l2]) = some ((((st.newRow (k + 1) (.arr p e l)).newRow (k + 2) (.arr p2 e2 l2))).set (some d) (.v (.g 29 [.own (k + 1), .own (k + 2)]))) := place_g2 rfl hd
attribute [go_sem] place29
end Go.Proofs.Ytficdonjodadlaa
end
section
set_option linter.unusedSimpArgs false
set_option linter.unusedVariables false
set_option maxRecDepth 100000
set_option maxHeartbeats 4000000
namespace Go.Proofs.Ytficdonjodadlaa
open Go.Ev Go.Proofs
theorem CP_len {n b e : IV} (h : CP n b e = 0) : (asL (fld e 1)).length = (insL n e).length := by
  unfold CP at h
  split at h
  · assumption
  · cases h
theorem AU_add {p : Prop} (h : p := by
  repeat' (first | (with_reducible refine condLt (fun h h' => ?_) (fun h h' => ?_)) | (with_reducible refine condLe (fun h h' => ?_) (fun h h' => ?_)) | (with_reducible refine dop_val ?_) | (with_reducible refine YsLt (fun h h' => ?_) (fun h h' => ?_)) | (with_reducible refine YsLe (fun h h' => ?_) (fun h h' => ?_)) | (with_reducible refine condP (fun h => ?_) (fun h => ?_)) | (with_reducible refine condN (fun h => ?_) (fun h => ?_)) | (with_reducible refine condB (fun h => ?_) (fun h => ?_)) | (with_reducible refine condR (fun h => ?_) (fun h => ?_)) | (with_reducible refine YsB (fun h => ?_) (fun h => ?_)) | (with_reducible refine YsC (fun h => ?_) (fun h => ?_)) | (with_reducible refine Ys_ite (fun h => ?_) (fun h => ?_)) | (intro h) | (with_reducible refine draw_look (by kernel_rfl) (by kernel_rfl) ?_) | (simp (maxDischargeDepth := 9) only [go_sem, Nat.reduceMul, Nat.reduceAdd, Nat.reduceLeDiff, Int.reduceSub, Int.reduceNeg, Int.reduceLT, Int.reduceLE, Int.reduceEq, *, check_ans, cpre_ans, clone_ans, outputs_ans, cls_len, ocs_len, pss_len, tgs_len, pvx, aC, aV, St.freezeL, Tab.ivL, Nat.le_refl]) | (exfalso; omega))) : p := h
theorem add_ans (ext : CallF) (k : Nat) (hN : ExN ext) (hE : ExC ext) (hU : ExU ext) (n b l : IV) (t : Int) (p q r : Nat) (hk : maxLen + (D0 + 52) ≤ k) (hnn : Ok n) (hb : Ok b) (hv : Ok l) (ht2 : t < 18446744073709551616) (hq : q ≠ 0) (hq2 : q ≤ 2) (hr : r ≠ 0) (hr2 : r ≤ 2) (hz : (asL (fld b 1)).length ≤ 1000000) (hzc : (asL (fld b 0)).length ≤ 100000) (hzp : (asL (fld n 1)).length ≤ 1000) (hig : IE n = 0 → NG n) (hpp : ∀ x ∈ (asL (fld b 1)), (∃ l, x = .A l) ∧ (asL (fld x 1)).length ≤ 100000 ∧ (asL (fld x 2)).length ≤ 100000) : ans (tab.run ext k) 22 [.iv p 25 n, .iv q 29 b, .int .i64 t, .iv r 46 l] 25 = some ([aR n b t l q r, .one (.at (.int .i64 (aE n b t l)))], [29, 34]) := by
  obtain ⟨k, rfl⟩ : ∃ k', k = k' + 1 := ⟨k - 1, by omega⟩
  have hk1 : maxLen < k := by omega
  have hk0 : 0 < k := by omega
  have hk_0 : maxLen + (20) ≤ k := by omega
  have hk_1 : maxLen + (4) ≤ k := by omega
  have hk_2 : maxLen + (D0 + 40) ≤ k := by omega
  have hk_3 : maxLen + (D0 + 48) ≤ k := by omega
  refine fn_run (fx := fx22) (m := 85) 89 rfl rfl rfl rfl (fun st hn hg hr => ?_)
  have g0 : st.get (.tmp 0) = .v (.a (.iv p 25 n)) := hg 0 (of_decide_eq_true rfl)
  have g1 : st.get (.tmp 1) = .v (.a (.iv q 29 b)) := hg 1 (of_decide_eq_true rfl)
  have g2 : st.get (.tmp 2) = .v (.a (.int .i64 t)) := hg 2 (of_decide_eq_true rfl)
  have g3 : st.get (.tmp 3) = .v (.a (.iv r 46 l)) := hg 3 (of_decide_eq_true rfl)
  have r0 := hr 0
  have r1 := hr 1
  have r2 := hr 2
  have r3 := hr 3
  have r4 := hr 4
  have r5 := hr 5
  have r6 := hr 6
  have r7 := hr 7
  have r8 := hr 8
  have r9 := hr 9
  have r10 := hr 10
  have r11 := hr 11
  have r12 := hr 12
  have r13 := hr 13
  have r14 := hr 14
  have r15 := hr 15
  have r16 := hr 16
  have r17 := hr 17
  have r18 := hr 18
  have r19 := hr 19
  have r20 := hr 20
  have r21 := hr 21
  have r22 := hr 22
  have r23 := hr 23
  have r24 := hr 24
  clear hg hr
  rw [co22]
  simp only [Try.f22, Option.getD_some]
  have hl0 := ok_len (ok_fld (j := 0) hb)
  have hl1 := ok_len (ok_fld (j := 1) hb)
  have hzc2 : (asL (fld b 0)).length ≤ 1000000 := by omega
  have hpv := fun i => pv_ne (q := q) (i := i) hq
  have hpa := mn_2 hq2
  have hps := fun i => pv_succ (q := q) (i := i) hq2
  have hqq := Nat.le_refl q
  have hck := check_ans ext k hN hE hU n b p q (by omega) hnn hb hq hz hzc2 hzp hig
  by_cases h1 : (CK n b).1 = 0
  case neg =>
    have ha : aE n b t l = (CK n b).1 := by unfold aE; rw [if_neg h1]
    have har := aR_no (q := q) (r := r) (n := n) (b := b) (t := t) (l := l) (by rw [ha]; exact h1)
    simp (maxDischargeDepth := 9) only [go_sem, Nat.reduceMul, Nat.reduceAdd, Nat.reduceLeDiff, Int.reduceSub, Int.reduceNeg, Int.reduceLT, Int.reduceLE, Int.reduceEq, *, check_ans, cpre_ans, clone_ans, outputs_ans, cls_len, ocs_len, pss_len, tgs_len, pvx, aC, aV, St.freezeL, Tab.ivL, Nat.le_refl, nE_eq]
    with_reducible refine draw_with [2] (by kernel_rfl) (by kernel_rfl) ?_
    simp (maxDischargeDepth := 9) only [go_sem, Nat.reduceMul, Nat.reduceAdd, Nat.reduceLeDiff, Int.reduceSub, Int.reduceNeg, Int.reduceLT, Int.reduceLE, Int.reduceEq, *, check_ans, cpre_ans, clone_ans, outputs_ans, cls_len, ocs_len, pss_len, tgs_len, pvx, aC, aV, St.freezeL, Tab.ivL, Nat.le_refl, nE_eq]
    with_reducible refine dop_valW ?_ ?_
    · simp only [St.keysOf, Op.operands, List.flatMap_cons, List.flatMap_nil, SV.keys, V1.keys, At.keys, go_sem, *]
      try rfl
    simp (maxDischargeDepth := 9) only [go_sem, Nat.reduceMul, Nat.reduceAdd, Nat.reduceLeDiff, Int.reduceSub, Int.reduceNeg, Int.reduceLT, Int.reduceLE, Int.reduceEq, *, check_ans, cpre_ans, clone_ans, outputs_ans, cls_len, ocs_len, pss_len, tgs_len, pvx, aC, aV, St.freezeL, Tab.ivL, Nat.le_refl]
    with_reducible refine dop_valW ?_ ?_
    · simp only [St.keysOf, Op.operands, List.flatMap_cons, List.flatMap_nil, SV.keys, V1.keys, At.keys, go_sem, *]
      try rfl
    simp (maxDischargeDepth := 9) only [go_sem, Nat.reduceMul, Nat.reduceAdd, Nat.reduceLeDiff, Int.reduceSub, Int.reduceNeg, Int.reduceLT, Int.reduceLE, Int.reduceEq, *, check_ans, cpre_ans, clone_ans, outputs_ans, cls_len, ocs_len, pss_len, tgs_len, pvx, aC, aV, St.freezeL, Tab.ivL, Nat.le_refl]
    with_reducible refine dop_valW ?_ ?_
    · simp only [St.keysOf, Op.operands, List.flatMap_cons, List.flatMap_nil, SV.keys, V1.keys, At.keys, go_sem, *]
      try rfl
    simp (maxDischargeDepth := 9) only [go_sem, Nat.reduceMul, Nat.reduceAdd, Nat.reduceLeDiff, Int.reduceSub, Int.reduceNeg, Int.reduceLT, Int.reduceLE, Int.reduceEq, *, check_ans, cpre_ans, clone_ans, outputs_ans, cls_len, ocs_len, pss_len, tgs_len, pvx, aC, aV, St.freezeL, Tab.ivL, Nat.le_refl]
    with_reducible refine dop_eff (by kernel_rfl) rfl ?_
    simp (maxDischargeDepth := 9) only [go_sem, Nat.reduceMul, Nat.reduceAdd, Nat.reduceLeDiff, Int.reduceSub, Int.reduceNeg, Int.reduceLT, Int.reduceLE, Int.reduceEq, *, check_ans, cpre_ans, clone_ans, outputs_ans, cls_len, ocs_len, pss_len, tgs_len, pvx, aC, aV, St.freezeL, Tab.ivL, Nat.le_refl, Tab.eff]
    with_reducible refine dop_valW ?_ ?_
    · simp only [St.keysOf, Op.operands, List.flatMap_cons, List.flatMap_nil, SV.keys, V1.keys, At.keys, go_sem, *]
      try rfl
    simp (maxDischargeDepth := 9) only [go_sem, Nat.reduceMul, Nat.reduceAdd, Nat.reduceLeDiff, Int.reduceSub, Int.reduceNeg, Int.reduceLT, Int.reduceLE, Int.reduceEq, *, check_ans, cpre_ans, clone_ans, outputs_ans, cls_len, ocs_len, pss_len, tgs_len, pvx, aC, aV, St.freezeL, Tab.ivL, Nat.le_refl]
  have hg := hig (CK_IE h1)
  by_cases h2 : t < 0 ∨ ((asL (fld n 2)).length : Int) ≤ t
  case pos =>
    have ha : aE n b t l = 7 := by unfold aE; rw [if_pos h1, if_pos (by rcases h2 with h2 | h2 <;> simp [h2])]
    have har := aR_no (q := q) (r := r) (n := n) (b := b) (t := t) (l := l) (by rw [ha]; decide)
    simp (maxDischargeDepth := 9) only [go_sem, Nat.reduceMul, Nat.reduceAdd, Nat.reduceLeDiff, Int.reduceSub, Int.reduceNeg, Int.reduceLT, Int.reduceLE, Int.reduceEq, *, check_ans, cpre_ans, clone_ans, outputs_ans, cls_len, ocs_len, pss_len, tgs_len, pvx, aC, aV, St.freezeL, Tab.ivL, Nat.le_refl, nE_eq]
    repeat' (first | (with_reducible refine condLt (fun h h' => ?_) (fun h h' => ?_)) | (with_reducible refine condLe (fun h h' => ?_) (fun h h' => ?_)) | (with_reducible refine dop_val ?_) | (with_reducible refine YsLt (fun h h' => ?_) (fun h h' => ?_)) | (with_reducible refine YsLe (fun h h' => ?_) (fun h h' => ?_)) | (with_reducible refine condP (fun h => ?_) (fun h => ?_)) | (with_reducible refine condN (fun h => ?_) (fun h => ?_)) | (with_reducible refine condB (fun h => ?_) (fun h => ?_)) | (with_reducible refine condR (fun h => ?_) (fun h => ?_)) | (with_reducible refine YsB (fun h => ?_) (fun h => ?_)) | (with_reducible refine YsC (fun h => ?_) (fun h => ?_)) | (with_reducible refine Ys_ite (fun h => ?_) (fun h => ?_)) | (intro h) | (with_reducible refine draw_look (by kernel_rfl) (by kernel_rfl) ?_) | (simp (maxDischargeDepth := 9) only [go_sem, Nat.reduceMul, Nat.reduceAdd, Nat.reduceLeDiff, Int.reduceSub, Int.reduceNeg, Int.reduceLT, Int.reduceLE, Int.reduceEq, *, check_ans, cpre_ans, clone_ans, outputs_ans, cls_len, ocs_len, pss_len, tgs_len, pvx, aC, aV, St.freezeL, Tab.ivL, Nat.le_refl, nE_eq]) | (exfalso; omega))
  have h2a : 0 ≤ t := by omega
  have h2b : t < ((asL (fld n 2)).length : Int) := by omega
  have ht := hg.t1 h2a h2b
  have hs1 := hg.l1 h2a h2b
  have hs2 := hg.l2 h2a h2b
  have hin := hg.in1 (e := nE t l) (by rw [nE_0]; exact h2a) (by rw [nE_0]; exact h2b)
  have hpb := mn_2 hr2
  have hcp := cpre_ans ext k hN hE hU n b (nE t l) p q r (by omega) hnn hb hq (ok_nE (by omega) hv) hz (by omega) (by rw [nE_0]; exact ht) (by rw [nE_0]; exact hs1) hin
  by_cases h3 : CP n b (nE t l) = 0
  case neg =>
    have ha : aE n b t l = 7 := by unfold aE; rw [if_pos h1, if_pos (by simp [h3])]
    have har := aR_no (q := q) (r := r) (n := n) (b := b) (t := t) (l := l) (by rw [ha]; decide)
    simp (maxDischargeDepth := 9) only [go_sem, Nat.reduceMul, Nat.reduceAdd, Nat.reduceLeDiff, Int.reduceSub, Int.reduceNeg, Int.reduceLT, Int.reduceLE, Int.reduceEq, *, check_ans, cpre_ans, clone_ans, outputs_ans, cls_len, ocs_len, pss_len, tgs_len, pvx, aC, aV, St.freezeL, Tab.ivL, Nat.le_refl, nE_eq]
    repeat' (first | (with_reducible refine condLt (fun h h' => ?_) (fun h h' => ?_)) | (with_reducible refine condLe (fun h h' => ?_) (fun h h' => ?_)) | (with_reducible refine dop_val ?_) | (with_reducible refine YsLt (fun h h' => ?_) (fun h h' => ?_)) | (with_reducible refine YsLe (fun h h' => ?_) (fun h h' => ?_)) | (with_reducible refine condP (fun h => ?_) (fun h => ?_)) | (with_reducible refine condN (fun h => ?_) (fun h => ?_)) | (with_reducible refine condB (fun h => ?_) (fun h => ?_)) | (with_reducible refine condR (fun h => ?_) (fun h => ?_)) | (with_reducible refine YsB (fun h => ?_) (fun h => ?_)) | (with_reducible refine YsC (fun h => ?_) (fun h => ?_)) | (with_reducible refine Ys_ite (fun h => ?_) (fun h => ?_)) | (intro h) | (with_reducible refine draw_look (by kernel_rfl) (by kernel_rfl) ?_) | (simp (maxDischargeDepth := 9) only [go_sem, Nat.reduceMul, Nat.reduceAdd, Nat.reduceLeDiff, Int.reduceSub, Int.reduceNeg, Int.reduceLT, Int.reduceLE, Int.reduceEq, *, check_ans, cpre_ans, clone_ans, outputs_ans, cls_len, ocs_len, pss_len, tgs_len, pvx, aC, aV, St.freezeL, Tab.ivL, Nat.le_refl, nE_eq]) | (exfalso; omega))
  by_cases h4 : (2000 : Int) ≤ ((asL (fld b 1)).length : Int)
  case pos =>
    have ha : aE n b t l = 2 := by unfold aE; rw [if_pos h1, if_neg (by simp only [not_or]; exact ⟨by omega, by omega, by simp [h3]⟩), if_pos h4]
    have har := aR_no (q := q) (r := r) (n := n) (b := b) (t := t) (l := l) (by rw [ha]; decide)
    simp (maxDischargeDepth := 9) only [go_sem, Nat.reduceMul, Nat.reduceAdd, Nat.reduceLeDiff, Int.reduceSub, Int.reduceNeg, Int.reduceLT, Int.reduceLE, Int.reduceEq, *, check_ans, cpre_ans, clone_ans, outputs_ans, cls_len, ocs_len, pss_len, tgs_len, pvx, aC, aV, St.freezeL, Tab.ivL, Nat.le_refl, nE_eq]
    repeat' (first | (with_reducible refine condLt (fun h h' => ?_) (fun h h' => ?_)) | (with_reducible refine condLe (fun h h' => ?_) (fun h h' => ?_)) | (with_reducible refine dop_val ?_) | (with_reducible refine YsLt (fun h h' => ?_) (fun h h' => ?_)) | (with_reducible refine YsLe (fun h h' => ?_) (fun h h' => ?_)) | (with_reducible refine condP (fun h => ?_) (fun h => ?_)) | (with_reducible refine condN (fun h => ?_) (fun h => ?_)) | (with_reducible refine condB (fun h => ?_) (fun h => ?_)) | (with_reducible refine condR (fun h => ?_) (fun h => ?_)) | (with_reducible refine YsB (fun h => ?_) (fun h => ?_)) | (with_reducible refine YsC (fun h => ?_) (fun h => ?_)) | (with_reducible refine Ys_ite (fun h => ?_) (fun h => ?_)) | (intro h) | (with_reducible refine draw_look (by kernel_rfl) (by kernel_rfl) ?_) | (simp (maxDischargeDepth := 9) only [go_sem, Nat.reduceMul, Nat.reduceAdd, Nat.reduceLeDiff, Int.reduceSub, Int.reduceNeg, Int.reduceLT, Int.reduceLE, Int.reduceEq, *, check_ans, cpre_ans, clone_ans, outputs_ans, cls_len, ocs_len, pss_len, tgs_len, pvx, aC, aV, St.freezeL, Tab.ivL, Nat.le_refl, nE_eq]) | (exfalso; omega))
  have ha : aE n b t l = 0 := by unfold aE; rw [if_pos h1, if_neg (by simp only [not_or]; exact ⟨by omega, by omega, by simp [h3]⟩), if_neg h4]
  have har := aR_ok (q := q) (r := r) (n := n) (b := b) (t := t) (l := l) ha
  clear hin
  have hclo := clone_ans ext k b q (by omega) hb hq hq2 hz (by omega) hpp
  have h2c : ¬ t < 0 := by omega
  have h2d : ¬ ((asL (fld n 2)).length : Int) ≤ t := by omega
  have hll : (asL l).length ≤ 100000 := by
    have hc : (asL l).length = (insL n (nE t l)).length := CP_len h3
    have hc2 : (insL n (nE t l)).length = (asL (fld (el (asL (fld n 2)) t) 1)).length := tgs_len
    omega
  have hll2 : (asL l).length ≤ 1000000 := by omega
  have hol : (asL (fld (el (asL (fld n 2)) t) 2)).length ≤ 100000 := hs2
  have hol2 : (asL (fld (el (asL (fld n 2)) t) 2)).length ≤ maxLen := Nat.le_trans hol (by unfold maxLen; omega)
  have hev : (asL (fld b 1)).length + 1 ≤ 1000000 := by omega
  have hpx : (if pv q (asL (fld b 1)).length ≤ r then pv q (asL (fld b 1)).length else r) ≠ 0 := by split; exact hpv _; exact hr
  simp (maxDischargeDepth := 9) only [go_sem, Nat.reduceMul, Nat.reduceAdd, Nat.reduceLeDiff, Int.reduceSub, Int.reduceNeg, Int.reduceLT, Int.reduceLE, Int.reduceEq, *, check_ans, cpre_ans, clone_ans, outputs_ans, cls_len, ocs_len, pss_len, tgs_len, pvx, aC, aV, St.freezeL, Tab.ivL, Nat.le_refl, nE_eq]
  refine gen_st (fun s0 hg hr hn0 => ?_)
  have e5 := hg 5
  have e8 := hg 8
  have e9 := hg 9
  have e11 := hg 11
  have e12 := hg 12
  have e57 := hg 57
  have e58 := hg 58
  have e59 := hg 59
  have q0 := hr 0
  have q1 := hr 1
  have q2 := hr 2
  have q3 := hr 3
  have q4 := hr 4
  have q5 := hr 5
  have q6 := hr 6
  have q7 := hr 7
  have q10 := hr 10
  have q12 := hr 12
  have q13 := hr 13
  have q14 := hr 14
  have q21 := hr 21
  clear hg hr
  simp (maxDischargeDepth := 9) only [go_sem, *] at hn0 e5 e8 e9 e11 e12 e57 e58 e59 q0 q1 q2 q3 q4 q5 q6 q7 q10 q12 q13 q14 q21
  refine nr (runs_forN (asL (fld (el (asL (fld n 2)) t) 2)).length (fun (_ : Unit) _ => Stp.next (ρ := Unit) ()) () 89 (fun i a => [(5, s0.get (.tmp 5)), (8, s0.get (.tmp 8)), (9, s0.get (.tmp 9)), (11, s0.get (.tmp 11)), (12, s0.get (.tmp 12)), (57, s0.get (.tmp 57)), (58, s0.get (.tmp 58)), (59, .v (.a (.int .i64 (i : Nat))))]) (fun i a => [(0, s0.row 0), (1, s0.row 1), (2, s0.row 2), (3, s0.row 3), (12, s0.row 12), (13, s0.row 13), (14, s0.row 14), (21, s0.row 21), (4, some (.box false 29 [0, 1] (.g 29 [.own 5, .own 6]))), (5, some (.arr q 54 ((asL (fld b 0)) ++ ocs n b t i))), (6, some (.arr (pv q (asL (fld b 1)).length) 56 (cls b (asL (fld b 1)).length))), (7, some (.box false 56 [2] (.g 56 [.int .i64 t, .iv r 46 (.L (asL l)), .own 10, .bool false]))), (10, some (.arr 2 3 (pss b i)))]) (fun i a => True) (by omega) ?_ (trivial) ?_ ?_ ?_ ?_)
  · simp (maxDischargeDepth := 9) only [go_sem, Nat.reduceMul, Nat.reduceAdd, Nat.reduceLeDiff, Int.reduceSub, Int.reduceNeg, Int.reduceLT, Int.reduceLE, Int.reduceEq, *, check_ans, cpre_ans, clone_ans, outputs_ans, cls_len, ocs_len, pss_len, tgs_len, pvx, aC, aV, St.freezeL, Tab.ivL, Nat.le_refl]
  · intro i a; simp (maxDischargeDepth := 9) only [go_sem, Nat.reduceMul, Nat.reduceAdd, Nat.reduceLeDiff, Int.reduceSub, Int.reduceNeg, Int.reduceLT, Int.reduceLE, Int.reduceEq, *, check_ans, cpre_ans, clone_ans, outputs_ans, cls_len, ocs_len, pss_len, tgs_len, pvx, aC, aV, St.freezeL, Tab.ivL, Nat.le_refl]
  · intro i a; simp (maxDischargeDepth := 9) only [go_sem, Nat.reduceMul, Nat.reduceAdd, Nat.reduceLeDiff, Int.reduceSub, Int.reduceNeg, Int.reduceLT, Int.reduceLE, Int.reduceEq, *, check_ans, cpre_ans, clone_ans, outputs_ans, cls_len, ocs_len, pss_len, tgs_len, pvx, aC, aV, St.freezeL, Tab.ivL, Nat.le_refl]
  · intro i a s hi hI hS
    clear hn0 e59 q4 q5 q6 q7 q10
    simp only [go_sem] at hS
    obtain ⟨f5, f8, f9, f11, f12, f57, f58, f59, m0, m1, m2, m3, m12, m13, m14, m21, m4, m5, m6, m7, m10, hn⟩ := hS
    have hw := wrap_succ hi (hol2)
    have hoc := ocs_succ (n := n) (b := b) (t := t) (i := i)
    have hpsu := pss_succ (b := b) (i := i)
    have hoi : i + 1 ≤ 1000000 := by omega
    have hoj : (asL (fld b 0)).length + i + 1 ≤ 1000000 := by omega
    refine rn ?_
    simp (maxDischargeDepth := 9) only [go_sem, Nat.reduceMul, Nat.reduceAdd, Nat.reduceLeDiff, Int.reduceSub, Int.reduceNeg, Int.reduceLT, Int.reduceLE, Int.reduceEq, *, check_ans, cpre_ans, clone_ans, outputs_ans, cls_len, ocs_len, pss_len, tgs_len, pvx, aC, aV, St.freezeL, Tab.ivL, Nat.le_refl]
    all_goals exact AU_add
  · intro a s hI hf hS
    clear hn0 e59 q4 q5 q6 q7 q10
    simp only [go_sem] at hS
    obtain ⟨f5, f8, f9, f11, f12, f57, f58, f59, m0, m1, m2, m3, m12, m13, m14, m21, m4, m5, m6, m7, m10, hn⟩ := hS
    try simp only [go_sem] at hf
    refine rn ?_
    simp (maxDischargeDepth := 9) only [go_sem, Nat.reduceMul, Nat.reduceAdd, Nat.reduceLeDiff, Int.reduceSub, Int.reduceNeg, Int.reduceLT, Int.reduceLE, Int.reduceEq, *, check_ans, cpre_ans, clone_ans, outputs_ans, cls_len, ocs_len, pss_len, tgs_len, pvx, aC, aV, St.freezeL, Tab.ivL, Nat.le_refl]
    all_goals exact AU_add
end Go.Proofs.Ytficdonjodadlaa
end
section
set_option linter.unusedVariables false
set_option maxRecDepth 100000
namespace Go.Ev
def exA : IV := .L [.A [.I 0, .I 1]]
def exN : IV := .A [.S ⟨#[110]⟩, .L [.A [.S ⟨#[112]⟩, .I 1, .I 0]], .L [.A [.S ⟨#[97]⟩, exA, .N, .N, .I 0], .A [.S ⟨#[98]⟩, exA, .N, .N, .I 0]]]
def exC : IV := .A [.I 0, .I (-1)]
def exE (t : Int) : IV := .A [.I t, .L [.I 0], .L [], .B false]
def exB0 : IV := .A [.L [exC], .N]
def exB1 : IV := .A [.L [exC], .L [exE 0]]
def exB2 : IV := .A [.L [exC], .L [exE 0, exE 1]]
theorem ex_IE : IE exN = 0 := by kernel_rfl
theorem ex_VN : VN exN = true := by kernel_rfl
theorem ex_aE0 : aE exN exB0 0 (.L [.I 0]) = 0 := by kernel_rfl
theorem ex_aE1 : aE exN exB1 1 (.L [.I 0]) = 0 := by kernel_rfl
theorem ex_ch : chO exB0 0 1 = [.L [.I 0]] := by kernel_rfl
theorem ex_PS : PS exN exB0 (fun _ => chO exB0 0 1) = [.L [.I 0, .I 0], .L [.I 1, .I 0]] := by kernel_rfl
theorem ex_ib : ibR exN = .g 29 [.at (.iv 2 26 (.L [exC])), .at (.iv 2 27 .N)] := by kernel_rfl
theorem ex_aR0 : aR exN exB0 0 (.L [.I 0]) 2 2 = .g 29 [.at (.iv 2 26 (.L [exC])), .at (.iv 2 27 (.L [exE 0]))] := by kernel_rfl
theorem ex_aR1 : aR exN exB1 1 (.L [.I 0]) 2 2 = .g 29 [.at (.iv 2 26 (.L [exC])), .at (.iv 2 27 (.L [exE 0, exE 1]))] := by kernel_rfl
theorem ex_tg : ∀ i, i < 2 → tgs (fld ((asL (fld exN 2)).getD i .N) 1) (asL (fld ((asL (fld exN 2)).getD i .N) 1)).length = [.I 0]
  | 0, _ => by kernel_rfl
  | 1, _ => by kernel_rfl
theorem ex_IN0 : IN exB2 0 = true := by kernel_rfl
theorem ex_IN1 : IN exB2 1 = true := by kernel_rfl
theorem ex_FD0 : FD exB0 = true := by kernel_rfl
theorem ex_refl {b : IV} {e : Nat} : hist b (e : Int) e = true := by
  have h : Rch b e e := .refl
  simp [hist, h]
theorem ex_CL : CLf exB2 (hist exB2 0) (hist exB2 1) = true := by
  have h0 := ex_refl (b := exB2) (e := 0)
  have h1 := ex_refl (b := exB2) (e := 1)
  unfold CLf
  refine List.any_eq_true.2 ⟨0, by simp [exB2, fld, asL], List.any_eq_true.2 ⟨1, by simp [exB2, fld, asL], ?_⟩⟩
  rw [show ((0 : Nat) : Int) = 0 from rfl] at h0
  rw [show ((1 : Nat) : Int) = 1 from rfl] at h1
  rw [h0, h1]
  kernel_rfl
theorem ex_conf : (IN exB2 0 && IN exB2 1 && CLf exB2 (hist exB2 0) (hist exB2 1)) = true := by rw [ex_IN0, ex_IN1, ex_CL]; rfl
theorem okI {n : Int} (h : -1 ≤ n ∧ n ≤ 1000) : Ok (.I n) := .I (by omega)
theorem okLs {l : List IV} (h : l.length ≤ 1000) (hr : ∀ x ∈ l, Ok x) : Ok (.L l) := .L (by unfold maxLen; omega) hr
theorem ex_okA : Ok exA := okLs (by decide) (by
  intro x hx; simp only [List.mem_cons, List.not_mem_nil, or_false] at hx; subst hx
  exact .A (by intro x hx; simp only [List.mem_cons, List.not_mem_nil, or_false] at hx; rcases hx with rfl | rfl <;> exact okI (by omega)))
theorem ex_okN : Ok exN := by
  refine .A (fun x hx => ?_)
  simp only [List.mem_cons, List.not_mem_nil, or_false] at hx
  rcases hx with rfl | rfl | rfl
  · exact .S
  · refine okLs (by decide) (fun x hx => ?_)
    simp only [List.mem_cons, List.not_mem_nil, or_false] at hx; subst hx
    refine .A (fun x hx => ?_)
    simp only [List.mem_cons, List.not_mem_nil, or_false] at hx
    rcases hx with rfl | rfl | rfl
    · exact .S
    · exact okI (by omega)
    · exact okI (by omega)
  · refine okLs (by decide) (fun x hx => ?_)
    simp only [List.mem_cons, List.not_mem_nil, or_false] at hx
    rcases hx with rfl | rfl <;>
    · refine .A (fun x hx => ?_)
      simp only [List.mem_cons, List.not_mem_nil, or_false] at hx
      rcases hx with rfl | rfl | rfl | rfl | rfl
      · exact .S
      · exact ex_okA
      · exact .N
      · exact .N
      · exact okI (by omega)
theorem ex_okC : Ok exC := .A (by intro x hx; simp only [List.mem_cons, List.not_mem_nil, or_false] at hx; rcases hx with rfl | rfl <;> exact okI (by omega))
theorem ex_okl : Ok (.L [.I 0]) := okLs (by decide) (by intro x hx; simp only [List.mem_cons, List.not_mem_nil, or_false] at hx; subst hx; exact okI (by omega))
theorem ex_okE {t : Int} (h : 0 ≤ t ∧ t ≤ 1) : Ok (exE t) := by
  refine .A (fun x hx => ?_)
  simp only [List.mem_cons, List.not_mem_nil, or_false] at hx
  rcases hx with rfl | rfl | rfl | rfl
  · exact okI (by omega)
  · exact ex_okl
  · exact okLs (by decide) (fun x hx => by cases hx)
  · exact .B
theorem ex_okB {l : List IV} (h : l.length ≤ 1000) (hr : ∀ x ∈ l, Ok x) : Ok (.A [.L [exC], .L l]) := by
  refine .A (fun x hx => ?_)
  simp only [List.mem_cons, List.not_mem_nil, or_false] at hx
  rcases hx with rfl | rfl
  · exact okLs (by decide) (fun x hx => by simp only [List.mem_cons, List.not_mem_nil, or_false] at hx; subst hx; exact ex_okC)
  · exact okLs h hr
theorem ex_okB0 : Ok exB0 := by
  refine .A (fun x hx => ?_)
  simp only [List.mem_cons, List.not_mem_nil, or_false] at hx
  rcases hx with rfl | rfl
  · exact okLs (by decide) (fun x hx => by simp only [List.mem_cons, List.not_mem_nil, or_false] at hx; subst hx; exact ex_okC)
  · exact .N
theorem ex_okB1 : Ok exB1 := ex_okB (by decide) (fun x hx => by simp only [List.mem_cons, List.not_mem_nil, or_false] at hx; subst hx; exact ex_okE (by omega))
theorem ex_okB2 : Ok exB2 := ex_okB (by decide) (fun x hx => by simp only [List.mem_cons, List.not_mem_nil, or_false] at hx; rcases hx with rfl | rfl <;> exact ex_okE (by omega))
theorem ex_NG : NG exN := by
  refine ⟨ex_VN, ?_, by decide, by decide, ?_⟩
  · intro t ht
    have : t ∈ [IV.A [.S ⟨#[97]⟩, exA, .N, .N, .I 0], .A [.S ⟨#[98]⟩, exA, .N, .N, .I 0]] := ht
    simp only [List.mem_cons, List.not_mem_nil, or_false] at this
    rcases this with rfl | rfl <;> exact ⟨by decide, by decide⟩
  · intro t ht x hx
    have : t ∈ [IV.A [.S ⟨#[97]⟩, exA, .N, .N, .I 0], .A [.S ⟨#[98]⟩, exA, .N, .N, .I 0]] := ht
    simp only [List.mem_cons, List.not_mem_nil, or_false] at this
    have hx2 : x ∈ [IV.A [.I 0, .I 1]] := by rcases this with rfl | rfl <;> exact hx
    simp only [List.mem_cons, List.not_mem_nil, or_false] at hx2
    subst hx2
    exact ⟨by decide, by decide⟩
theorem ex_pp0 : ∀ x ∈ asL (fld exB0 1), (∃ l, x = .A l) ∧ (asL (fld x 1)).length ≤ 100000 ∧ (asL (fld x 2)).length ≤ 100000 := by intro x hx; cases hx
theorem ex_pp1 : ∀ x ∈ asL (fld exB1 1), (∃ l, x = .A l) ∧ (asL (fld x 1)).length ≤ 100000 ∧ (asL (fld x 2)).length ≤ 100000 := by
  intro x hx
  have : x ∈ [exE 0] := hx
  simp only [List.mem_cons, List.not_mem_nil, or_false] at this
  subst this
  exact ⟨⟨_, rfl⟩, by decide, by decide⟩
theorem exN_eq : IV.A [.S ⟨#[110]⟩, .L [.A [.S ⟨#[112]⟩, .I 1, .I 0]], .L [.A [.S ⟨#[97]⟩, .L [.A [.I 0, .I 1]], .N, .N, .I 0], .A [.S ⟨#[98]⟩, .L [.A [.I 0, .I 1]], .N, .N, .I 0]]] = exN := (rfl)
theorem exB0_eq : IV.A [.L [exC], .N] = exB0 := (rfl)
theorem exB1_eq : IV.A [.L [exC], .L [exE 0]] = exB1 := (rfl)
theorem exB2_eq : IV.A [.L [exC], .L [exE 0, exE 1]] = exB2 := (rfl)
end Go.Ev
end
section
set_option linter.unusedSimpArgs false
set_option linter.unusedVariables false
set_option maxRecDepth 100000
set_option maxHeartbeats 4000000
namespace Go.Proofs.Ytficdonjodadlaa
open Go.Ev Go.Proofs
theorem example_ans (ext : CallF) (k : Nat) (hN : ExN ext) (hE : ExC ext) (hU : ExU ext) (hk : maxLen + (D0 + 60) ≤ k) : ans (tab.run ext k) 12 [] 2 = some ([.one (.at (.bool true))], [4]) := by
  obtain ⟨k, rfl⟩ : ∃ k', k = k' + 1 := ⟨k - 1, by omega⟩
  have hk1 : maxLen < k := by omega
  have hk0 : 0 < k := by omega
  have hk_0 : maxLen + (24) ≤ k := by omega
  have hk_1 : maxLen + (D0 + 20) ≤ k := by omega
  have hk_2 : maxLen + (D0 + 52) ≤ k := by omega
  refine fn_run (fx := fx12) (m := 51) 51 rfl rfl rfl rfl (fun st hn hg hr => ?_)
  have r0 := hr 0
  have r1 := hr 1
  clear hg hr
  rw [co12]
  simp only [Try.f12, Option.getD_some]
  have hD := D0_ge
  have e_0 := initial_ans ext k hN exN 2 (by omega) ex_okN (by decide)
  rw [ex_ib, ex_IE] at e_0
  have e_1 := possible_ans ext k hN hE hU exN exB0 2 2 (fun _ => chO exB0 0 1) (by omega) ex_okN ex_okB0 (by decide) (by decide) (by decide) (by decide) (fun _ => ex_NG) (by decide) (fun i => by rw [ex_ch]; decide) (fun i u hu => by rw [ex_ch] at hu; simp only [List.mem_cons, List.not_mem_nil, or_false] at hu; subst hu; decide) (fun _ i k hi hk => by
    rw [ex_tg i hi]
    exact choices_ans ext k hE hU exB0 0 2 2 (by omega) (by decide) ex_okB0 ex_FD0 (by decide) (by decide) ex_okl)
  rw [ex_PS] at e_1
  have e_2 := add_ans ext k hN hE hU exN exB0 (.L [.I 0]) 0 2 2 2 (by omega) ex_okN ex_okB0 ex_okl (by decide) (by decide) (by decide) (by decide) (by decide) (by decide) (by decide) (by decide) (fun _ => ex_NG) ex_pp0
  rw [ex_aR0, ex_aE0] at e_2
  have e_3 := add_ans ext k hN hE hU exN exB1 (.L [.I 0]) 1 2 2 2 (by omega) ex_okN ex_okB1 ex_okl (by decide) (by decide) (by decide) (by decide) (by decide) (by decide) (by decide) (by decide) (fun _ => ex_NG) ex_pp1
  rw [ex_aR1, ex_aE1] at e_3
  have e_4 := conflict_ans ext k hE exB2 0 1 2 (by omega) ex_okB2 (by decide) (by decide)
  rw [ex_conf] at e_4
  simp (maxDischargeDepth := 9) only [go_sem, Nat.reduceMul, Nat.reduceAdd, Nat.reduceLeDiff, Int.reduceSub, Int.reduceNeg, Int.reduceLT, Int.reduceLE, Int.reduceEq, *, exN_eq, exB0_eq, exB1_eq, exB2_eq, Tab.build, Tab.ivL, R1.frozenL, RV.frozenT, Tab.lits]
  repeat' (first | (with_reducible refine condLt (fun h h' => ?_) (fun h h' => ?_)) | (with_reducible refine condLe (fun h h' => ?_) (fun h h' => ?_)) | (with_reducible refine dop_val ?_) | (with_reducible refine YsLt (fun h h' => ?_) (fun h h' => ?_)) | (with_reducible refine YsLe (fun h h' => ?_) (fun h h' => ?_)) | (with_reducible refine condP (fun h => ?_) (fun h => ?_)) | (with_reducible refine condN (fun h => ?_) (fun h => ?_)) | (with_reducible refine condB (fun h => ?_) (fun h => ?_)) | (with_reducible refine condR (fun h => ?_) (fun h => ?_)) | (with_reducible refine YsB (fun h => ?_) (fun h => ?_)) | (with_reducible refine YsC (fun h => ?_) (fun h => ?_)) | (with_reducible refine Ys_ite (fun h => ?_) (fun h => ?_)) | (intro h) | (with_reducible refine draw_look (by kernel_rfl) (by kernel_rfl) ?_) | (simp (maxDischargeDepth := 9) only [go_sem, Nat.reduceMul, Nat.reduceAdd, Nat.reduceLeDiff, Int.reduceSub, Int.reduceNeg, Int.reduceLT, Int.reduceLE, Int.reduceEq, *, exN_eq, exB0_eq, exB1_eq, exB2_eq, Tab.build, Tab.ivL, R1.frozenL, RV.frozenT, Tab.lits]) | (exfalso; omega))
end Go.Proofs.Ytficdonjodadlaa
end
section
set_option linter.unusedVariables false
set_option linter.unusedSimpArgs false
namespace Go.Proofs.Ytficdonjodadlaa.Mk
open Go.RowKit Go.Proofs
attribute [local go_sem] Oper.semAt_some
structure Aside (p : Prop) : Prop where
  out : p
def intOf : Value → Int | .int _ q => q | _ => 0
def mkS (n : Nat) (S : Nat → Bool) : List (Fin n) := (List.finRange n).filter fun i => S i.val
theorem range_drop {n j : Nat} (h : j < n) : (List.finRange n).drop j = ⟨j, h⟩ :: (List.finRange n).drop (j + 1) := by
  rw [List.drop_eq_getElem_cons (by simpa using h)]; simp
set_option maxRecDepth 100000 in
set_option maxHeartbeats 1000000 in
theorem mk1_in (F : Fence) (n : Nat) (h6 : F.fn 91) (hro : F.round = none) (hn : 1 ≤ n) (l Bn : Nat) (w0 : World) (A : Option Addr) (c len : Nat) (S : Nat → Bool)
    (hr : ∀ j, j < len → ∃ ad, A = some ad ∧ w0.cell? (ad.add j) = some (.bool (S j))) (hml : len ≤ 1000000)
    (J Jx : List (Fin len) → World → Prop)
    (hY : ∀ pre x W, J pre W → pre.length < (mkS len S).length → YieldAt F (n - 1) Try.prog l #[.int .i64 ((x.val : Nat) : Int)] W fun e W' =>
      (e = .returned (.bool true) ∧ J (pre ++ [x]) W' ∧ Below w0.heap.size W W') ∨ (e = .returned (.bool false) ∧ Jx (pre ++ [x]) W'))
    (W : World) (hBn : W.cell? ⟨Bn, 0, none⟩ = some (.slice A len c)) (hB : Below w0.heap.size w0 W) (h0 : J [] W) :
    CallsIn F n Try.prog 91 #[.func (.yield l) #[] #[], .pointer (some ⟨Bn, 0, none⟩)] W fun e W' => (∃ v, e = .returned v) ∧
      ((∃ ys, ys = mkS len S ∧ J ys W') ∨ (∃ pre, pre <+: mkS len S ∧ Jx pre W')) := by
  refine callsIn_of_wp Try.func91 rfl h6 ?_ hro
  simp only [Try.ntmps91, List.size_toArray, List.length_cons, List.length_nil, Nat.reduceAdd, Nat.reduceSub, Array.replicate_succ, Array.replicate_zero, List.push_toArray, List.append_toArray, List.nil_append, List.cons_append]
  have HR := Aside.mk hr
  have H0 := Aside.mk h0
  have HB := Aside.mk hB
  have HY := Aside.mk hY
  clear hr h0 hB hY
  gi_wp2
  gi_loopw [7] (fun p wr => ∃ (j : Nat) (pre : List (Fin len)), p = .int .i64 (j : Int) ∧ j ≤ len ∧ Aside (mkS len S = pre ++ ((List.finRange len).drop j).filter (fun i => S i.val)) ∧ Aside (J pre wr) ∧ Aside (Below w0.heap.size w0 wr))
    (fun p _ => len - (intOf p).toNat)
  case atStart => exact ⟨0, [], rfl, Nat.zero_le _, ⟨by simp [mkS]⟩, H0, HB⟩
  case round =>
    clear H0 HB
    obtain ⟨j, pre, rfl, hj, HM, HJ, HB⟩ := hrel
    by_cases hlt : j < len
    · obtain ⟨ad, ea, hx⟩ := HR.out j hlt
      cases ea
      replace hx := (HB.out.cell (World.block_lt_of_cell? w0 _ hx)).trans hx
      have c1 : decide ((j : Int) < (len : Int)) = true := decide_eq_true (by omega)
      have c2 : decide (0 ≤ (j : Int)) = true := decide_eq_true (by omega)
      cases hm : S j with
      | false =>
        rw [hm] at hx
        have HM2 : mkS len S = pre ++ ((List.finRange len).drop (j + 1)).filter (fun i => S i.val) := by
          rw [HM.out, range_drop hlt, List.filter_cons_of_neg (by simp [hm])]
        have HM2 := Aside.mk HM2
        clear HM hm
        gi_wp2
        refine ⟨fun f hf => (by cases hf), ?_⟩
        gi_wp2
        go_roundw
        case rel => exact ⟨j + 1, pre, (by first | rfl | (simp; done)), by omega, HM2, HJ, HB⟩
        case measure => simp only [intOf]; omega
      | true =>
        rw [hm] at hx
        have HM2 : mkS len S = pre ++ ⟨j, hlt⟩ :: ((List.finRange len).drop (j + 1)).filter (fun i => S i.val) := by
          rw [HM.out, range_drop hlt, List.filter_cons_of_pos (by simp [hm])]
        have HM2 := Aside.mk HM2
        clear HM hm
        obtain ⟨fn, tmps, assign, body, hy, hR⟩ := HY.out pre ⟨j, hlt⟩ wr HJ.out (by rw [HM2.out]; simp)
        gi_wp2
        refine hR.mono ?_
        rintro e W3 (⟨rfl, hJ3, hk3⟩ | ⟨rfl, hJx3⟩)
        · have HB3 := Aside.mk (HB.out.trans hk3)
          have HJ3 := Aside.mk hJ3
          clear hJ3 hk3
          gi_wp2
          go_roundw
          case rel => exact ⟨j + 1, pre ++ [⟨j, hlt⟩], (by first | rfl | (simp; done)), by omega, ⟨by rw [HM2.out]; simp⟩, HJ3, HB3⟩
          case measure => simp only [intOf]; omega
        · have HX := Aside.mk hJx3
          clear hJx3
          gi_wp2
          refine bodyPost_ret (results_none rfl _ _ _) rfl ?_
          exact ⟨⟨_, rfl⟩, .inr ⟨pre ++ [⟨j, hlt⟩], ⟨_, by rw [HM2.out]; simp; rfl⟩, HX.out⟩⟩
    · gi_wp2
      go_end0
      refine ⟨⟨_, rfl⟩, .inl ⟨pre, ?_, HJ.out⟩⟩
      rw [HM.out, List.drop_of_length_le (by simp; omega)]
      simp
set_option maxHeartbeats 1000000 in
theorem marked_in (F : Fence) (n : Nat) (h5 : F.fn 84) (hro : F.round = none) (A : Option Addr) (l c : Nat) (w : World) :
    CallsIn F n Try.prog 84 #[.slice A l c] w fun e w' => e = .returned (.func (.func 91) #[] #[.pointer (some ⟨w.heap.size, 0, none⟩)]) ∧ w' = w.alloc (.cells #[.slice A l c] 51) := by
  refine callsIn_of_wp Try.func84 rfl h5 ?_ hro
  simp only [Try.ntmps84, List.size_toArray, List.length_cons, List.length_nil, Nat.reduceAdd, Nat.reduceSub, Array.replicate_succ, Array.replicate_zero, List.push_toArray, List.append_toArray, List.nil_append, List.cons_append]
  gi_wp2
  go_ret
  exact ⟨rfl, rfl⟩
theorem mk_stops (F : Fence) (n : Nat) (h6 : F.fn 91) (hro : F.round = none) (hn : 1 ≤ n) (Bn : Nat) (w0 : World) (A : Option Addr) (c len : Nat) (S : Nat → Bool)
    (hr : ∀ j, j < len → ∃ ad, A = some ad ∧ w0.cell? (ad.add j) = some (.bool (S j))) (hml : len ≤ 1000000) (w : World) (hBn : Bn < w.heap.size)
    (hc : w.cell? ⟨Bn, 0, none⟩ = some (.slice A len c)) (hB : Below w0.heap.size w0 w) :
    SeqStopsK F n Try.prog 91 #[.pointer (some ⟨Bn, 0, none⟩)] (fun x : Fin len => #[Value.int .i64 ((x.val : Nat) : Int)]) (Below w0.heap.size) (fun ys => ys = mkS len S) (fun pre => pre <+: mkS len S) (mkS len S).length w := fun l J Jx W hW _ _ hY h0 =>
  mk1_in F n h6 hro hn l Bn w0 A c len S hr hml J Jx hY W ((hW.cell (p := ⟨Bn, 0, none⟩) hBn).trans hc) (hB.trans (hW.mono hB.size)) h0
end Go.Proofs.Ytficdonjodadlaa.Mk
end
section
set_option linter.unusedVariables false
set_option linter.unusedSimpArgs false
namespace Go.Ev
open Go.RowKit
section
set_option maxHeartbeats 1000000
variable {P : Program} {l n : Nat} {o : Oper} {a : Act} {w : World} {K K' : Act → World → Prop} {Q : Exit → Act → World → Prop} {ops : Array Oper}
theorem calls_in {f : FuncId} {args : Array Value} {R : Ending → World → Prop} (h : Calls P f args w R) : CallsIn (Fence.wide.inRound l) n P f args w R := (callsIn_wide.2 h).inRound l
theorem rows_in {row : String} {args : Array Value} {R : Value → World → Prop} (h : Rows P row args w R) : RowsIn (Fence.wide.inRound l) n P row args w R := fun c cs _ => by
  obtain ⟨v, w', h1, h2⟩ := h c cs
  exact ⟨v, w', h1, stepsIn_wide.2 h2⟩
theorem oper_in (hd : ∀ c, o.op ≠ .defer c) (hK : ∀ a w, K a w → K' a w) (h : o.wp P a w K Q) : o.wpIn (Fence.wide.inRound l) n P a w K' Q := by
  refine ⟨fun _ _ => trivial, ?_⟩
  rw [show (Fence.wide.inRound l).round = some l from rfl, Oper.semAt_some l _ _ hd]
  unfold Oper.wp at h
  generalize (execOp a.eval o).run P w = r at h ⊢
  unfold Oper.upon at h
  unfold Oper.uponIn
  split at h
  · exact hK _ _ h
  · exact hK _ _ h
  · exact hK _ _ h
  · refine ⟨(fun hh => by cases hh), calls_in (h.mono fun e w' he => ?_)⟩
    cases e with
    | returned v => exact hK _ _ he
    | panicked c => exact he
    | outgrown => exact he
  · exact ⟨(fun hh => by cases hh), rows_in (h.mono fun v w' he => hK _ _ he)⟩
  · exact h
  · exact h.elim
def noDefer (o : Oper) : Bool := match o.op with | .defer _ => false | _ => true
theorem noDefer_ne (h : noDefer o = true) : ∀ c, o.op ≠ .defer c := by
  intro c e; unfold noDefer at h; rw [e] at h; cases h
theorem list_in (hQ : ¬LetsOut Q) : ∀ (os : List Oper) {a : Act} {w : World}, (∀ o ∈ os, noDefer o = true) → wpList P ops Q os a w → wpListIn (Fence.wide.inRound l) n P ops Q os a w
  | [], a, w, _, h => h
  | o :: os, a, w, hd, h => by
    unfold wpList at h
    unfold wpListIn
    split
    · rename_i hw
      rw [if_pos hw] at h
      rcases h with h | ⟨_, h⟩
      · exact oper_in (noDefer_ne (hd o List.mem_cons_self)) (fun a w hk => list_in hQ os (fun o ho => hd o (List.mem_cons_of_mem _ ho)) hk) h
      · exact absurd h hQ
    · rename_i hw
      rw [if_neg hw] at h
      exact ⟨fun _ _ => trivial, list_in hQ os (fun o ho => hd o (List.mem_cons_of_mem _ ho)) h⟩
theorem any_in' (hQ : ¬LetsOut Q) (hd : ∀ o ∈ ops.toList, noDefer o = true) {md : Region.Mode} : ∀ (fuel : Nat) {listed : Array Bool} {a : Act} {w : World}, wpAny P md ops Q fuel listed a w → wpAnyIn (Fence.wide.inRound l) n P md ops Q fuel listed a w
  | 0, listed, a, w, h => h
  | fuel + 1, listed, a, w, h => by
    refine ⟨h.1, fun i hi => ?_⟩
    have h2 := h.2 i hi
    unfold wpOp at h2
    unfold wpOpIn
    cases ho : ops[i]? with
    | none => rw [ho] at h2; exact any_in' hQ hd fuel h2
    | some o =>
      rw [ho] at h2
      simp only at h2 ⊢
      have hod : noDefer o = true := hd o (by obtain ⟨h1, h3⟩ := Array.getElem?_eq_some_iff.1 ho; exact h3 ▸ Array.getElem_mem_toList h1)
      split
      · rename_i hw
        rw [if_pos hw] at h2
        rcases h2 with h2 | ⟨_, h2⟩
        · exact oper_in (noDefer_ne hod) (fun a w hk => any_in' hQ hd fuel hk) h2
        · exact absurd h2 hQ
      · rename_i hw
        rw [if_neg hw] at h2
        exact ⟨fun _ _ => trivial, any_in' hQ hd fuel h2⟩
def Calm : Code → Bool
  | .skip | .exit _ | .ret => true
  | .region _ ops _ => ops.toList.all noDefer
  | .seq a b => Calm a && Calm b
  | .cond _ a b => Calm a && Calm b
  | .block _ c => Calm c
  | .loop c => Calm c
  | _ => false
end
section
set_option maxHeartbeats 1000000
variable {C : Cx} {N N' : Nm} {st st' s1 stF : St} {a : Act} {w w' : World} {Q : Exit → Act → World → Prop} {fx : Fx} {call : CallF} {ops : Array Oper} {l n : Nat}
theorem region_in (hQ : ¬LetsOut Q) (ok : C.Ok) (hm : C.P.follows .mixedOrders = true) (hc : ∀ o, CallOk C fx call o) {id : Nat} {draw : Bool} (hd : ops.toList.all noDefer = true) (hs : C.T.region fx call draw ops st = some stF) (h : Rel C N st a w) (hq : ∀ N a w, Rel C N stF a w → Q .normal a w) : (Code.region id ops draw).wpIn (Fence.wide.inRound l) n C.P Q a w := by
  have hd' : ∀ o ∈ ops.toList, noDefer o = true := fun o ho => List.all_eq_true.1 hd o ho
  unfold Tab.region at hs
  cases draw with
  | false =>
    simp only [Bool.false_eq_true, if_false] at hs
    exact wpIn_region_list (list_in hQ _ hd' (ops_sound ok hc _ hs h hq))
  | true =>
    simp only [if_true] at hs
    split at hs
    · rename_i hdr
      refine wpIn_region_any hm (any_in' hQ hd' _ ?_)
      have hplan : drawPlan ops = (List.range ops.size).map fun i => (ops.getD i default, loudB (Region.before ops) ops.size i) := by
        unfold drawPlan
        apply List.ext_getElem?
        intro i
        simp only [List.getElem?_map, List.getElem?_zipIdx, Array.getElem?_toList]
        by_cases hi : i < ops.size
        · rw [Array.getElem?_eq_getElem hi, List.getElem?_range hi]
          simp [hi]
        · rw [Array.getElem?_eq_none (by omega), List.getElem?_eq_none (by simp; omega)]
          rfl
      rw [hplan] at hs
      refine drawn_sound ok hc hdr (W := drawW fx ops) (fun o ho k hk => ?_) ops.size (List.range ops.size) _ st N a _ (by simp) (by simp) (fun j hj => ?_) (fun i hi => by simpa using hi) ?_ (fun j o ho hj => ?_) hs h.draw hq
      · exact List.mem_flatMap.2 ⟨o, by simpa using ho, hk⟩
      · simp [hj]
      · exact List.pairwise_lt_range
      · exact absurd (List.mem_range.2 (Array.getElem?_eq_some_iff.1 ho).1) hj
    · cases hs
theorem code_in (ok : C.Ok) (hm : C.P.follows .mixedOrders = true) (hc : ∀ o, CallOk C fx call o) {k : Nat} : ∀ (c : Code) {cur : Nat} {st st' : St} {N : Nm} {a : Act} {w : World} {e : Ex} {Q : Exit → Act → World → Prop}, Calm c = true → ¬LetsOut Q → C.T.code fx call k cur c st = some (e, st') → Rel C N st a w → (∀ N a w, Rel C N st' a w → Q e.out a w) → c.wpIn (Fence.wide.inRound l) n C.P Q a w := by
  intro c
  induction c with
  | skip =>
    intro cur st st' N a w e Q _ hQ hs h hq
    simp only [Tab.code, Option.some.injEq, Prod.mk.injEq] at hs
    obtain ⟨rfl, rfl⟩ := hs
    exact wpIn_skip (hq N a w h)
  | region id ops draw =>
    intro cur st st' N a w e Q hd hQ hs h hq
    simp only [Tab.code] at hs
    rw [Option.bind_eq_some_iff] at hs
    obtain ⟨s1, h1, hs⟩ := hs
    simp only [Option.some.injEq, Prod.mk.injEq] at hs
    obtain ⟨rfl, rfl⟩ := hs
    exact region_in hQ ok hm hc hd h1 h hq
  | seq x y ihx ihy =>
    intro cur st st' N a w e Q hd hQ hs h hq
    simp only [Calm, Bool.and_eq_true] at hd
    simp only [Tab.code] at hs
    rw [Option.bind_eq_some_iff] at hs
    obtain ⟨⟨e1, s1⟩, h1, hs⟩ := hs
    refine wpIn_seq (ihx hd.1 ?_ h1 h (fun N' a' w' h' => ?_))
    · rintro ⟨a1, w1, h2⟩; exact hQ ⟨a1, w1, h2⟩
    cases e1 with
    | normal => exact ihy hd.2 hQ hs h' hq
    | exit id =>
      simp only [Option.some.injEq, Prod.mk.injEq] at hs
      obtain ⟨rfl, rfl⟩ := hs
      exact hq N' a' w' h'
    | ret =>
      simp only [Option.some.injEq, Prod.mk.injEq] at hs
      obtain ⟨rfl, rfl⟩ := hs
      exact hq N' a' w' h'
  | cond o x y ihx ihy =>
    intro cur st st' N a w e Q hd hQ hs h hq
    simp only [Calm, Bool.and_eq_true] at hd
    simp only [Tab.code] at hs
    split at hs
    · rename_i t ht
      have h1 := h.get o
      rw [ht] at h1
      refine wpIn_cond (slot_bool h1) ?_
      cases t with
      | true => simp only [if_true] at hs ⊢; exact ihx hd.1 hQ hs h hq
      | false => simp only [Bool.false_eq_true, if_false] at hs ⊢; exact ihy hd.2 hQ hs h hq
    · cases hs
  | block id c ih =>
    intro cur st st' N a w e Q hd hQ hs h hq
    simp only [Tab.code] at hs
    rw [Option.bind_eq_some_iff] at hs
    obtain ⟨⟨e1, s1⟩, h1, hs⟩ := hs
    simp only [Option.some.injEq, Prod.mk.injEq] at hs
    obtain ⟨he, rfl⟩ := hs
    refine wpIn_block (ih hd ?_ h1 h (fun N' a' w' h' => ?_))
    · rintro ⟨a1, w1, h2⟩; exact hQ ⟨a1, w1, h2⟩
    cases e1 with
    | normal => simp only at he; subst he; exact hq N' a' w' h'
    | ret => simp only at he; subst he; exact hq N' a' w' h'
    | exit i =>
      simp only at he
      show (if i = id then Q .normal a' w' else Q (.exit i) a' w')
      split
      · rename_i e2; rw [if_pos e2] at he; subst he; exact hq N' a' w' h'
      · rename_i e2; rw [if_neg e2] at he; subst he; exact hq N' a' w' h'
  | loop c ih =>
    intro cur st st' N a w e Q hd hQ hs h hq
    simp only [Tab.code] at hs
    refine wpIn_loop_rounds k ?_
    have key : ∀ (m : Nat) {st : St} {N : Nm} {a : Act} {w : World}, iter (fun st => C.T.code fx call k cur c (st.fresh ((fx.clr.lookup cur).getD ([], [])))) m st = some (e, st') → Rel C N st a w → Code.roundsIn (Fence.wide.inRound l) n C.P c Q m a w := by
      intro m
      induction m with
      | zero => intro st N a w hs _; cases hs
      | succ m ihn =>
        intro st N a w hs h
        simp only [iter] at hs
        rw [Option.bind_eq_some_iff] at hs
        obtain ⟨⟨e1, s1⟩, h1, hs⟩ := hs
        rw [roundsIn_succ]
        refine ih hd ?_ h1 ((h.clear _).killL _) (fun N' a' w' h' => ?_)
        · rintro ⟨a1, w1, h2⟩; exact hQ ⟨a1, w1, h2⟩
        cases e1 with
        | normal => exact ihn hs h'
        | exit id =>
          simp only [Option.some.injEq, Prod.mk.injEq] at hs
          obtain ⟨rfl, rfl⟩ := hs
          exact hq N' a' w' h'
        | ret =>
          simp only [Option.some.injEq, Prod.mk.injEq] at hs
          obtain ⟨rfl, rfl⟩ := hs
          exact hq N' a' w' h'
    exact key k hs h
  | exit id =>
    intro cur st st' N a w e Q _ hQ hs h hq
    simp only [Tab.code, Option.some.injEq, Prod.mk.injEq] at hs
    obtain ⟨rfl, rfl⟩ := hs
    exact wpIn_exit (hq N a w h)
  | ret =>
    intro cur st st' N a w e Q _ hQ hs h hq
    simp only [Tab.code, Option.some.injEq, Prod.mk.injEq] at hs
    obtain ⟨rfl, rfl⟩ := hs
    exact wpIn_ret (hq N a w h)
  | _ => intro cur st st' N a w e Q hd; cases hd
end
end Go.Ev
end
