/- Part 2 of a proof: Dk. Words and walks that a program printed for this claim stand here without what the claim does not use. -/
import Derived.WalkKit
import Derived.Orders
import Derived.Below
import Derived.Laws.OwnMore
import Derived.Laws.MakeOwn
import Derived.Deep.MidRow
import Derived.Laws.StructEq
import Derived.Laws.CopyRow
import Derived.Great.FillDense
import Derived.Great.BuildSlice
import Derived.LoopN
import Derived.ChangeArms
import Derived.DataReads
import Derived.WideShapes
import Derived.IntWalk
import Derived.Test.YtficdonjodadlaaDh0
import Derived.Test.YtficdonjodadlaaDh1
import Derived.Test.YtficdonjodadlaaDh2
import Derived.Test.YtficdonjodadlaaDh3
import Derived.Test.YtficdonjodadlaaDh4
import Derived.Test.YtficdonjodadlaaDh5
import Derived.Test.YtficdonjodadlaaDh6
import Derived.Test.YtficdonjodadlaaDh7
import Derived.Test.YtficdonjodadlaaDk0
import Derived.Test.YtficdonjodadlaaDk1
set_option linter.unusedSimpArgs false
set_option linter.unusedVariables false
section
set_option linter.unusedSimpArgs false
set_option linter.unusedVariables false
set_option maxRecDepth 100000
set_option maxHeartbeats 100000000
namespace Go.Proofs.Ytficdonjodadlaa
open Go.Ev Go.Proofs
theorem rcheckb_ans (ext : CallF) (k : Nat) (n b : IV) (hk : maxLen + (40) ≤ k) (hnn : Ok n) (hb : Ok b) (hz : (asL (fld b 1)).length ≤ 1000000) (hzc : (asL (fld b 0)).length ≤ 1000000) (hzp : (asL (fld n 1)).length ≤ 1000) (hg : IE n = 0 → NG n) : ans (tab.run ext k) 16 [.iv 2 25 n, .iv 2 29 b] 6 = some ([.one (.at (.iv 2 38 (.A [.I (CK n b).1, .I (CK n b).2])))], [38]) := by
  obtain ⟨k, rfl⟩ : ∃ k', k = k' + 1 := ⟨k - 1, by omega⟩
  have hk1 : maxLen < k := by omega
  have hk0 : 0 < k := by omega
  have hk_0 : maxLen + (14) ≤ k := by omega
  have hk_1 : maxLen + (2) ≤ k := by omega
  have hk_2 : maxLen + (24) ≤ k := by omega
  have hk_3 : maxLen + (6) ≤ k := by omega
  refine fn_run (fx := fx16) (m := 238) 240 rfl rfl rfl rfl (fun st hn hg hr => ?_)
  have g0 : st.get (.tmp 0) = .v (.a (.iv 2 25 n)) := hg 0 (of_decide_eq_true rfl)
  have g1 : st.get (.tmp 1) = .v (.a (.iv 2 29 b)) := hg 1 (of_decide_eq_true rfl)
  have r0 := hr 0
  have r1 := hr 1
  have r2 := hr 2
  have r3 := hr 3
  have r4 := hr 4
  have r5 := hr 5
  clear hg hr
  rw [co16]
  simp only [Try.f16, Option.getD_some]
  unfold CK
  have hl0 := ok_len (ok_fld (j := 0) hb)
  have hl1 := ok_len (ok_fld (j := 1) hb)
  have hlf := fcs_len (n := n)
  have hlf2 : (fcs n).length ≤ 1000000 := by omega
  by_cases h1 : IE n = 0
  case neg =>
    have hib := ibR_no h1
    simp (maxDischargeDepth := 9) only [go_sem, Nat.reduceMul, Nat.reduceAdd, Nat.reduceLeDiff, Int.reduceSub, Int.reduceNeg, Int.reduceLT, Int.reduceLE, Int.reduceEq, *, rinitial_ans, rcoset_ans, rrise_ans, rlisted_ans, Tab.eqF, Function.comp_apply, R1.frozenL, RV.frozenT, cutB_eqn, tgs_len]
    repeat' (first | (with_reducible refine condLt (fun h h' => ?_) (fun h h' => ?_)) | (with_reducible refine condLe (fun h h' => ?_) (fun h h' => ?_)) | (with_reducible refine dop_val ?_) | (with_reducible refine YsLt (fun h h' => ?_) (fun h h' => ?_)) | (with_reducible refine YsLe (fun h h' => ?_) (fun h h' => ?_)) | (with_reducible refine condP (fun h => ?_) (fun h => ?_)) | (with_reducible refine condN (fun h => ?_) (fun h => ?_)) | (with_reducible refine condB (fun h => ?_) (fun h => ?_)) | (with_reducible refine condR (fun h => ?_) (fun h => ?_)) | (with_reducible refine YsB (fun h => ?_) (fun h => ?_)) | (with_reducible refine YsC (fun h => ?_) (fun h => ?_)) | (with_reducible refine Ys_ite (fun h => ?_) (fun h => ?_)) | (intro h) | (with_reducible refine draw_look (by kernel_rfl) (by kernel_rfl) ?_) | (simp (maxDischargeDepth := 9) only [go_sem, Nat.reduceMul, Nat.reduceAdd, Nat.reduceLeDiff, Int.reduceSub, Int.reduceNeg, Int.reduceLT, Int.reduceLE, Int.reduceEq, *, rinitial_ans, rcoset_ans, rrise_ans, rlisted_ans, Tab.eqF, Function.comp_apply, R1.frozenL, RV.frozenT, cutB_eqn, tgs_len]) | (exfalso; omega))
  have hib := ibR_ok h1
  have hg := hg h1
  have hr := rg_of h1
  simp (maxDischargeDepth := 9) only [go_sem, Nat.reduceMul, Nat.reduceAdd, Nat.reduceLeDiff, Int.reduceSub, Int.reduceNeg, Int.reduceLT, Int.reduceLE, Int.reduceEq, *, rinitial_ans, rcoset_ans, rrise_ans, rlisted_ans, Tab.eqF, Function.comp_apply, R1.frozenL, RV.frozenT, cutB_eqn, tgs_len]
  repeat' (first | (with_reducible refine condLt (fun h h' => ?_) (fun h h' => ?_)) | (with_reducible refine condLe (fun h h' => ?_) (fun h h' => ?_)) | (with_reducible refine dop_val ?_) | (with_reducible refine YsLt (fun h h' => ?_) (fun h h' => ?_)) | (with_reducible refine YsLe (fun h h' => ?_) (fun h h' => ?_)) | (with_reducible refine condP (fun h => ?_) (fun h => ?_)) | (with_reducible refine condN (fun h => ?_) (fun h => ?_)) | (with_reducible refine condB (fun h => ?_) (fun h => ?_)) | (with_reducible refine condR (fun h => ?_) (fun h => ?_)) | (with_reducible refine YsB (fun h => ?_) (fun h => ?_)) | (with_reducible refine YsC (fun h => ?_) (fun h => ?_)) | (with_reducible refine Ys_ite (fun h => ?_) (fun h => ?_)) | (intro h) | (with_reducible refine draw_look (by kernel_rfl) (by kernel_rfl) ?_) | (simp (maxDischargeDepth := 9) only [go_sem, Nat.reduceMul, Nat.reduceAdd, Nat.reduceLeDiff, Int.reduceSub, Int.reduceNeg, Int.reduceLT, Int.reduceLE, Int.reduceEq, *, rinitial_ans, rcoset_ans, rrise_ans, rlisted_ans, Tab.eqF, Function.comp_apply, R1.frozenL, RV.frozenT, cutB_eqn, tgs_len]) | (exfalso; omega))
  unfold CK1
  refine gen_st (fun s0 hg hr hn0 => ?_)
  have e2 := hg 2
  have e3 := hg 3
  have e4 := hg 4
  have e5 := hg 5
  have e7 := hg 7
  have q0 := hr 0
  have q1 := hr 1
  have q2 := hr 2
  have q3 := hr 3
  clear hg hr
  simp only [go_sem, *] at hn0 e2 e3 e4 e5 e7 q0 q1 q2 q3
  refine nr (runs_forN (fcs n).length (ckF n b) () 240 (fun i a => [(2, s0.get (.tmp 2)), (3, s0.get (.tmp 3)), (4, s0.get (.tmp 4)), (5, s0.get (.tmp 5)), (7, .v (.a (.int .i64 (i : Nat))))]) (fun i a => [(0, s0.row 0), (1, s0.row 1), (2, s0.row 2), (3, s0.row 3)]) (fun i a => True) (by omega) ?_ (trivial) ?_ ?_ ?_ ?_)
  · simp (maxDischargeDepth := 9) only [go_sem, Nat.reduceMul, Nat.reduceAdd, Nat.reduceLeDiff, Int.reduceSub, Int.reduceNeg, Int.reduceLT, Int.reduceLE, Int.reduceEq, *, rinitial_ans, rcoset_ans, rrise_ans, rlisted_ans, Tab.eqF, Function.comp_apply, R1.frozenL, RV.frozenT, cutB_eqn, tgs_len]
  · intro i a; simp (maxDischargeDepth := 9) only [go_sem, Nat.reduceMul, Nat.reduceAdd, Nat.reduceLeDiff, Int.reduceSub, Int.reduceNeg, Int.reduceLT, Int.reduceLE, Int.reduceEq, *, rinitial_ans, rcoset_ans, rrise_ans, rlisted_ans, Tab.eqF, Function.comp_apply, R1.frozenL, RV.frozenT, cutB_eqn, tgs_len]
  · intro i a; simp (maxDischargeDepth := 9) only [go_sem, Nat.reduceMul, Nat.reduceAdd, Nat.reduceLeDiff, Int.reduceSub, Int.reduceNeg, Int.reduceLT, Int.reduceLE, Int.reduceEq, *, rinitial_ans, rcoset_ans, rrise_ans, rlisted_ans, Tab.eqF, Function.comp_apply, R1.frozenL, RV.frozenT, cutB_eqn, tgs_len]
  · intro i a s hi hI hS
    clear hn0 e7
    simp only [go_sem] at hS
    obtain ⟨f2, f3, f4, f5, f7, m0, m1, m2, m3, hn⟩ := hS
    have hw := wrap_succ hi (by unfold maxLen; omega)
    unfold ckF
    have hib : i < (asL (fld b 0)).length := by omega
    refine rn ?_
    simp (maxDischargeDepth := 9) only [go_sem, Nat.reduceMul, Nat.reduceAdd, Nat.reduceLeDiff, Int.reduceSub, Int.reduceNeg, Int.reduceLT, Int.reduceLE, Int.reduceEq, *, rinitial_ans, rcoset_ans, rrise_ans, rlisted_ans, Tab.eqF, Function.comp_apply, R1.frozenL, RV.frozenT, cutB_eqn, tgs_len]
    repeat' (first | (with_reducible refine condLt (fun h h' => ?_) (fun h h' => ?_)) | (with_reducible refine condLe (fun h h' => ?_) (fun h h' => ?_)) | (with_reducible refine dop_val ?_) | (with_reducible refine YsLt (fun h h' => ?_) (fun h h' => ?_)) | (with_reducible refine YsLe (fun h h' => ?_) (fun h h' => ?_)) | (with_reducible refine condP (fun h => ?_) (fun h => ?_)) | (with_reducible refine condN (fun h => ?_) (fun h => ?_)) | (with_reducible refine condB (fun h => ?_) (fun h => ?_)) | (with_reducible refine condR (fun h => ?_) (fun h => ?_)) | (with_reducible refine YsB (fun h => ?_) (fun h => ?_)) | (with_reducible refine YsC (fun h => ?_) (fun h => ?_)) | (with_reducible refine Ys_ite (fun h => ?_) (fun h => ?_)) | (intro h) | (with_reducible refine draw_look (by kernel_rfl) (by kernel_rfl) ?_) | (simp (maxDischargeDepth := 9) only [go_sem, Nat.reduceMul, Nat.reduceAdd, Nat.reduceLeDiff, Int.reduceSub, Int.reduceNeg, Int.reduceLT, Int.reduceLE, Int.reduceEq, *, rinitial_ans, rcoset_ans, rrise_ans, rlisted_ans, Tab.eqF, Function.comp_apply, R1.frozenL, RV.frozenT, cutB_eqn, tgs_len]) | (exfalso; omega))
  · intro a s hI hf hS
    clear hn0 e7
    simp only [go_sem] at hS
    obtain ⟨f2, f3, f4, f5, f7, m0, m1, m2, m3, hn⟩ := hS
    try simp only [go_sem] at hf
    unfold ckF at hf
    simp only [go_sem] at hf
    unfold CK2
    refine rn ?_
    simp (maxDischargeDepth := 9) only [go_sem, Nat.reduceMul, Nat.reduceAdd, Nat.reduceLeDiff, Int.reduceSub, Int.reduceNeg, Int.reduceLT, Int.reduceLE, Int.reduceEq, *, rinitial_ans, rcoset_ans, rrise_ans, rlisted_ans, Tab.eqF, Function.comp_apply, R1.frozenL, RV.frozenT, cutB_eqn, tgs_len]
    refine gen_st (fun s0 hg hr hn0 => ?_)
    have e2 := hg 2
    have e3 := hg 3
    have e4 := hg 4
    have e9 := hg 9
    have e8 := hg 8
    have q0 := hr 0
    have q1 := hr 1
    have q2 := hr 2
    have q3 := hr 3
    clear hg hr
    simp only [go_sem, *] at hn0 e2 e3 e4 e9 e8 q0 q1 q2 q3
    refine nr (runs_forNF (asL (fld b 1)).length (ckE n b) (fcs n).length 240 (fun i m => [(2, s0.get (.tmp 2)), (3, s0.get (.tmp 3)), (4, s0.get (.tmp 4)), (8, .v (.a (.int .i64 (m : Nat)))), (9, .v (.a (.int .i64 (i : Nat))))]) (fun i m => [(0, s0.row 0), (1, s0.row 1), (2, s0.row 2), (3, s0.row 3)]) (fun i m => (m ≤ (asL (fld b 0)).length)) (by omega) ?_ (by omega) ?_ ?_ ?_ ?_)
    · simp (maxDischargeDepth := 9) only [go_sem, Nat.reduceMul, Nat.reduceAdd, Nat.reduceLeDiff, Int.reduceSub, Int.reduceNeg, Int.reduceLT, Int.reduceLE, Int.reduceEq, *, rinitial_ans, rcoset_ans, rrise_ans, rlisted_ans, Tab.eqF, Function.comp_apply, R1.frozenL, RV.frozenT, cutB_eqn, tgs_len]
    · intro i a; simp (maxDischargeDepth := 9) only [go_sem, Nat.reduceMul, Nat.reduceAdd, Nat.reduceLeDiff, Int.reduceSub, Int.reduceNeg, Int.reduceLT, Int.reduceLE, Int.reduceEq, *, rinitial_ans, rcoset_ans, rrise_ans, rlisted_ans, Tab.eqF, Function.comp_apply, R1.frozenL, RV.frozenT, cutB_eqn, tgs_len]
    · intro i a; simp (maxDischargeDepth := 9) only [go_sem, Nat.reduceMul, Nat.reduceAdd, Nat.reduceLeDiff, Int.reduceSub, Int.reduceNeg, Int.reduceLT, Int.reduceLE, Int.reduceEq, *, rinitial_ans, rcoset_ans, rrise_ans, rlisted_ans, Tab.eqF, Function.comp_apply, R1.frozenL, RV.frozenT, cutB_eqn, tgs_len]
    · intro i m s hi hI hS hz
      clear hn0 e9 e8
      simp only [go_sem] at hS
      obtain ⟨f2, f3, f4, f8, f9, m0, m1, m2, m3, hn⟩ := hS
      have hw := wrap_succ hi (hl1)
      have zr5 := hz 5 (by kernel_rfl)
      have zr4 := hz 4 (by kernel_rfl)
      clear hz
      unfold ckE
      have hio := hi
      have hox : Ok ((asL (fld b 1)).getD i .N) := ok_getD (ok_fld hb)
      have hop : Ok (fld ((asL (fld b 1)).getD i .N) 1) := ok_fld hox
      have hlp : (asL (fld ((asL (fld b 1)).getD i .N) 1)).length ≤ maxLen := ok_len hop
      have hlq : (asL (fld ((asL (fld b 1)).getD i .N) 2)).length ≤ maxLen := ok_len (ok_fld hox)
      have hiE : i ≤ (asL (fld b 1)).length := by omega
      by_cases h1 : asI (fld ((asL (fld b 1)).getD i .N) 0) < 0 ∨ ((asL (fld n 2)).length : Int) ≤ asI (fld ((asL (fld b 1)).getD i .N) 0)
      case pos =>
        have hce : CE n b (i : Int) (m : Int) = 1 := CE_1 h1
        refine rn ?_
        simp (maxDischargeDepth := 9) only [go_sem, Nat.reduceMul, Nat.reduceAdd, Nat.reduceLeDiff, Int.reduceSub, Int.reduceNeg, Int.reduceLT, Int.reduceLE, Int.reduceEq, *, rinitial_ans, rcoset_ans, rrise_ans, rlisted_ans, Tab.eqF, Function.comp_apply, R1.frozenL, RV.frozenT, cutB_eqn, tgs_len]
        repeat' (first | (with_reducible refine condLt (fun h h' => ?_) (fun h h' => ?_)) | (with_reducible refine condLe (fun h h' => ?_) (fun h h' => ?_)) | (with_reducible refine dop_val ?_) | (with_reducible refine YsLt (fun h h' => ?_) (fun h h' => ?_)) | (with_reducible refine YsLe (fun h h' => ?_) (fun h h' => ?_)) | (with_reducible refine condP (fun h => ?_) (fun h => ?_)) | (with_reducible refine condN (fun h => ?_) (fun h => ?_)) | (with_reducible refine condB (fun h => ?_) (fun h => ?_)) | (with_reducible refine condR (fun h => ?_) (fun h => ?_)) | (with_reducible refine YsB (fun h => ?_) (fun h => ?_)) | (with_reducible refine YsC (fun h => ?_) (fun h => ?_)) | (with_reducible refine Ys_ite (fun h => ?_) (fun h => ?_)) | (intro h) | (with_reducible refine draw_look (by kernel_rfl) (by kernel_rfl) ?_) | (simp (maxDischargeDepth := 9) only [go_sem, Nat.reduceMul, Nat.reduceAdd, Nat.reduceLeDiff, Int.reduceSub, Int.reduceNeg, Int.reduceLT, Int.reduceLE, Int.reduceEq, *, rinitial_ans, rcoset_ans, rrise_ans, rlisted_ans, Tab.eqF, Function.comp_apply, R1.frozenL, RV.frozenT, cutB_eqn, tgs_len]) | (exfalso; omega))
      have h1a : 0 ≤ asI (fld ((asL (fld b 1)).getD i .N) 0) := by omega
      have h1b : asI (fld ((asL (fld b 1)).getD i .N) 0) < ((asL (fld n 2)).length : Int) := by omega
      have h1c : ¬asI (fld ((asL (fld b 1)).getD i .N) 0) < 0 := by omega
      have h1d : ¬((asL (fld n 2)).length : Int) ≤ asI (fld ((asL (fld b 1)).getD i .N) 0) := by omega
      clear h1
      have hceq : CE n b (i : Int) (m : Int) = ((if (asL (fld ((asL (fld b 1)).getD i .N) 1)).length = (asL (fld (el (asL (fld n 2)) (asI (fld ((asL (fld b 1)).getD i .N) 0))) 1)).length then (if RZ (fld ((asL (fld b 1)).getD i .N) 1) = true then 8 else if ((asL (fld ((asL (fld b 1)).getD i .N) 1)).any fun x => decide (asI x < 0 ∨ (m : Int) ≤ asI x)) = true then 7 else if rfit b (asL (fld (el (asL (fld n 2)) (asI (fld ((asL (fld b 1)).getD i .N) 0))) 1)) (asL (fld ((asL (fld b 1)).getD i .N) 1)) = true then (if CS (cutB b (i : Int) (m : Int)) (fld ((asL (fld b 1)).getD i .N) 1) = true then (if lst b i (asI (fld ((asL (fld b 1)).getD i .N) 0)) (fld ((asL (fld b 1)).getD i .N) 1) = true then 6 else PO n b (i : Int) (m : Int)) else 15) else 17) else 2) : Int) := CE_eq (n := n) (b := b) (i := i) (m := m) hiE hI hg hr h1a h1b
      have hne : (asL (fld (el (asL (fld n 2)) (asI (fld ((asL (fld b 1)).getD i .N) 0))) 1)).length ≠ 0 := hr.ne _ (el_mem h1a h1b)
      by_cases h2 : (asL (fld ((asL (fld b 1)).getD i .N) 1)).length = (asL (fld (el (asL (fld n 2)) (asI (fld ((asL (fld b 1)).getD i .N) 0))) 1)).length
      case neg =>
        have hce : CE n b (i : Int) (m : Int) = 2 := by rw [hceq, if_neg h2]
        clear hceq
        refine rn ?_
        simp (maxDischargeDepth := 9) only [go_sem, Nat.reduceMul, Nat.reduceAdd, Nat.reduceLeDiff, Int.reduceSub, Int.reduceNeg, Int.reduceLT, Int.reduceLE, Int.reduceEq, *, rinitial_ans, rcoset_ans, rrise_ans, rlisted_ans, Tab.eqF, Function.comp_apply, R1.frozenL, RV.frozenT, cutB_eqn, tgs_len]
        repeat' (first | (with_reducible refine condLt (fun h h' => ?_) (fun h h' => ?_)) | (with_reducible refine condLe (fun h h' => ?_) (fun h h' => ?_)) | (with_reducible refine dop_val ?_) | (with_reducible refine YsLt (fun h h' => ?_) (fun h h' => ?_)) | (with_reducible refine YsLe (fun h h' => ?_) (fun h h' => ?_)) | (with_reducible refine condP (fun h => ?_) (fun h => ?_)) | (with_reducible refine condN (fun h => ?_) (fun h => ?_)) | (with_reducible refine condB (fun h => ?_) (fun h => ?_)) | (with_reducible refine condR (fun h => ?_) (fun h => ?_)) | (with_reducible refine YsB (fun h => ?_) (fun h => ?_)) | (with_reducible refine YsC (fun h => ?_) (fun h => ?_)) | (with_reducible refine Ys_ite (fun h => ?_) (fun h => ?_)) | (intro h) | (with_reducible refine draw_look (by kernel_rfl) (by kernel_rfl) ?_) | (simp (maxDischargeDepth := 9) only [go_sem, Nat.reduceMul, Nat.reduceAdd, Nat.reduceLeDiff, Int.reduceSub, Int.reduceNeg, Int.reduceLT, Int.reduceLE, Int.reduceEq, *, rinitial_ans, rcoset_ans, rrise_ans, rlisted_ans, Tab.eqF, Function.comp_apply, R1.frozenL, RV.frozenT, cutB_eqn, tgs_len]) | (exfalso; omega))
      rw [if_pos h2] at hceq
      have h2s : (asL (fld (el (asL (fld n 2)) (asI (fld ((asL (fld b 1)).getD i .N) 0))) 1)).length = (asL (fld ((asL (fld b 1)).getD i .N) 1)).length := h2.symm
      rw [h2s] at hne
      clear h2
      by_cases h3 : RZ (fld ((asL (fld b 1)).getD i .N) 1) = true
      case pos =>
        have hce : CE n b (i : Int) (m : Int) = 8 := by rw [hceq, if_pos h3]
        clear hceq
        refine rn ?_
        simp (maxDischargeDepth := 9) only [go_sem, Nat.reduceMul, Nat.reduceAdd, Nat.reduceLeDiff, Int.reduceSub, Int.reduceNeg, Int.reduceLT, Int.reduceLE, Int.reduceEq, *, rinitial_ans, rcoset_ans, rrise_ans, rlisted_ans, Tab.eqF, Function.comp_apply, R1.frozenL, RV.frozenT, cutB_eqn, tgs_len]
        repeat' (first | (with_reducible refine condLt (fun h h' => ?_) (fun h h' => ?_)) | (with_reducible refine condLe (fun h h' => ?_) (fun h h' => ?_)) | (with_reducible refine dop_val ?_) | (with_reducible refine YsLt (fun h h' => ?_) (fun h h' => ?_)) | (with_reducible refine YsLe (fun h h' => ?_) (fun h h' => ?_)) | (with_reducible refine condP (fun h => ?_) (fun h => ?_)) | (with_reducible refine condN (fun h => ?_) (fun h => ?_)) | (with_reducible refine condB (fun h => ?_) (fun h => ?_)) | (with_reducible refine condR (fun h => ?_) (fun h => ?_)) | (with_reducible refine YsB (fun h => ?_) (fun h => ?_)) | (with_reducible refine YsC (fun h => ?_) (fun h => ?_)) | (with_reducible refine Ys_ite (fun h => ?_) (fun h => ?_)) | (intro h) | (with_reducible refine draw_look (by kernel_rfl) (by kernel_rfl) ?_) | (simp (maxDischargeDepth := 9) only [go_sem, Nat.reduceMul, Nat.reduceAdd, Nat.reduceLeDiff, Int.reduceSub, Int.reduceNeg, Int.reduceLT, Int.reduceLE, Int.reduceEq, *, rinitial_ans, rcoset_ans, rrise_ans, rlisted_ans, Tab.eqF, Function.comp_apply, R1.frozenL, RV.frozenT, cutB_eqn, tgs_len]) | (exfalso; omega))
      rw [if_neg h3] at hceq
      have h3f : RZ (fld ((asL (fld b 1)).getD i .N) 1) = false := by simpa using h3
      have hrz : ((asL (fld ((asL (fld b 1)).getD i .N) 1)).any fun x => decide (asI x < 0 ∨ (m : Int) ≤ asI x)) = true ↔ asI (el (asL (fld ((asL (fld b 1)).getD i .N) 1)) 0) < 0 ∨ (m : Int) ≤ asI ((asL (fld ((asL (fld b 1)).getD i .N) 1)).getD ((asL (fld ((asL (fld b 1)).getD i .N) 1)).length - 1) .N) := rz_range (m := (m : Int)) h3f hne
      have hl3 : 0 < (asL (fld ((asL (fld b 1)).getD i .N) 1)).length := by omega
      have hl4 : (asL (fld ((asL (fld b 1)).getD i .N) 1)).length - 1 < (asL (fld ((asL (fld b 1)).getD i .N) 1)).length := by omega
      have hwl : IntKind.i64.wrap (((asL (fld ((asL (fld b 1)).getD i .N) 1)).length : Int) - 1) = (((asL (fld ((asL (fld b 1)).getD i .N) 1)).length - 1 : Nat) : Int) := by
        rw [Go.IntWalk.i64_in _ (by unfold maxLen at hlp; omega)]; omega
      by_cases h4a : asI (el (asL (fld ((asL (fld b 1)).getD i .N) 1)) 0) < 0
      case pos =>
        have hce : CE n b (i : Int) (m : Int) = 7 := by rw [hceq, if_pos (hrz.2 (.inl h4a))]
        clear hceq hrz
        refine rn ?_
        simp (maxDischargeDepth := 9) only [go_sem, Nat.reduceMul, Nat.reduceAdd, Nat.reduceLeDiff, Int.reduceSub, Int.reduceNeg, Int.reduceLT, Int.reduceLE, Int.reduceEq, *, rinitial_ans, rcoset_ans, rrise_ans, rlisted_ans, Tab.eqF, Function.comp_apply, R1.frozenL, RV.frozenT, cutB_eqn, tgs_len]
        repeat' (first | (with_reducible refine condLt (fun h h' => ?_) (fun h h' => ?_)) | (with_reducible refine condLe (fun h h' => ?_) (fun h h' => ?_)) | (with_reducible refine dop_val ?_) | (with_reducible refine YsLt (fun h h' => ?_) (fun h h' => ?_)) | (with_reducible refine YsLe (fun h h' => ?_) (fun h h' => ?_)) | (with_reducible refine condP (fun h => ?_) (fun h => ?_)) | (with_reducible refine condN (fun h => ?_) (fun h => ?_)) | (with_reducible refine condB (fun h => ?_) (fun h => ?_)) | (with_reducible refine condR (fun h => ?_) (fun h => ?_)) | (with_reducible refine YsB (fun h => ?_) (fun h => ?_)) | (with_reducible refine YsC (fun h => ?_) (fun h => ?_)) | (with_reducible refine Ys_ite (fun h => ?_) (fun h => ?_)) | (intro h) | (with_reducible refine draw_look (by kernel_rfl) (by kernel_rfl) ?_) | (simp (maxDischargeDepth := 9) only [go_sem, Nat.reduceMul, Nat.reduceAdd, Nat.reduceLeDiff, Int.reduceSub, Int.reduceNeg, Int.reduceLT, Int.reduceLE, Int.reduceEq, *, rinitial_ans, rcoset_ans, rrise_ans, rlisted_ans, Tab.eqF, Function.comp_apply, R1.frozenL, RV.frozenT, cutB_eqn, tgs_len]) | (exfalso; omega))
      have h4c : 0 ≤ asI (el (asL (fld ((asL (fld b 1)).getD i .N) 1)) 0) := by omega
      by_cases h4b : (m : Int) ≤ asI ((asL (fld ((asL (fld b 1)).getD i .N) 1)).getD ((asL (fld ((asL (fld b 1)).getD i .N) 1)).length - 1) .N)
      case pos =>
        have hce : CE n b (i : Int) (m : Int) = 7 := by rw [hceq, if_pos (hrz.2 (.inr h4b))]
        clear hceq hrz
        refine rn ?_
        simp (maxDischargeDepth := 9) only [go_sem, Nat.reduceMul, Nat.reduceAdd, Nat.reduceLeDiff, Int.reduceSub, Int.reduceNeg, Int.reduceLT, Int.reduceLE, Int.reduceEq, *, rinitial_ans, rcoset_ans, rrise_ans, rlisted_ans, Tab.eqF, Function.comp_apply, R1.frozenL, RV.frozenT, cutB_eqn, tgs_len]
        repeat' (first | (with_reducible refine condLt (fun h h' => ?_) (fun h h' => ?_)) | (with_reducible refine condLe (fun h h' => ?_) (fun h h' => ?_)) | (with_reducible refine dop_val ?_) | (with_reducible refine YsLt (fun h h' => ?_) (fun h h' => ?_)) | (with_reducible refine YsLe (fun h h' => ?_) (fun h h' => ?_)) | (with_reducible refine condP (fun h => ?_) (fun h => ?_)) | (with_reducible refine condN (fun h => ?_) (fun h => ?_)) | (with_reducible refine condB (fun h => ?_) (fun h => ?_)) | (with_reducible refine condR (fun h => ?_) (fun h => ?_)) | (with_reducible refine YsB (fun h => ?_) (fun h => ?_)) | (with_reducible refine YsC (fun h => ?_) (fun h => ?_)) | (with_reducible refine Ys_ite (fun h => ?_) (fun h => ?_)) | (intro h) | (with_reducible refine draw_look (by kernel_rfl) (by kernel_rfl) ?_) | (simp (maxDischargeDepth := 9) only [go_sem, Nat.reduceMul, Nat.reduceAdd, Nat.reduceLeDiff, Int.reduceSub, Int.reduceNeg, Int.reduceLT, Int.reduceLE, Int.reduceEq, *, rinitial_ans, rcoset_ans, rrise_ans, rlisted_ans, Tab.eqF, Function.comp_apply, R1.frozenL, RV.frozenT, cutB_eqn, tgs_len]) | (exfalso; omega))
      have h4 : ¬((asL (fld ((asL (fld b 1)).getD i .N) 1)).any fun x => decide (asI x < 0 ∨ (m : Int) ≤ asI x)) = true := fun h => by
        rcases hrz.1 h with h | h
        · exact h4a h
        · exact h4b h
      rw [if_neg h4] at hceq
      have hin : ∀ x ∈ asL (fld ((asL (fld b 1)).getD i .N) 1), 0 ≤ asI x ∧ asI x < ((asL (fld b 0)).length : Int) := by
        intro x hx
        have := List.any_eq_false.1 (Bool.eq_false_iff.2 h4) x hx
        simp only [decide_eq_true_eq] at this
        omega
      clear h4 hrz
      have hft := rfits_ans ext k n b (fld ((asL (fld b 1)).getD i .N) 1) (asI (fld ((asL (fld b 1)).getD i .N) 0)) 2 2 2 (by omega) hnn hop h1a h1b hin
      by_cases h5 : rfit b (asL (fld (el (asL (fld n 2)) (asI (fld ((asL (fld b 1)).getD i .N) 0))) 1)) (asL (fld ((asL (fld b 1)).getD i .N) 1)) = true
      case neg =>
        have h5f : rfit b (asL (fld (el (asL (fld n 2)) (asI (fld ((asL (fld b 1)).getD i .N) 0))) 1)) (asL (fld ((asL (fld b 1)).getD i .N) 1)) = false := by simpa using h5
        have hce : CE n b (i : Int) (m : Int) = 17 := by rw [hceq, if_neg h5]
        clear hceq hin
        refine rn ?_
        simp (maxDischargeDepth := 9) only [go_sem, Nat.reduceMul, Nat.reduceAdd, Nat.reduceLeDiff, Int.reduceSub, Int.reduceNeg, Int.reduceLT, Int.reduceLE, Int.reduceEq, *, rinitial_ans, rcoset_ans, rrise_ans, rlisted_ans, Tab.eqF, Function.comp_apply, R1.frozenL, RV.frozenT, cutB_eqn, tgs_len]
        repeat' (first | (with_reducible refine condLt (fun h h' => ?_) (fun h h' => ?_)) | (with_reducible refine condLe (fun h h' => ?_) (fun h h' => ?_)) | (with_reducible refine dop_val ?_) | (with_reducible refine YsLt (fun h h' => ?_) (fun h h' => ?_)) | (with_reducible refine YsLe (fun h h' => ?_) (fun h h' => ?_)) | (with_reducible refine condP (fun h => ?_) (fun h => ?_)) | (with_reducible refine condN (fun h => ?_) (fun h => ?_)) | (with_reducible refine condB (fun h => ?_) (fun h => ?_)) | (with_reducible refine condR (fun h => ?_) (fun h => ?_)) | (with_reducible refine YsB (fun h => ?_) (fun h => ?_)) | (with_reducible refine YsC (fun h => ?_) (fun h => ?_)) | (with_reducible refine Ys_ite (fun h => ?_) (fun h => ?_)) | (intro h) | (with_reducible refine draw_look (by kernel_rfl) (by kernel_rfl) ?_) | (simp (maxDischargeDepth := 9) only [go_sem, Nat.reduceMul, Nat.reduceAdd, Nat.reduceLeDiff, Int.reduceSub, Int.reduceNeg, Int.reduceLT, Int.reduceLE, Int.reduceEq, *, rinitial_ans, rcoset_ans, rrise_ans, rlisted_ans, Tab.eqF, Function.comp_apply, R1.frozenL, RV.frozenT, cutB_eqn, tgs_len]) | (exfalso; omega))
      rw [if_pos h5] at hceq
      have hoc : Ok (cutB b (i : Int) (m : Int)) := ok_cutB hb
      have hcz : (asL (fld (cutB b (i : Int) (m : Int)) 1)).length ≤ 1000000 := by rw [cutB_1]; exact Nat.le_trans (List.length_take_le' _ _) hz
      by_cases h6 : CS (cutB b (i : Int) (m : Int)) (fld ((asL (fld b 1)).getD i .N) 1) = true
      case neg =>
        have h6f : CS (cutB b (i : Int) (m : Int)) (fld ((asL (fld b 1)).getD i .N) 1) = false := by simpa using h6
        have hce : CE n b (i : Int) (m : Int) = 15 := by rw [hceq, if_neg h6]
        clear hceq hin
        refine rn ?_
        simp (maxDischargeDepth := 9) only [go_sem, Nat.reduceMul, Nat.reduceAdd, Nat.reduceLeDiff, Int.reduceSub, Int.reduceNeg, Int.reduceLT, Int.reduceLE, Int.reduceEq, *, rinitial_ans, rcoset_ans, rrise_ans, rlisted_ans, Tab.eqF, Function.comp_apply, R1.frozenL, RV.frozenT, cutB_eqn, tgs_len]
        with_reducible refine draw_look (by kernel_rfl) (by kernel_rfl) ?_
        simp (maxDischargeDepth := 9) only [go_sem, Nat.reduceMul, Nat.reduceAdd, Nat.reduceLeDiff, Int.reduceSub, Int.reduceNeg, Int.reduceLT, Int.reduceLE, Int.reduceEq, *, rinitial_ans, rcoset_ans, rrise_ans, rlisted_ans, Tab.eqF, Function.comp_apply, R1.frozenL, RV.frozenT, cutB_eqn, tgs_len]
        with_reducible refine dop_val ?_
        simp (maxDischargeDepth := 9) only [go_sem, Nat.reduceMul, Nat.reduceAdd, Nat.reduceLeDiff, Int.reduceSub, Int.reduceNeg, Int.reduceLT, Int.reduceLE, Int.reduceEq, *, rinitial_ans, rcoset_ans, rrise_ans, rlisted_ans, Tab.eqF, Function.comp_apply, R1.frozenL, RV.frozenT, cutB_eqn, tgs_len]
        with_reducible refine dop_val ?_
        simp (maxDischargeDepth := 9) only [go_sem, Nat.reduceMul, Nat.reduceAdd, Nat.reduceLeDiff, Int.reduceSub, Int.reduceNeg, Int.reduceLT, Int.reduceLE, Int.reduceEq, *, rinitial_ans, rcoset_ans, rrise_ans, rlisted_ans, Tab.eqF, Function.comp_apply, R1.frozenL, RV.frozenT, cutB_eqn, tgs_len]
        with_reducible refine dop_val ?_
        simp (maxDischargeDepth := 9) only [go_sem, Nat.reduceMul, Nat.reduceAdd, Nat.reduceLeDiff, Int.reduceSub, Int.reduceNeg, Int.reduceLT, Int.reduceLE, Int.reduceEq, *, rinitial_ans, rcoset_ans, rrise_ans, rlisted_ans, Tab.eqF, Function.comp_apply, R1.frozenL, RV.frozenT, cutB_eqn, tgs_len]
        with_reducible refine dop_val ?_
        simp (maxDischargeDepth := 9) only [go_sem, Nat.reduceMul, Nat.reduceAdd, Nat.reduceLeDiff, Int.reduceSub, Int.reduceNeg, Int.reduceLT, Int.reduceLE, Int.reduceEq, *, rinitial_ans, rcoset_ans, rrise_ans, rlisted_ans, Tab.eqF, Function.comp_apply, R1.frozenL, RV.frozenT, cutB_eqn, tgs_len]
        with_reducible refine dop_val ?_
        simp (maxDischargeDepth := 9) only [go_sem, Nat.reduceMul, Nat.reduceAdd, Nat.reduceLeDiff, Int.reduceSub, Int.reduceNeg, Int.reduceLT, Int.reduceLE, Int.reduceEq, *, rinitial_ans, rcoset_ans, rrise_ans, rlisted_ans, Tab.eqF, Function.comp_apply, R1.frozenL, RV.frozenT, cutB_eqn, tgs_len]
        with_reducible refine dop_val ?_
        simp (maxDischargeDepth := 9) only [go_sem, Nat.reduceMul, Nat.reduceAdd, Nat.reduceLeDiff, Int.reduceSub, Int.reduceNeg, Int.reduceLT, Int.reduceLE, Int.reduceEq, *, rinitial_ans, rcoset_ans, rrise_ans, rlisted_ans, Tab.eqF, Function.comp_apply, R1.frozenL, RV.frozenT, cutB_eqn, tgs_len]
        with_reducible refine dop_val ?_
        simp (maxDischargeDepth := 9) only [go_sem, Nat.reduceMul, Nat.reduceAdd, Nat.reduceLeDiff, Int.reduceSub, Int.reduceNeg, Int.reduceLT, Int.reduceLE, Int.reduceEq, *, rinitial_ans, rcoset_ans, rrise_ans, rlisted_ans, Tab.eqF, Function.comp_apply, R1.frozenL, RV.frozenT, cutB_eqn, tgs_len]
        with_reducible refine dop_val ?_
        simp (maxDischargeDepth := 9) only [go_sem, Nat.reduceMul, Nat.reduceAdd, Nat.reduceLeDiff, Int.reduceSub, Int.reduceNeg, Int.reduceLT, Int.reduceLE, Int.reduceEq, *, rinitial_ans, rcoset_ans, rrise_ans, rlisted_ans, Tab.eqF, Function.comp_apply, R1.frozenL, RV.frozenT, cutB_eqn, tgs_len]
        with_reducible refine dop_val ?_
        simp (maxDischargeDepth := 9) only [go_sem, Nat.reduceMul, Nat.reduceAdd, Nat.reduceLeDiff, Int.reduceSub, Int.reduceNeg, Int.reduceLT, Int.reduceLE, Int.reduceEq, *, rinitial_ans, rcoset_ans, rrise_ans, rlisted_ans, Tab.eqF, Function.comp_apply, R1.frozenL, RV.frozenT, cutB_eqn, tgs_len]
        with_reducible refine dop_val ?_
        simp (maxDischargeDepth := 9) only [go_sem, Nat.reduceMul, Nat.reduceAdd, Nat.reduceLeDiff, Int.reduceSub, Int.reduceNeg, Int.reduceLT, Int.reduceLE, Int.reduceEq, *, rinitial_ans, rcoset_ans, rrise_ans, rlisted_ans, Tab.eqF, Function.comp_apply, R1.frozenL, RV.frozenT, cutB_eqn, tgs_len]
        with_reducible refine dop_val ?_
        simp (maxDischargeDepth := 9) only [go_sem, Nat.reduceMul, Nat.reduceAdd, Nat.reduceLeDiff, Int.reduceSub, Int.reduceNeg, Int.reduceLT, Int.reduceLE, Int.reduceEq, *, rinitial_ans, rcoset_ans, rrise_ans, rlisted_ans, Tab.eqF, Function.comp_apply, R1.frozenL, RV.frozenT, cutB_eqn, tgs_len]
        with_reducible refine dop_val ?_
        simp (maxDischargeDepth := 9) only [go_sem, Nat.reduceMul, Nat.reduceAdd, Nat.reduceLeDiff, Int.reduceSub, Int.reduceNeg, Int.reduceLT, Int.reduceLE, Int.reduceEq, *, rinitial_ans, rcoset_ans, rrise_ans, rlisted_ans, Tab.eqF, Function.comp_apply, R1.frozenL, RV.frozenT, cutB_eqn, tgs_len]
        refine gen_st (fun s1 hg hr hn1 => ?_)
        have z2 := hg 2
        have z3 := hg 3
        have z4 := hg 4
        have z8 := hg 8
        have z9 := hg 9
        have z10 := hg 10
        have y0 := hr 0
        have y1 := hr 1
        have y2 := hr 2
        have y3 := hr 3
        have y4 := hr 4
        have y5 := hr 5
        clear hg hr
        simp only [go_sem, *] at hn1 z2 z3 z4 z8 z9 z10 y0 y1 y2 y3 y4 y5
        with_reducible refine draw_with [5, 5] (by kernel_rfl) (by kernel_rfl) ?_
        simp (maxDischargeDepth := 9) only [go_sem, Nat.reduceMul, Nat.reduceAdd, Nat.reduceLeDiff, Int.reduceSub, Int.reduceNeg, Int.reduceLT, Int.reduceLE, Int.reduceEq, *, rinitial_ans, rcoset_ans, rrise_ans, rlisted_ans, Tab.eqF, Function.comp_apply, R1.frozenL, RV.frozenT, cutB_eqn, tgs_len]
        with_reducible refine dop_valW ?_ ?_
        · simp only [St.keysOf, Op.operands, List.flatMap_cons, List.flatMap_nil, SV.keys, V1.keys, At.keys, go_sem, *]
          try (simp [Option.toArray, SV.keys, V1.keys, At.keys, go_sem, *]; done)
          try rfl
        simp (maxDischargeDepth := 9) only [go_sem, Nat.reduceMul, Nat.reduceAdd, Nat.reduceLeDiff, Int.reduceSub, Int.reduceNeg, Int.reduceLT, Int.reduceLE, Int.reduceEq, *, rinitial_ans, rcoset_ans, rrise_ans, rlisted_ans, Tab.eqF, Function.comp_apply, R1.frozenL, RV.frozenT, cutB_eqn, tgs_len]
        with_reducible refine dop_valW ?_ ?_
        · simp only [St.keysOf, Op.operands, List.flatMap_cons, List.flatMap_nil, SV.keys, V1.keys, At.keys, go_sem, *]
          try (simp [Option.toArray, SV.keys, V1.keys, At.keys, go_sem, *]; done)
          try rfl
        simp (maxDischargeDepth := 9) only [go_sem, Nat.reduceMul, Nat.reduceAdd, Nat.reduceLeDiff, Int.reduceSub, Int.reduceNeg, Int.reduceLT, Int.reduceLE, Int.reduceEq, *, rinitial_ans, rcoset_ans, rrise_ans, rlisted_ans, Tab.eqF, Function.comp_apply, R1.frozenL, RV.frozenT, cutB_eqn, tgs_len]
        with_reducible refine dop_valW ?_ ?_
        · simp only [St.keysOf, Op.operands, List.flatMap_cons, List.flatMap_nil, SV.keys, V1.keys, At.keys, go_sem, *]
          try (simp [Option.toArray, SV.keys, V1.keys, At.keys, go_sem, *]; done)
          try rfl
        simp (maxDischargeDepth := 9) only [go_sem, Nat.reduceMul, Nat.reduceAdd, Nat.reduceLeDiff, Int.reduceSub, Int.reduceNeg, Int.reduceLT, Int.reduceLE, Int.reduceEq, *, rinitial_ans, rcoset_ans, rrise_ans, rlisted_ans, Tab.eqF, Function.comp_apply, R1.frozenL, RV.frozenT, cutB_eqn, tgs_len]
        with_reducible refine dop_valW ?_ ?_
        · simp only [St.keysOf, Op.operands, List.flatMap_cons, List.flatMap_nil, SV.keys, V1.keys, At.keys, go_sem, *]
          try (simp [Option.toArray, SV.keys, V1.keys, At.keys, go_sem, *]; done)
          try rfl
        simp (maxDischargeDepth := 9) only [go_sem, Nat.reduceMul, Nat.reduceAdd, Nat.reduceLeDiff, Int.reduceSub, Int.reduceNeg, Int.reduceLT, Int.reduceLE, Int.reduceEq, *, rinitial_ans, rcoset_ans, rrise_ans, rlisted_ans, Tab.eqF, Function.comp_apply, R1.frozenL, RV.frozenT, cutB_eqn, tgs_len]
        with_reducible refine dop_valW ?_ ?_
        · simp only [St.keysOf, Op.operands, List.flatMap_cons, List.flatMap_nil, SV.keys, V1.keys, At.keys, go_sem, *]
          try (simp [Option.toArray, SV.keys, V1.keys, At.keys, go_sem, *]; done)
          try rfl
        simp (maxDischargeDepth := 9) only [go_sem, Nat.reduceMul, Nat.reduceAdd, Nat.reduceLeDiff, Int.reduceSub, Int.reduceNeg, Int.reduceLT, Int.reduceLE, Int.reduceEq, *, rinitial_ans, rcoset_ans, rrise_ans, rlisted_ans, Tab.eqF, Function.comp_apply, R1.frozenL, RV.frozenT, cutB_eqn, tgs_len]
        with_reducible refine dop_valW ?_ ?_
        · simp only [St.keysOf, Op.operands, List.flatMap_cons, List.flatMap_nil, SV.keys, V1.keys, At.keys, go_sem, *]
          try (simp [Option.toArray, SV.keys, V1.keys, At.keys, go_sem, *]; done)
          try rfl
        simp (maxDischargeDepth := 9) only [go_sem, Nat.reduceMul, Nat.reduceAdd, Nat.reduceLeDiff, Int.reduceSub, Int.reduceNeg, Int.reduceLT, Int.reduceLE, Int.reduceEq, *, rinitial_ans, rcoset_ans, rrise_ans, rlisted_ans, Tab.eqF, Function.comp_apply, R1.frozenL, RV.frozenT, cutB_eqn, tgs_len]
        with_reducible refine dop_valW ?_ ?_
        · simp only [St.keysOf, Op.operands, List.flatMap_cons, List.flatMap_nil, SV.keys, V1.keys, At.keys, go_sem, *]
          try (simp [Option.toArray, SV.keys, V1.keys, At.keys, go_sem, *]; done)
          try rfl
        simp (maxDischargeDepth := 9) only [go_sem, Nat.reduceMul, Nat.reduceAdd, Nat.reduceLeDiff, Int.reduceSub, Int.reduceNeg, Int.reduceLT, Int.reduceLE, Int.reduceEq, *, rinitial_ans, rcoset_ans, rrise_ans, rlisted_ans, Tab.eqF, Function.comp_apply, R1.frozenL, RV.frozenT, cutB_eqn, tgs_len]
        with_reducible refine dop_valW ?_ ?_
        · simp only [St.keysOf, Op.operands, List.flatMap_cons, List.flatMap_nil, SV.keys, V1.keys, At.keys, go_sem, *]
          try (simp [Option.toArray, SV.keys, V1.keys, At.keys, go_sem, *]; done)
          try rfl
        simp (maxDischargeDepth := 9) only [go_sem, Nat.reduceMul, Nat.reduceAdd, Nat.reduceLeDiff, Int.reduceSub, Int.reduceNeg, Int.reduceLT, Int.reduceLE, Int.reduceEq, *, rinitial_ans, rcoset_ans, rrise_ans, rlisted_ans, Tab.eqF, Function.comp_apply, R1.frozenL, RV.frozenT, cutB_eqn, tgs_len]
        with_reducible refine dop_valW ?_ ?_
        · simp only [St.keysOf, Op.operands, List.flatMap_cons, List.flatMap_nil, SV.keys, V1.keys, At.keys, go_sem, *]
          try (simp [Option.toArray, SV.keys, V1.keys, At.keys, go_sem, *]; done)
          try rfl
        simp (maxDischargeDepth := 9) only [go_sem, Nat.reduceMul, Nat.reduceAdd, Nat.reduceLeDiff, Int.reduceSub, Int.reduceNeg, Int.reduceLT, Int.reduceLE, Int.reduceEq, *, rinitial_ans, rcoset_ans, rrise_ans, rlisted_ans, Tab.eqF, Function.comp_apply, R1.frozenL, RV.frozenT, cutB_eqn, tgs_len]
        with_reducible refine dop_eff (by kernel_rfl) rfl ?_
        simp (maxDischargeDepth := 9) only [go_sem, Nat.reduceMul, Nat.reduceAdd, Nat.reduceLeDiff, Int.reduceSub, Int.reduceNeg, Int.reduceLT, Int.reduceLE, Int.reduceEq, *, rinitial_ans, rcoset_ans, rrise_ans, rlisted_ans, Tab.eqF, Function.comp_apply, R1.frozenL, RV.frozenT, cutB_eqn, tgs_len, Tab.eff, List.isEmpty_nil, Option.isNone_none]
        first | (with_reducible refine dop_loud (by kernel_rfl) ?_; simp (maxDischargeDepth := 9) only [go_sem, Nat.reduceMul, Nat.reduceAdd, Nat.reduceLeDiff, Int.reduceSub, Int.reduceNeg, Int.reduceLT, Int.reduceLE, Int.reduceEq, *, rinitial_ans, rcoset_ans, rrise_ans, rlisted_ans, Tab.eqF, Function.comp_apply, R1.frozenL, RV.frozenT, cutB_eqn, tgs_len]) | (with_reducible refine dop_eff (by kernel_rfl) rfl ?_; simp (maxDischargeDepth := 9) only [go_sem, Nat.reduceMul, Nat.reduceAdd, Nat.reduceLeDiff, Int.reduceSub, Int.reduceNeg, Int.reduceLT, Int.reduceLE, Int.reduceEq, *, rinitial_ans, rcoset_ans, rrise_ans, rlisted_ans, Tab.eqF, Function.comp_apply, R1.frozenL, RV.frozenT, cutB_eqn, tgs_len, Tab.eff, List.isEmpty_nil, Option.isNone_none])
        repeat' (first | (with_reducible refine condLt (fun h h' => ?_) (fun h h' => ?_)) | (with_reducible refine condLe (fun h h' => ?_) (fun h h' => ?_)) | (with_reducible refine dop_val ?_) | (with_reducible refine YsLt (fun h h' => ?_) (fun h h' => ?_)) | (with_reducible refine YsLe (fun h h' => ?_) (fun h h' => ?_)) | (with_reducible refine condP (fun h => ?_) (fun h => ?_)) | (with_reducible refine condN (fun h => ?_) (fun h => ?_)) | (with_reducible refine condB (fun h => ?_) (fun h => ?_)) | (with_reducible refine condR (fun h => ?_) (fun h => ?_)) | (with_reducible refine YsB (fun h => ?_) (fun h => ?_)) | (with_reducible refine YsC (fun h => ?_) (fun h => ?_)) | (with_reducible refine Ys_ite (fun h => ?_) (fun h => ?_)) | (intro h) | (with_reducible refine draw_look (by kernel_rfl) (by kernel_rfl) ?_) | (simp (maxDischargeDepth := 9) only [go_sem, Nat.reduceMul, Nat.reduceAdd, Nat.reduceLeDiff, Int.reduceSub, Int.reduceNeg, Int.reduceLT, Int.reduceLE, Int.reduceEq, *, rinitial_ans, rcoset_ans, rrise_ans, rlisted_ans, Tab.eqF, Function.comp_apply, R1.frozenL, RV.frozenT, cutB_eqn, tgs_len]) | (exfalso; omega))
      rw [if_pos h6] at hceq
      by_cases h7 : lst b i (asI (fld ((asL (fld b 1)).getD i .N) 0)) (fld ((asL (fld b 1)).getD i .N) 1) = true
      case pos =>
        have hce : CE n b (i : Int) (m : Int) = 6 := by rw [hceq, if_pos h7]
        clear hceq hin
        refine rn ?_
        simp (maxDischargeDepth := 9) only [go_sem, Nat.reduceMul, Nat.reduceAdd, Nat.reduceLeDiff, Int.reduceSub, Int.reduceNeg, Int.reduceLT, Int.reduceLE, Int.reduceEq, *, rinitial_ans, rcoset_ans, rrise_ans, rlisted_ans, Tab.eqF, Function.comp_apply, R1.frozenL, RV.frozenT, cutB_eqn, tgs_len]
        with_reducible refine draw_look (by kernel_rfl) (by kernel_rfl) ?_
        simp (maxDischargeDepth := 9) only [go_sem, Nat.reduceMul, Nat.reduceAdd, Nat.reduceLeDiff, Int.reduceSub, Int.reduceNeg, Int.reduceLT, Int.reduceLE, Int.reduceEq, *, rinitial_ans, rcoset_ans, rrise_ans, rlisted_ans, Tab.eqF, Function.comp_apply, R1.frozenL, RV.frozenT, cutB_eqn, tgs_len]
        with_reducible refine dop_val ?_
        simp (maxDischargeDepth := 9) only [go_sem, Nat.reduceMul, Nat.reduceAdd, Nat.reduceLeDiff, Int.reduceSub, Int.reduceNeg, Int.reduceLT, Int.reduceLE, Int.reduceEq, *, rinitial_ans, rcoset_ans, rrise_ans, rlisted_ans, Tab.eqF, Function.comp_apply, R1.frozenL, RV.frozenT, cutB_eqn, tgs_len]
        with_reducible refine dop_val ?_
        simp (maxDischargeDepth := 9) only [go_sem, Nat.reduceMul, Nat.reduceAdd, Nat.reduceLeDiff, Int.reduceSub, Int.reduceNeg, Int.reduceLT, Int.reduceLE, Int.reduceEq, *, rinitial_ans, rcoset_ans, rrise_ans, rlisted_ans, Tab.eqF, Function.comp_apply, R1.frozenL, RV.frozenT, cutB_eqn, tgs_len]
        with_reducible refine dop_val ?_
        simp (maxDischargeDepth := 9) only [go_sem, Nat.reduceMul, Nat.reduceAdd, Nat.reduceLeDiff, Int.reduceSub, Int.reduceNeg, Int.reduceLT, Int.reduceLE, Int.reduceEq, *, rinitial_ans, rcoset_ans, rrise_ans, rlisted_ans, Tab.eqF, Function.comp_apply, R1.frozenL, RV.frozenT, cutB_eqn, tgs_len]
        with_reducible refine dop_val ?_
        simp (maxDischargeDepth := 9) only [go_sem, Nat.reduceMul, Nat.reduceAdd, Nat.reduceLeDiff, Int.reduceSub, Int.reduceNeg, Int.reduceLT, Int.reduceLE, Int.reduceEq, *, rinitial_ans, rcoset_ans, rrise_ans, rlisted_ans, Tab.eqF, Function.comp_apply, R1.frozenL, RV.frozenT, cutB_eqn, tgs_len]
        with_reducible refine dop_val ?_
        simp (maxDischargeDepth := 9) only [go_sem, Nat.reduceMul, Nat.reduceAdd, Nat.reduceLeDiff, Int.reduceSub, Int.reduceNeg, Int.reduceLT, Int.reduceLE, Int.reduceEq, *, rinitial_ans, rcoset_ans, rrise_ans, rlisted_ans, Tab.eqF, Function.comp_apply, R1.frozenL, RV.frozenT, cutB_eqn, tgs_len]
        with_reducible refine dop_val ?_
        simp (maxDischargeDepth := 9) only [go_sem, Nat.reduceMul, Nat.reduceAdd, Nat.reduceLeDiff, Int.reduceSub, Int.reduceNeg, Int.reduceLT, Int.reduceLE, Int.reduceEq, *, rinitial_ans, rcoset_ans, rrise_ans, rlisted_ans, Tab.eqF, Function.comp_apply, R1.frozenL, RV.frozenT, cutB_eqn, tgs_len]
        with_reducible refine dop_val ?_
        simp (maxDischargeDepth := 9) only [go_sem, Nat.reduceMul, Nat.reduceAdd, Nat.reduceLeDiff, Int.reduceSub, Int.reduceNeg, Int.reduceLT, Int.reduceLE, Int.reduceEq, *, rinitial_ans, rcoset_ans, rrise_ans, rlisted_ans, Tab.eqF, Function.comp_apply, R1.frozenL, RV.frozenT, cutB_eqn, tgs_len]
        with_reducible refine dop_val ?_
        simp (maxDischargeDepth := 9) only [go_sem, Nat.reduceMul, Nat.reduceAdd, Nat.reduceLeDiff, Int.reduceSub, Int.reduceNeg, Int.reduceLT, Int.reduceLE, Int.reduceEq, *, rinitial_ans, rcoset_ans, rrise_ans, rlisted_ans, Tab.eqF, Function.comp_apply, R1.frozenL, RV.frozenT, cutB_eqn, tgs_len]
        with_reducible refine dop_val ?_
        simp (maxDischargeDepth := 9) only [go_sem, Nat.reduceMul, Nat.reduceAdd, Nat.reduceLeDiff, Int.reduceSub, Int.reduceNeg, Int.reduceLT, Int.reduceLE, Int.reduceEq, *, rinitial_ans, rcoset_ans, rrise_ans, rlisted_ans, Tab.eqF, Function.comp_apply, R1.frozenL, RV.frozenT, cutB_eqn, tgs_len]
        with_reducible refine dop_val ?_
        simp (maxDischargeDepth := 9) only [go_sem, Nat.reduceMul, Nat.reduceAdd, Nat.reduceLeDiff, Int.reduceSub, Int.reduceNeg, Int.reduceLT, Int.reduceLE, Int.reduceEq, *, rinitial_ans, rcoset_ans, rrise_ans, rlisted_ans, Tab.eqF, Function.comp_apply, R1.frozenL, RV.frozenT, cutB_eqn, tgs_len]
        with_reducible refine dop_val ?_
        simp (maxDischargeDepth := 9) only [go_sem, Nat.reduceMul, Nat.reduceAdd, Nat.reduceLeDiff, Int.reduceSub, Int.reduceNeg, Int.reduceLT, Int.reduceLE, Int.reduceEq, *, rinitial_ans, rcoset_ans, rrise_ans, rlisted_ans, Tab.eqF, Function.comp_apply, R1.frozenL, RV.frozenT, cutB_eqn, tgs_len]
        with_reducible refine dop_val ?_
        simp (maxDischargeDepth := 9) only [go_sem, Nat.reduceMul, Nat.reduceAdd, Nat.reduceLeDiff, Int.reduceSub, Int.reduceNeg, Int.reduceLT, Int.reduceLE, Int.reduceEq, *, rinitial_ans, rcoset_ans, rrise_ans, rlisted_ans, Tab.eqF, Function.comp_apply, R1.frozenL, RV.frozenT, cutB_eqn, tgs_len]
        refine gen_st (fun s1 hg hr hn1 => ?_)
        have z2 := hg 2
        have z3 := hg 3
        have z4 := hg 4
        have z8 := hg 8
        have z9 := hg 9
        have z10 := hg 10
        have y0 := hr 0
        have y1 := hr 1
        have y2 := hr 2
        have y3 := hr 3
        have y4 := hr 4
        have y5 := hr 5
        clear hg hr
        simp only [go_sem, *] at hn1 z2 z3 z4 z8 z9 z10 y0 y1 y2 y3 y4 y5
        with_reducible refine draw_with [5, 5] (by kernel_rfl) (by kernel_rfl) ?_
        simp (maxDischargeDepth := 9) only [go_sem, Nat.reduceMul, Nat.reduceAdd, Nat.reduceLeDiff, Int.reduceSub, Int.reduceNeg, Int.reduceLT, Int.reduceLE, Int.reduceEq, *, rinitial_ans, rcoset_ans, rrise_ans, rlisted_ans, Tab.eqF, Function.comp_apply, R1.frozenL, RV.frozenT, cutB_eqn, tgs_len]
        with_reducible refine dop_valW ?_ ?_
        · simp only [St.keysOf, Op.operands, List.flatMap_cons, List.flatMap_nil, SV.keys, V1.keys, At.keys, go_sem, *]
          try (simp [Option.toArray, SV.keys, V1.keys, At.keys, go_sem, *]; done)
          try rfl
        simp (maxDischargeDepth := 9) only [go_sem, Nat.reduceMul, Nat.reduceAdd, Nat.reduceLeDiff, Int.reduceSub, Int.reduceNeg, Int.reduceLT, Int.reduceLE, Int.reduceEq, *, rinitial_ans, rcoset_ans, rrise_ans, rlisted_ans, Tab.eqF, Function.comp_apply, R1.frozenL, RV.frozenT, cutB_eqn, tgs_len]
        with_reducible refine dop_valW ?_ ?_
        · simp only [St.keysOf, Op.operands, List.flatMap_cons, List.flatMap_nil, SV.keys, V1.keys, At.keys, go_sem, *]
          try (simp [Option.toArray, SV.keys, V1.keys, At.keys, go_sem, *]; done)
          try rfl
        simp (maxDischargeDepth := 9) only [go_sem, Nat.reduceMul, Nat.reduceAdd, Nat.reduceLeDiff, Int.reduceSub, Int.reduceNeg, Int.reduceLT, Int.reduceLE, Int.reduceEq, *, rinitial_ans, rcoset_ans, rrise_ans, rlisted_ans, Tab.eqF, Function.comp_apply, R1.frozenL, RV.frozenT, cutB_eqn, tgs_len]
        with_reducible refine dop_valW ?_ ?_
        · simp only [St.keysOf, Op.operands, List.flatMap_cons, List.flatMap_nil, SV.keys, V1.keys, At.keys, go_sem, *]
          try (simp [Option.toArray, SV.keys, V1.keys, At.keys, go_sem, *]; done)
          try rfl
        simp (maxDischargeDepth := 9) only [go_sem, Nat.reduceMul, Nat.reduceAdd, Nat.reduceLeDiff, Int.reduceSub, Int.reduceNeg, Int.reduceLT, Int.reduceLE, Int.reduceEq, *, rinitial_ans, rcoset_ans, rrise_ans, rlisted_ans, Tab.eqF, Function.comp_apply, R1.frozenL, RV.frozenT, cutB_eqn, tgs_len]
        with_reducible refine dop_valW ?_ ?_
        · simp only [St.keysOf, Op.operands, List.flatMap_cons, List.flatMap_nil, SV.keys, V1.keys, At.keys, go_sem, *]
          try (simp [Option.toArray, SV.keys, V1.keys, At.keys, go_sem, *]; done)
          try rfl
        simp (maxDischargeDepth := 9) only [go_sem, Nat.reduceMul, Nat.reduceAdd, Nat.reduceLeDiff, Int.reduceSub, Int.reduceNeg, Int.reduceLT, Int.reduceLE, Int.reduceEq, *, rinitial_ans, rcoset_ans, rrise_ans, rlisted_ans, Tab.eqF, Function.comp_apply, R1.frozenL, RV.frozenT, cutB_eqn, tgs_len]
        with_reducible refine dop_valW ?_ ?_
        · simp only [St.keysOf, Op.operands, List.flatMap_cons, List.flatMap_nil, SV.keys, V1.keys, At.keys, go_sem, *]
          try (simp [Option.toArray, SV.keys, V1.keys, At.keys, go_sem, *]; done)
          try rfl
        simp (maxDischargeDepth := 9) only [go_sem, Nat.reduceMul, Nat.reduceAdd, Nat.reduceLeDiff, Int.reduceSub, Int.reduceNeg, Int.reduceLT, Int.reduceLE, Int.reduceEq, *, rinitial_ans, rcoset_ans, rrise_ans, rlisted_ans, Tab.eqF, Function.comp_apply, R1.frozenL, RV.frozenT, cutB_eqn, tgs_len]
        with_reducible refine dop_valW ?_ ?_
        · simp only [St.keysOf, Op.operands, List.flatMap_cons, List.flatMap_nil, SV.keys, V1.keys, At.keys, go_sem, *]
          try (simp [Option.toArray, SV.keys, V1.keys, At.keys, go_sem, *]; done)
          try rfl
        simp (maxDischargeDepth := 9) only [go_sem, Nat.reduceMul, Nat.reduceAdd, Nat.reduceLeDiff, Int.reduceSub, Int.reduceNeg, Int.reduceLT, Int.reduceLE, Int.reduceEq, *, rinitial_ans, rcoset_ans, rrise_ans, rlisted_ans, Tab.eqF, Function.comp_apply, R1.frozenL, RV.frozenT, cutB_eqn, tgs_len]
        with_reducible refine dop_valW ?_ ?_
        · simp only [St.keysOf, Op.operands, List.flatMap_cons, List.flatMap_nil, SV.keys, V1.keys, At.keys, go_sem, *]
          try (simp [Option.toArray, SV.keys, V1.keys, At.keys, go_sem, *]; done)
          try rfl
        simp (maxDischargeDepth := 9) only [go_sem, Nat.reduceMul, Nat.reduceAdd, Nat.reduceLeDiff, Int.reduceSub, Int.reduceNeg, Int.reduceLT, Int.reduceLE, Int.reduceEq, *, rinitial_ans, rcoset_ans, rrise_ans, rlisted_ans, Tab.eqF, Function.comp_apply, R1.frozenL, RV.frozenT, cutB_eqn, tgs_len]
        with_reducible refine dop_valW ?_ ?_
        · simp only [St.keysOf, Op.operands, List.flatMap_cons, List.flatMap_nil, SV.keys, V1.keys, At.keys, go_sem, *]
          try (simp [Option.toArray, SV.keys, V1.keys, At.keys, go_sem, *]; done)
          try rfl
        simp (maxDischargeDepth := 9) only [go_sem, Nat.reduceMul, Nat.reduceAdd, Nat.reduceLeDiff, Int.reduceSub, Int.reduceNeg, Int.reduceLT, Int.reduceLE, Int.reduceEq, *, rinitial_ans, rcoset_ans, rrise_ans, rlisted_ans, Tab.eqF, Function.comp_apply, R1.frozenL, RV.frozenT, cutB_eqn, tgs_len]
        with_reducible refine dop_valW ?_ ?_
        · simp only [St.keysOf, Op.operands, List.flatMap_cons, List.flatMap_nil, SV.keys, V1.keys, At.keys, go_sem, *]
          try (simp [Option.toArray, SV.keys, V1.keys, At.keys, go_sem, *]; done)
          try rfl
        simp (maxDischargeDepth := 9) only [go_sem, Nat.reduceMul, Nat.reduceAdd, Nat.reduceLeDiff, Int.reduceSub, Int.reduceNeg, Int.reduceLT, Int.reduceLE, Int.reduceEq, *, rinitial_ans, rcoset_ans, rrise_ans, rlisted_ans, Tab.eqF, Function.comp_apply, R1.frozenL, RV.frozenT, cutB_eqn, tgs_len]
        with_reducible refine dop_eff (by kernel_rfl) rfl ?_
        simp (maxDischargeDepth := 9) only [go_sem, Nat.reduceMul, Nat.reduceAdd, Nat.reduceLeDiff, Int.reduceSub, Int.reduceNeg, Int.reduceLT, Int.reduceLE, Int.reduceEq, *, rinitial_ans, rcoset_ans, rrise_ans, rlisted_ans, Tab.eqF, Function.comp_apply, R1.frozenL, RV.frozenT, cutB_eqn, tgs_len, Tab.eff, List.isEmpty_nil, Option.isNone_none]
        first | (with_reducible refine dop_loud (by kernel_rfl) ?_; simp (maxDischargeDepth := 9) only [go_sem, Nat.reduceMul, Nat.reduceAdd, Nat.reduceLeDiff, Int.reduceSub, Int.reduceNeg, Int.reduceLT, Int.reduceLE, Int.reduceEq, *, rinitial_ans, rcoset_ans, rrise_ans, rlisted_ans, Tab.eqF, Function.comp_apply, R1.frozenL, RV.frozenT, cutB_eqn, tgs_len]) | (with_reducible refine dop_eff (by kernel_rfl) rfl ?_; simp (maxDischargeDepth := 9) only [go_sem, Nat.reduceMul, Nat.reduceAdd, Nat.reduceLeDiff, Int.reduceSub, Int.reduceNeg, Int.reduceLT, Int.reduceLE, Int.reduceEq, *, rinitial_ans, rcoset_ans, rrise_ans, rlisted_ans, Tab.eqF, Function.comp_apply, R1.frozenL, RV.frozenT, cutB_eqn, tgs_len, Tab.eff, List.isEmpty_nil, Option.isNone_none])
        repeat' (first | (with_reducible refine condLt (fun h h' => ?_) (fun h h' => ?_)) | (with_reducible refine condLe (fun h h' => ?_) (fun h h' => ?_)) | (with_reducible refine dop_val ?_) | (with_reducible refine YsLt (fun h h' => ?_) (fun h h' => ?_)) | (with_reducible refine YsLe (fun h h' => ?_) (fun h h' => ?_)) | (with_reducible refine condP (fun h => ?_) (fun h => ?_)) | (with_reducible refine condN (fun h => ?_) (fun h => ?_)) | (with_reducible refine condB (fun h => ?_) (fun h => ?_)) | (with_reducible refine condR (fun h => ?_) (fun h => ?_)) | (with_reducible refine YsB (fun h => ?_) (fun h => ?_)) | (with_reducible refine YsC (fun h => ?_) (fun h => ?_)) | (with_reducible refine Ys_ite (fun h => ?_) (fun h => ?_)) | (intro h) | (with_reducible refine draw_look (by kernel_rfl) (by kernel_rfl) ?_) | (simp (maxDischargeDepth := 9) only [go_sem, Nat.reduceMul, Nat.reduceAdd, Nat.reduceLeDiff, Int.reduceSub, Int.reduceNeg, Int.reduceLT, Int.reduceLE, Int.reduceEq, *, rinitial_ans, rcoset_ans, rrise_ans, rlisted_ans, Tab.eqF, Function.comp_apply, R1.frozenL, RV.frozenT, cutB_eqn, tgs_len]) | (exfalso; omega))
      have h7f : lst b i (asI (fld ((asL (fld b 1)).getD i .N) 0)) (fld ((asL (fld b 1)).getD i .N) 1) = false := by simpa using h7
      rw [if_neg h7] at hceq
      by_cases h8 : (asL (fld ((asL (fld b 1)).getD i .N) 2)).length = (asL (fld (el (asL (fld n 2)) (asI (fld ((asL (fld b 1)).getD i .N) 0))) 2)).length
      case neg =>
        have hce : CE n b (i : Int) (m : Int) = 7 := by rw [hceq]; exact PO_len h8
        clear hceq hin
        refine rn ?_
        simp (maxDischargeDepth := 9) only [go_sem, Nat.reduceMul, Nat.reduceAdd, Nat.reduceLeDiff, Int.reduceSub, Int.reduceNeg, Int.reduceLT, Int.reduceLE, Int.reduceEq, *, rinitial_ans, rcoset_ans, rrise_ans, rlisted_ans, Tab.eqF, Function.comp_apply, R1.frozenL, RV.frozenT, cutB_eqn, tgs_len]
        with_reducible refine draw_look (by kernel_rfl) (by kernel_rfl) ?_
        simp (maxDischargeDepth := 9) only [go_sem, Nat.reduceMul, Nat.reduceAdd, Nat.reduceLeDiff, Int.reduceSub, Int.reduceNeg, Int.reduceLT, Int.reduceLE, Int.reduceEq, *, rinitial_ans, rcoset_ans, rrise_ans, rlisted_ans, Tab.eqF, Function.comp_apply, R1.frozenL, RV.frozenT, cutB_eqn, tgs_len]
        with_reducible refine dop_val ?_
        simp (maxDischargeDepth := 9) only [go_sem, Nat.reduceMul, Nat.reduceAdd, Nat.reduceLeDiff, Int.reduceSub, Int.reduceNeg, Int.reduceLT, Int.reduceLE, Int.reduceEq, *, rinitial_ans, rcoset_ans, rrise_ans, rlisted_ans, Tab.eqF, Function.comp_apply, R1.frozenL, RV.frozenT, cutB_eqn, tgs_len]
        with_reducible refine dop_val ?_
        simp (maxDischargeDepth := 9) only [go_sem, Nat.reduceMul, Nat.reduceAdd, Nat.reduceLeDiff, Int.reduceSub, Int.reduceNeg, Int.reduceLT, Int.reduceLE, Int.reduceEq, *, rinitial_ans, rcoset_ans, rrise_ans, rlisted_ans, Tab.eqF, Function.comp_apply, R1.frozenL, RV.frozenT, cutB_eqn, tgs_len]
        with_reducible refine dop_val ?_
        simp (maxDischargeDepth := 9) only [go_sem, Nat.reduceMul, Nat.reduceAdd, Nat.reduceLeDiff, Int.reduceSub, Int.reduceNeg, Int.reduceLT, Int.reduceLE, Int.reduceEq, *, rinitial_ans, rcoset_ans, rrise_ans, rlisted_ans, Tab.eqF, Function.comp_apply, R1.frozenL, RV.frozenT, cutB_eqn, tgs_len]
        with_reducible refine dop_val ?_
        simp (maxDischargeDepth := 9) only [go_sem, Nat.reduceMul, Nat.reduceAdd, Nat.reduceLeDiff, Int.reduceSub, Int.reduceNeg, Int.reduceLT, Int.reduceLE, Int.reduceEq, *, rinitial_ans, rcoset_ans, rrise_ans, rlisted_ans, Tab.eqF, Function.comp_apply, R1.frozenL, RV.frozenT, cutB_eqn, tgs_len]
        with_reducible refine dop_val ?_
        simp (maxDischargeDepth := 9) only [go_sem, Nat.reduceMul, Nat.reduceAdd, Nat.reduceLeDiff, Int.reduceSub, Int.reduceNeg, Int.reduceLT, Int.reduceLE, Int.reduceEq, *, rinitial_ans, rcoset_ans, rrise_ans, rlisted_ans, Tab.eqF, Function.comp_apply, R1.frozenL, RV.frozenT, cutB_eqn, tgs_len]
        with_reducible refine dop_val ?_
        simp (maxDischargeDepth := 9) only [go_sem, Nat.reduceMul, Nat.reduceAdd, Nat.reduceLeDiff, Int.reduceSub, Int.reduceNeg, Int.reduceLT, Int.reduceLE, Int.reduceEq, *, rinitial_ans, rcoset_ans, rrise_ans, rlisted_ans, Tab.eqF, Function.comp_apply, R1.frozenL, RV.frozenT, cutB_eqn, tgs_len]
        with_reducible refine dop_val ?_
        simp (maxDischargeDepth := 9) only [go_sem, Nat.reduceMul, Nat.reduceAdd, Nat.reduceLeDiff, Int.reduceSub, Int.reduceNeg, Int.reduceLT, Int.reduceLE, Int.reduceEq, *, rinitial_ans, rcoset_ans, rrise_ans, rlisted_ans, Tab.eqF, Function.comp_apply, R1.frozenL, RV.frozenT, cutB_eqn, tgs_len]
        with_reducible refine dop_val ?_
        simp (maxDischargeDepth := 9) only [go_sem, Nat.reduceMul, Nat.reduceAdd, Nat.reduceLeDiff, Int.reduceSub, Int.reduceNeg, Int.reduceLT, Int.reduceLE, Int.reduceEq, *, rinitial_ans, rcoset_ans, rrise_ans, rlisted_ans, Tab.eqF, Function.comp_apply, R1.frozenL, RV.frozenT, cutB_eqn, tgs_len]
        with_reducible refine dop_val ?_
        simp (maxDischargeDepth := 9) only [go_sem, Nat.reduceMul, Nat.reduceAdd, Nat.reduceLeDiff, Int.reduceSub, Int.reduceNeg, Int.reduceLT, Int.reduceLE, Int.reduceEq, *, rinitial_ans, rcoset_ans, rrise_ans, rlisted_ans, Tab.eqF, Function.comp_apply, R1.frozenL, RV.frozenT, cutB_eqn, tgs_len]
        with_reducible refine dop_val ?_
        simp (maxDischargeDepth := 9) only [go_sem, Nat.reduceMul, Nat.reduceAdd, Nat.reduceLeDiff, Int.reduceSub, Int.reduceNeg, Int.reduceLT, Int.reduceLE, Int.reduceEq, *, rinitial_ans, rcoset_ans, rrise_ans, rlisted_ans, Tab.eqF, Function.comp_apply, R1.frozenL, RV.frozenT, cutB_eqn, tgs_len]
        with_reducible refine dop_val ?_
        simp (maxDischargeDepth := 9) only [go_sem, Nat.reduceMul, Nat.reduceAdd, Nat.reduceLeDiff, Int.reduceSub, Int.reduceNeg, Int.reduceLT, Int.reduceLE, Int.reduceEq, *, rinitial_ans, rcoset_ans, rrise_ans, rlisted_ans, Tab.eqF, Function.comp_apply, R1.frozenL, RV.frozenT, cutB_eqn, tgs_len]
        with_reducible refine dop_val ?_
        simp (maxDischargeDepth := 9) only [go_sem, Nat.reduceMul, Nat.reduceAdd, Nat.reduceLeDiff, Int.reduceSub, Int.reduceNeg, Int.reduceLT, Int.reduceLE, Int.reduceEq, *, rinitial_ans, rcoset_ans, rrise_ans, rlisted_ans, Tab.eqF, Function.comp_apply, R1.frozenL, RV.frozenT, cutB_eqn, tgs_len]
        refine gen_st (fun s1 hg hr hn1 => ?_)
        have z2 := hg 2
        have z3 := hg 3
        have z4 := hg 4
        have z8 := hg 8
        have z9 := hg 9
        have z10 := hg 10
        have y0 := hr 0
        have y1 := hr 1
        have y2 := hr 2
        have y3 := hr 3
        have y4 := hr 4
        have y5 := hr 5
        clear hg hr
        simp only [go_sem, *] at hn1 z2 z3 z4 z8 z9 z10 y0 y1 y2 y3 y4 y5
        with_reducible refine draw_with [5, 5] (by kernel_rfl) (by kernel_rfl) ?_
        simp (maxDischargeDepth := 9) only [go_sem, Nat.reduceMul, Nat.reduceAdd, Nat.reduceLeDiff, Int.reduceSub, Int.reduceNeg, Int.reduceLT, Int.reduceLE, Int.reduceEq, *, rinitial_ans, rcoset_ans, rrise_ans, rlisted_ans, Tab.eqF, Function.comp_apply, R1.frozenL, RV.frozenT, cutB_eqn, tgs_len]
        with_reducible refine dop_valW ?_ ?_
        · simp only [St.keysOf, Op.operands, List.flatMap_cons, List.flatMap_nil, SV.keys, V1.keys, At.keys, go_sem, *]
          try (simp [Option.toArray, SV.keys, V1.keys, At.keys, go_sem, *]; done)
          try rfl
        simp (maxDischargeDepth := 9) only [go_sem, Nat.reduceMul, Nat.reduceAdd, Nat.reduceLeDiff, Int.reduceSub, Int.reduceNeg, Int.reduceLT, Int.reduceLE, Int.reduceEq, *, rinitial_ans, rcoset_ans, rrise_ans, rlisted_ans, Tab.eqF, Function.comp_apply, R1.frozenL, RV.frozenT, cutB_eqn, tgs_len]
        with_reducible refine dop_valW ?_ ?_
        · simp only [St.keysOf, Op.operands, List.flatMap_cons, List.flatMap_nil, SV.keys, V1.keys, At.keys, go_sem, *]
          try (simp [Option.toArray, SV.keys, V1.keys, At.keys, go_sem, *]; done)
          try rfl
        simp (maxDischargeDepth := 9) only [go_sem, Nat.reduceMul, Nat.reduceAdd, Nat.reduceLeDiff, Int.reduceSub, Int.reduceNeg, Int.reduceLT, Int.reduceLE, Int.reduceEq, *, rinitial_ans, rcoset_ans, rrise_ans, rlisted_ans, Tab.eqF, Function.comp_apply, R1.frozenL, RV.frozenT, cutB_eqn, tgs_len]
        with_reducible refine dop_valW ?_ ?_
        · simp only [St.keysOf, Op.operands, List.flatMap_cons, List.flatMap_nil, SV.keys, V1.keys, At.keys, go_sem, *]
          try (simp [Option.toArray, SV.keys, V1.keys, At.keys, go_sem, *]; done)
          try rfl
        simp (maxDischargeDepth := 9) only [go_sem, Nat.reduceMul, Nat.reduceAdd, Nat.reduceLeDiff, Int.reduceSub, Int.reduceNeg, Int.reduceLT, Int.reduceLE, Int.reduceEq, *, rinitial_ans, rcoset_ans, rrise_ans, rlisted_ans, Tab.eqF, Function.comp_apply, R1.frozenL, RV.frozenT, cutB_eqn, tgs_len]
        with_reducible refine dop_valW ?_ ?_
        · simp only [St.keysOf, Op.operands, List.flatMap_cons, List.flatMap_nil, SV.keys, V1.keys, At.keys, go_sem, *]
          try (simp [Option.toArray, SV.keys, V1.keys, At.keys, go_sem, *]; done)
          try rfl
        simp (maxDischargeDepth := 9) only [go_sem, Nat.reduceMul, Nat.reduceAdd, Nat.reduceLeDiff, Int.reduceSub, Int.reduceNeg, Int.reduceLT, Int.reduceLE, Int.reduceEq, *, rinitial_ans, rcoset_ans, rrise_ans, rlisted_ans, Tab.eqF, Function.comp_apply, R1.frozenL, RV.frozenT, cutB_eqn, tgs_len]
        with_reducible refine dop_valW ?_ ?_
        · simp only [St.keysOf, Op.operands, List.flatMap_cons, List.flatMap_nil, SV.keys, V1.keys, At.keys, go_sem, *]
          try (simp [Option.toArray, SV.keys, V1.keys, At.keys, go_sem, *]; done)
          try rfl
        simp (maxDischargeDepth := 9) only [go_sem, Nat.reduceMul, Nat.reduceAdd, Nat.reduceLeDiff, Int.reduceSub, Int.reduceNeg, Int.reduceLT, Int.reduceLE, Int.reduceEq, *, rinitial_ans, rcoset_ans, rrise_ans, rlisted_ans, Tab.eqF, Function.comp_apply, R1.frozenL, RV.frozenT, cutB_eqn, tgs_len]
        with_reducible refine dop_valW ?_ ?_
        · simp only [St.keysOf, Op.operands, List.flatMap_cons, List.flatMap_nil, SV.keys, V1.keys, At.keys, go_sem, *]
          try (simp [Option.toArray, SV.keys, V1.keys, At.keys, go_sem, *]; done)
          try rfl
        simp (maxDischargeDepth := 9) only [go_sem, Nat.reduceMul, Nat.reduceAdd, Nat.reduceLeDiff, Int.reduceSub, Int.reduceNeg, Int.reduceLT, Int.reduceLE, Int.reduceEq, *, rinitial_ans, rcoset_ans, rrise_ans, rlisted_ans, Tab.eqF, Function.comp_apply, R1.frozenL, RV.frozenT, cutB_eqn, tgs_len]
        with_reducible refine dop_valW ?_ ?_
        · simp only [St.keysOf, Op.operands, List.flatMap_cons, List.flatMap_nil, SV.keys, V1.keys, At.keys, go_sem, *]
          try (simp [Option.toArray, SV.keys, V1.keys, At.keys, go_sem, *]; done)
          try rfl
        simp (maxDischargeDepth := 9) only [go_sem, Nat.reduceMul, Nat.reduceAdd, Nat.reduceLeDiff, Int.reduceSub, Int.reduceNeg, Int.reduceLT, Int.reduceLE, Int.reduceEq, *, rinitial_ans, rcoset_ans, rrise_ans, rlisted_ans, Tab.eqF, Function.comp_apply, R1.frozenL, RV.frozenT, cutB_eqn, tgs_len]
        with_reducible refine dop_valW ?_ ?_
        · simp only [St.keysOf, Op.operands, List.flatMap_cons, List.flatMap_nil, SV.keys, V1.keys, At.keys, go_sem, *]
          try (simp [Option.toArray, SV.keys, V1.keys, At.keys, go_sem, *]; done)
          try rfl
        simp (maxDischargeDepth := 9) only [go_sem, Nat.reduceMul, Nat.reduceAdd, Nat.reduceLeDiff, Int.reduceSub, Int.reduceNeg, Int.reduceLT, Int.reduceLE, Int.reduceEq, *, rinitial_ans, rcoset_ans, rrise_ans, rlisted_ans, Tab.eqF, Function.comp_apply, R1.frozenL, RV.frozenT, cutB_eqn, tgs_len]
        with_reducible refine dop_valW ?_ ?_
        · simp only [St.keysOf, Op.operands, List.flatMap_cons, List.flatMap_nil, SV.keys, V1.keys, At.keys, go_sem, *]
          try (simp [Option.toArray, SV.keys, V1.keys, At.keys, go_sem, *]; done)
          try rfl
        simp (maxDischargeDepth := 9) only [go_sem, Nat.reduceMul, Nat.reduceAdd, Nat.reduceLeDiff, Int.reduceSub, Int.reduceNeg, Int.reduceLT, Int.reduceLE, Int.reduceEq, *, rinitial_ans, rcoset_ans, rrise_ans, rlisted_ans, Tab.eqF, Function.comp_apply, R1.frozenL, RV.frozenT, cutB_eqn, tgs_len]
        with_reducible refine dop_eff (by kernel_rfl) rfl ?_
        simp (maxDischargeDepth := 9) only [go_sem, Nat.reduceMul, Nat.reduceAdd, Nat.reduceLeDiff, Int.reduceSub, Int.reduceNeg, Int.reduceLT, Int.reduceLE, Int.reduceEq, *, rinitial_ans, rcoset_ans, rrise_ans, rlisted_ans, Tab.eqF, Function.comp_apply, R1.frozenL, RV.frozenT, cutB_eqn, tgs_len, Tab.eff, List.isEmpty_nil, Option.isNone_none]
        first | (with_reducible refine dop_loud (by kernel_rfl) ?_; simp (maxDischargeDepth := 9) only [go_sem, Nat.reduceMul, Nat.reduceAdd, Nat.reduceLeDiff, Int.reduceSub, Int.reduceNeg, Int.reduceLT, Int.reduceLE, Int.reduceEq, *, rinitial_ans, rcoset_ans, rrise_ans, rlisted_ans, Tab.eqF, Function.comp_apply, R1.frozenL, RV.frozenT, cutB_eqn, tgs_len]) | (with_reducible refine dop_eff (by kernel_rfl) rfl ?_; simp (maxDischargeDepth := 9) only [go_sem, Nat.reduceMul, Nat.reduceAdd, Nat.reduceLeDiff, Int.reduceSub, Int.reduceNeg, Int.reduceLT, Int.reduceLE, Int.reduceEq, *, rinitial_ans, rcoset_ans, rrise_ans, rlisted_ans, Tab.eqF, Function.comp_apply, R1.frozenL, RV.frozenT, cutB_eqn, tgs_len, Tab.eff, List.isEmpty_nil, Option.isNone_none])
        repeat' (first | (with_reducible refine condLt (fun h h' => ?_) (fun h h' => ?_)) | (with_reducible refine condLe (fun h h' => ?_) (fun h h' => ?_)) | (with_reducible refine dop_val ?_) | (with_reducible refine YsLt (fun h h' => ?_) (fun h h' => ?_)) | (with_reducible refine YsLe (fun h h' => ?_) (fun h h' => ?_)) | (with_reducible refine condP (fun h => ?_) (fun h => ?_)) | (with_reducible refine condN (fun h => ?_) (fun h => ?_)) | (with_reducible refine condB (fun h => ?_) (fun h => ?_)) | (with_reducible refine condR (fun h => ?_) (fun h => ?_)) | (with_reducible refine YsB (fun h => ?_) (fun h => ?_)) | (with_reducible refine YsC (fun h => ?_) (fun h => ?_)) | (with_reducible refine Ys_ite (fun h => ?_) (fun h => ?_)) | (intro h) | (with_reducible refine draw_look (by kernel_rfl) (by kernel_rfl) ?_) | (simp (maxDischargeDepth := 9) only [go_sem, Nat.reduceMul, Nat.reduceAdd, Nat.reduceLeDiff, Int.reduceSub, Int.reduceNeg, Int.reduceLT, Int.reduceLE, Int.reduceEq, *, rinitial_ans, rcoset_ans, rrise_ans, rlisted_ans, Tab.eqF, Function.comp_apply, R1.frozenL, RV.frozenT, cutB_eqn, tgs_len]) | (exfalso; omega))
      rw [PO_fold h8] at hceq
      have hmq : CE n b (i : Int) (m : Int) = 0 → m + (asL (fld ((asL (fld b 1)).getD i .N) 2)).length ≤ (asL (fld b 0)).length := fun h => CE_ok h hI
      have h8s : (asL (fld (el (asL (fld n 2)) (asI (fld ((asL (fld b 1)).getD i .N) 0))) 2)).length = (asL (fld ((asL (fld b 1)).getD i .N) 2)).length := h8.symm
      have hq5 : (asL (fld ((asL (fld b 1)).getD i .N) 2)).length ≤ 100000 := by have := hg.l2 h1a h1b; omega
      clear h8 hin
      refine rn ?_
      simp (maxDischargeDepth := 9) only [go_sem, Nat.reduceMul, Nat.reduceAdd, Nat.reduceLeDiff, Int.reduceSub, Int.reduceNeg, Int.reduceLT, Int.reduceLE, Int.reduceEq, *, rinitial_ans, rcoset_ans, rrise_ans, rlisted_ans, Tab.eqF, Function.comp_apply, R1.frozenL, RV.frozenT, cutB_eqn, tgs_len]
      with_reducible refine draw_look (by kernel_rfl) (by kernel_rfl) ?_
      simp (maxDischargeDepth := 9) only [go_sem, Nat.reduceMul, Nat.reduceAdd, Nat.reduceLeDiff, Int.reduceSub, Int.reduceNeg, Int.reduceLT, Int.reduceLE, Int.reduceEq, *, rinitial_ans, rcoset_ans, rrise_ans, rlisted_ans, Tab.eqF, Function.comp_apply, R1.frozenL, RV.frozenT, cutB_eqn, tgs_len]
      with_reducible refine dop_val ?_
      simp (maxDischargeDepth := 9) only [go_sem, Nat.reduceMul, Nat.reduceAdd, Nat.reduceLeDiff, Int.reduceSub, Int.reduceNeg, Int.reduceLT, Int.reduceLE, Int.reduceEq, *, rinitial_ans, rcoset_ans, rrise_ans, rlisted_ans, Tab.eqF, Function.comp_apply, R1.frozenL, RV.frozenT, cutB_eqn, tgs_len]
      with_reducible refine dop_val ?_
      simp (maxDischargeDepth := 9) only [go_sem, Nat.reduceMul, Nat.reduceAdd, Nat.reduceLeDiff, Int.reduceSub, Int.reduceNeg, Int.reduceLT, Int.reduceLE, Int.reduceEq, *, rinitial_ans, rcoset_ans, rrise_ans, rlisted_ans, Tab.eqF, Function.comp_apply, R1.frozenL, RV.frozenT, cutB_eqn, tgs_len]
      with_reducible refine dop_val ?_
      simp (maxDischargeDepth := 9) only [go_sem, Nat.reduceMul, Nat.reduceAdd, Nat.reduceLeDiff, Int.reduceSub, Int.reduceNeg, Int.reduceLT, Int.reduceLE, Int.reduceEq, *, rinitial_ans, rcoset_ans, rrise_ans, rlisted_ans, Tab.eqF, Function.comp_apply, R1.frozenL, RV.frozenT, cutB_eqn, tgs_len]
      with_reducible refine dop_val ?_
      simp (maxDischargeDepth := 9) only [go_sem, Nat.reduceMul, Nat.reduceAdd, Nat.reduceLeDiff, Int.reduceSub, Int.reduceNeg, Int.reduceLT, Int.reduceLE, Int.reduceEq, *, rinitial_ans, rcoset_ans, rrise_ans, rlisted_ans, Tab.eqF, Function.comp_apply, R1.frozenL, RV.frozenT, cutB_eqn, tgs_len]
      with_reducible refine dop_val ?_
      simp (maxDischargeDepth := 9) only [go_sem, Nat.reduceMul, Nat.reduceAdd, Nat.reduceLeDiff, Int.reduceSub, Int.reduceNeg, Int.reduceLT, Int.reduceLE, Int.reduceEq, *, rinitial_ans, rcoset_ans, rrise_ans, rlisted_ans, Tab.eqF, Function.comp_apply, R1.frozenL, RV.frozenT, cutB_eqn, tgs_len]
      with_reducible refine dop_val ?_
      simp (maxDischargeDepth := 9) only [go_sem, Nat.reduceMul, Nat.reduceAdd, Nat.reduceLeDiff, Int.reduceSub, Int.reduceNeg, Int.reduceLT, Int.reduceLE, Int.reduceEq, *, rinitial_ans, rcoset_ans, rrise_ans, rlisted_ans, Tab.eqF, Function.comp_apply, R1.frozenL, RV.frozenT, cutB_eqn, tgs_len]
      with_reducible refine dop_val ?_
      simp (maxDischargeDepth := 9) only [go_sem, Nat.reduceMul, Nat.reduceAdd, Nat.reduceLeDiff, Int.reduceSub, Int.reduceNeg, Int.reduceLT, Int.reduceLE, Int.reduceEq, *, rinitial_ans, rcoset_ans, rrise_ans, rlisted_ans, Tab.eqF, Function.comp_apply, R1.frozenL, RV.frozenT, cutB_eqn, tgs_len]
      with_reducible refine dop_val ?_
      simp (maxDischargeDepth := 9) only [go_sem, Nat.reduceMul, Nat.reduceAdd, Nat.reduceLeDiff, Int.reduceSub, Int.reduceNeg, Int.reduceLT, Int.reduceLE, Int.reduceEq, *, rinitial_ans, rcoset_ans, rrise_ans, rlisted_ans, Tab.eqF, Function.comp_apply, R1.frozenL, RV.frozenT, cutB_eqn, tgs_len]
      with_reducible refine dop_val ?_
      simp (maxDischargeDepth := 9) only [go_sem, Nat.reduceMul, Nat.reduceAdd, Nat.reduceLeDiff, Int.reduceSub, Int.reduceNeg, Int.reduceLT, Int.reduceLE, Int.reduceEq, *, rinitial_ans, rcoset_ans, rrise_ans, rlisted_ans, Tab.eqF, Function.comp_apply, R1.frozenL, RV.frozenT, cutB_eqn, tgs_len]
      with_reducible refine dop_val ?_
      simp (maxDischargeDepth := 9) only [go_sem, Nat.reduceMul, Nat.reduceAdd, Nat.reduceLeDiff, Int.reduceSub, Int.reduceNeg, Int.reduceLT, Int.reduceLE, Int.reduceEq, *, rinitial_ans, rcoset_ans, rrise_ans, rlisted_ans, Tab.eqF, Function.comp_apply, R1.frozenL, RV.frozenT, cutB_eqn, tgs_len]
      with_reducible refine dop_val ?_
      simp (maxDischargeDepth := 9) only [go_sem, Nat.reduceMul, Nat.reduceAdd, Nat.reduceLeDiff, Int.reduceSub, Int.reduceNeg, Int.reduceLT, Int.reduceLE, Int.reduceEq, *, rinitial_ans, rcoset_ans, rrise_ans, rlisted_ans, Tab.eqF, Function.comp_apply, R1.frozenL, RV.frozenT, cutB_eqn, tgs_len]
      with_reducible refine dop_val ?_
      simp (maxDischargeDepth := 9) only [go_sem, Nat.reduceMul, Nat.reduceAdd, Nat.reduceLeDiff, Int.reduceSub, Int.reduceNeg, Int.reduceLT, Int.reduceLE, Int.reduceEq, *, rinitial_ans, rcoset_ans, rrise_ans, rlisted_ans, Tab.eqF, Function.comp_apply, R1.frozenL, RV.frozenT, cutB_eqn, tgs_len]
      refine gen_st (fun s1 hg hr hn1 => ?_)
      have z2 := hg 2
      have z3 := hg 3
      have z4 := hg 4
      have z8 := hg 8
      have z9 := hg 9
      have z10 := hg 10
      have y0 := hr 0
      have y1 := hr 1
      have y2 := hr 2
      have y3 := hr 3
      have y4 := hr 4
      have y5 := hr 5
      clear hg hr
      simp only [go_sem, *] at hn1 z2 z3 z4 z8 z9 z10 y0 y1 y2 y3 y4 y5
      with_reducible refine draw_with [5, 5] (by kernel_rfl) (by kernel_rfl) ?_
      simp (maxDischargeDepth := 9) only [go_sem, Nat.reduceMul, Nat.reduceAdd, Nat.reduceLeDiff, Int.reduceSub, Int.reduceNeg, Int.reduceLT, Int.reduceLE, Int.reduceEq, *, rinitial_ans, rcoset_ans, rrise_ans, rlisted_ans, Tab.eqF, Function.comp_apply, R1.frozenL, RV.frozenT, cutB_eqn, tgs_len]
      with_reducible refine dop_valW ?_ ?_
      · simp only [St.keysOf, Op.operands, List.flatMap_cons, List.flatMap_nil, SV.keys, V1.keys, At.keys, go_sem, *]
        try (simp [Option.toArray, SV.keys, V1.keys, At.keys, go_sem, *]; done)
        try rfl
      simp (maxDischargeDepth := 9) only [go_sem, Nat.reduceMul, Nat.reduceAdd, Nat.reduceLeDiff, Int.reduceSub, Int.reduceNeg, Int.reduceLT, Int.reduceLE, Int.reduceEq, *, rinitial_ans, rcoset_ans, rrise_ans, rlisted_ans, Tab.eqF, Function.comp_apply, R1.frozenL, RV.frozenT, cutB_eqn, tgs_len]
      with_reducible refine dop_valW ?_ ?_
      · simp only [St.keysOf, Op.operands, List.flatMap_cons, List.flatMap_nil, SV.keys, V1.keys, At.keys, go_sem, *]
        try (simp [Option.toArray, SV.keys, V1.keys, At.keys, go_sem, *]; done)
        try rfl
      simp (maxDischargeDepth := 9) only [go_sem, Nat.reduceMul, Nat.reduceAdd, Nat.reduceLeDiff, Int.reduceSub, Int.reduceNeg, Int.reduceLT, Int.reduceLE, Int.reduceEq, *, rinitial_ans, rcoset_ans, rrise_ans, rlisted_ans, Tab.eqF, Function.comp_apply, R1.frozenL, RV.frozenT, cutB_eqn, tgs_len]
      with_reducible refine dop_valW ?_ ?_
      · simp only [St.keysOf, Op.operands, List.flatMap_cons, List.flatMap_nil, SV.keys, V1.keys, At.keys, go_sem, *]
        try (simp [Option.toArray, SV.keys, V1.keys, At.keys, go_sem, *]; done)
        try rfl
      simp (maxDischargeDepth := 9) only [go_sem, Nat.reduceMul, Nat.reduceAdd, Nat.reduceLeDiff, Int.reduceSub, Int.reduceNeg, Int.reduceLT, Int.reduceLE, Int.reduceEq, *, rinitial_ans, rcoset_ans, rrise_ans, rlisted_ans, Tab.eqF, Function.comp_apply, R1.frozenL, RV.frozenT, cutB_eqn, tgs_len]
      with_reducible refine dop_valW ?_ ?_
      · simp only [St.keysOf, Op.operands, List.flatMap_cons, List.flatMap_nil, SV.keys, V1.keys, At.keys, go_sem, *]
        try (simp [Option.toArray, SV.keys, V1.keys, At.keys, go_sem, *]; done)
        try rfl
      simp (maxDischargeDepth := 9) only [go_sem, Nat.reduceMul, Nat.reduceAdd, Nat.reduceLeDiff, Int.reduceSub, Int.reduceNeg, Int.reduceLT, Int.reduceLE, Int.reduceEq, *, rinitial_ans, rcoset_ans, rrise_ans, rlisted_ans, Tab.eqF, Function.comp_apply, R1.frozenL, RV.frozenT, cutB_eqn, tgs_len]
      with_reducible refine dop_valW ?_ ?_
      · simp only [St.keysOf, Op.operands, List.flatMap_cons, List.flatMap_nil, SV.keys, V1.keys, At.keys, go_sem, *]
        try (simp [Option.toArray, SV.keys, V1.keys, At.keys, go_sem, *]; done)
        try rfl
      simp (maxDischargeDepth := 9) only [go_sem, Nat.reduceMul, Nat.reduceAdd, Nat.reduceLeDiff, Int.reduceSub, Int.reduceNeg, Int.reduceLT, Int.reduceLE, Int.reduceEq, *, rinitial_ans, rcoset_ans, rrise_ans, rlisted_ans, Tab.eqF, Function.comp_apply, R1.frozenL, RV.frozenT, cutB_eqn, tgs_len]
      with_reducible refine dop_valW ?_ ?_
      · simp only [St.keysOf, Op.operands, List.flatMap_cons, List.flatMap_nil, SV.keys, V1.keys, At.keys, go_sem, *]
        try (simp [Option.toArray, SV.keys, V1.keys, At.keys, go_sem, *]; done)
        try rfl
      simp (maxDischargeDepth := 9) only [go_sem, Nat.reduceMul, Nat.reduceAdd, Nat.reduceLeDiff, Int.reduceSub, Int.reduceNeg, Int.reduceLT, Int.reduceLE, Int.reduceEq, *, rinitial_ans, rcoset_ans, rrise_ans, rlisted_ans, Tab.eqF, Function.comp_apply, R1.frozenL, RV.frozenT, cutB_eqn, tgs_len]
      with_reducible refine dop_valW ?_ ?_
      · simp only [St.keysOf, Op.operands, List.flatMap_cons, List.flatMap_nil, SV.keys, V1.keys, At.keys, go_sem, *]
        try (simp [Option.toArray, SV.keys, V1.keys, At.keys, go_sem, *]; done)
        try rfl
      simp (maxDischargeDepth := 9) only [go_sem, Nat.reduceMul, Nat.reduceAdd, Nat.reduceLeDiff, Int.reduceSub, Int.reduceNeg, Int.reduceLT, Int.reduceLE, Int.reduceEq, *, rinitial_ans, rcoset_ans, rrise_ans, rlisted_ans, Tab.eqF, Function.comp_apply, R1.frozenL, RV.frozenT, cutB_eqn, tgs_len]
      with_reducible refine dop_valW ?_ ?_
      · simp only [St.keysOf, Op.operands, List.flatMap_cons, List.flatMap_nil, SV.keys, V1.keys, At.keys, go_sem, *]
        try (simp [Option.toArray, SV.keys, V1.keys, At.keys, go_sem, *]; done)
        try rfl
      simp (maxDischargeDepth := 9) only [go_sem, Nat.reduceMul, Nat.reduceAdd, Nat.reduceLeDiff, Int.reduceSub, Int.reduceNeg, Int.reduceLT, Int.reduceLE, Int.reduceEq, *, rinitial_ans, rcoset_ans, rrise_ans, rlisted_ans, Tab.eqF, Function.comp_apply, R1.frozenL, RV.frozenT, cutB_eqn, tgs_len]
      with_reducible refine dop_valW ?_ ?_
      · simp only [St.keysOf, Op.operands, List.flatMap_cons, List.flatMap_nil, SV.keys, V1.keys, At.keys, go_sem, *]
        try (simp [Option.toArray, SV.keys, V1.keys, At.keys, go_sem, *]; done)
        try rfl
      simp (maxDischargeDepth := 9) only [go_sem, Nat.reduceMul, Nat.reduceAdd, Nat.reduceLeDiff, Int.reduceSub, Int.reduceNeg, Int.reduceLT, Int.reduceLE, Int.reduceEq, *, rinitial_ans, rcoset_ans, rrise_ans, rlisted_ans, Tab.eqF, Function.comp_apply, R1.frozenL, RV.frozenT, cutB_eqn, tgs_len]
      with_reducible refine dop_eff (by kernel_rfl) rfl ?_
      simp (maxDischargeDepth := 9) only [go_sem, Nat.reduceMul, Nat.reduceAdd, Nat.reduceLeDiff, Int.reduceSub, Int.reduceNeg, Int.reduceLT, Int.reduceLE, Int.reduceEq, *, rinitial_ans, rcoset_ans, rrise_ans, rlisted_ans, Tab.eqF, Function.comp_apply, R1.frozenL, RV.frozenT, cutB_eqn, tgs_len, Tab.eff, List.isEmpty_nil, Option.isNone_none]
      first | (with_reducible refine dop_loud (by kernel_rfl) ?_; simp (maxDischargeDepth := 9) only [go_sem, Nat.reduceMul, Nat.reduceAdd, Nat.reduceLeDiff, Int.reduceSub, Int.reduceNeg, Int.reduceLT, Int.reduceLE, Int.reduceEq, *, rinitial_ans, rcoset_ans, rrise_ans, rlisted_ans, Tab.eqF, Function.comp_apply, R1.frozenL, RV.frozenT, cutB_eqn, tgs_len]) | (with_reducible refine dop_eff (by kernel_rfl) rfl ?_; simp (maxDischargeDepth := 9) only [go_sem, Nat.reduceMul, Nat.reduceAdd, Nat.reduceLeDiff, Int.reduceSub, Int.reduceNeg, Int.reduceLT, Int.reduceLE, Int.reduceEq, *, rinitial_ans, rcoset_ans, rrise_ans, rlisted_ans, Tab.eqF, Function.comp_apply, R1.frozenL, RV.frozenT, cutB_eqn, tgs_len, Tab.eff, List.isEmpty_nil, Option.isNone_none])
      try clear h3
      try clear h3f
      try clear h4a
      try clear h4c
      try clear h4b
      try clear hft
      try clear h5
      try clear hoc
      try clear hcz
      try clear h6
      try clear h7
      try clear h7f
      try clear hl3
      try clear hl4
      try clear hwl
      try clear hne
      try clear h2s
      refine gen_st (fun s0 hg hr hn0 => ?_)
      have e2 := hg 2
      have e3 := hg 3
      have e4 := hg 4
      have e8 := hg 8
      have e9 := hg 9
      have e10 := hg 10
      have e12 := hg 12
      have e13 := hg 13
      have q0 := hr 0
      have q1 := hr 1
      have q2 := hr 2
      have q3 := hr 3
      have q4 := hr 4
      have q5 := hr 5
      clear hg hr
      simp only [go_sem, *] at hn0 e2 e3 e4 e8 e9 e10 e12 e13 q0 q1 q2 q3 q4 q5
      refine nr (runs_forN (asL (fld ((asL (fld b 1)).getD i .N) 2)).length (poS n b (i : Int) (m : Int)) () 240 (fun k2 a => [(2, s0.get (.tmp 2)), (3, s0.get (.tmp 3)), (4, s0.get (.tmp 4)), (8, s0.get (.tmp 8)), (9, s0.get (.tmp 9)), (10, s0.get (.tmp 10)), (12, s0.get (.tmp 12)), (13, .v (.a (.int .i64 (k2 : Nat))))]) (fun k2 a => [(0, s0.row 0), (1, s0.row 1), (2, s0.row 2), (3, s0.row 3), (4, s0.row 4), (5, s0.row 5)]) (fun k2 a => True) (by omega) ?_ (trivial) ?_ ?_ ?_ ?_)
      · simp (maxDischargeDepth := 9) only [go_sem, Nat.reduceMul, Nat.reduceAdd, Nat.reduceLeDiff, Int.reduceSub, Int.reduceNeg, Int.reduceLT, Int.reduceLE, Int.reduceEq, *, rinitial_ans, rcoset_ans, rrise_ans, rlisted_ans, Tab.eqF, Function.comp_apply, R1.frozenL, RV.frozenT, cutB_eqn, tgs_len]
      · intro i a; simp (maxDischargeDepth := 9) only [go_sem, Nat.reduceMul, Nat.reduceAdd, Nat.reduceLeDiff, Int.reduceSub, Int.reduceNeg, Int.reduceLT, Int.reduceLE, Int.reduceEq, *, rinitial_ans, rcoset_ans, rrise_ans, rlisted_ans, Tab.eqF, Function.comp_apply, R1.frozenL, RV.frozenT, cutB_eqn, tgs_len]
      · intro i a; simp (maxDischargeDepth := 9) only [go_sem, Nat.reduceMul, Nat.reduceAdd, Nat.reduceLeDiff, Int.reduceSub, Int.reduceNeg, Int.reduceLT, Int.reduceLE, Int.reduceEq, *, rinitial_ans, rcoset_ans, rrise_ans, rlisted_ans, Tab.eqF, Function.comp_apply, R1.frozenL, RV.frozenT, cutB_eqn, tgs_len]
      · intro k2 a s hi hI hS
        clear hn0 e13
        simp only [go_sem] at hS
        obtain ⟨f2, f3, f4, f8, f9, f10, f12, f13, m0, m1, m2, m3, m4, m5, hn⟩ := hS
        have hw := wrap_succ hi (hlq)
        have hm0 : 0 ≤ (m : Int) + (k2 : Int) := by omega
        have hml : (k2 : Int) < 100001 := by omega
        have hwn : IntKind.i64.wrap ((m : Int) + (k2 : Int)) = (m : Int) + (k2 : Int) := Go.IntWalk.i64_in _ (by omega)
        have hkx : k2 < (asL (fld (el (asL (fld n 2)) (asI (fld ((asL (fld b 1)).getD i .N) 0))) 2)).length := by omega
        by_cases p1 : asI ((asL (fld ((asL (fld b 1)).getD i .N) 2)).getD k2 .N) = (m : Int) + (k2 : Int)
        case neg =>
          have hst := poS_1 (n := n) (a := a) p1
          refine rn ?_
          simp (maxDischargeDepth := 9) only [go_sem, Nat.reduceMul, Nat.reduceAdd, Nat.reduceLeDiff, Int.reduceSub, Int.reduceNeg, Int.reduceLT, Int.reduceLE, Int.reduceEq, *, rinitial_ans, rcoset_ans, rrise_ans, rlisted_ans, Tab.eqF, Function.comp_apply, R1.frozenL, RV.frozenT, cutB_eqn, tgs_len]
          repeat' (first | (with_reducible refine condLt (fun h h' => ?_) (fun h h' => ?_)) | (with_reducible refine condLe (fun h h' => ?_) (fun h h' => ?_)) | (with_reducible refine dop_val ?_) | (with_reducible refine YsLt (fun h h' => ?_) (fun h h' => ?_)) | (with_reducible refine YsLe (fun h h' => ?_) (fun h h' => ?_)) | (with_reducible refine condP (fun h => ?_) (fun h => ?_)) | (with_reducible refine condN (fun h => ?_) (fun h => ?_)) | (with_reducible refine condB (fun h => ?_) (fun h => ?_)) | (with_reducible refine condR (fun h => ?_) (fun h => ?_)) | (with_reducible refine YsB (fun h => ?_) (fun h => ?_)) | (with_reducible refine YsC (fun h => ?_) (fun h => ?_)) | (with_reducible refine Ys_ite (fun h => ?_) (fun h => ?_)) | (intro h) | (with_reducible refine draw_look (by kernel_rfl) (by kernel_rfl) ?_) | (simp (maxDischargeDepth := 9) only [go_sem, Nat.reduceMul, Nat.reduceAdd, Nat.reduceLeDiff, Int.reduceSub, Int.reduceNeg, Int.reduceLT, Int.reduceLE, Int.reduceEq, *, rinitial_ans, rcoset_ans, rrise_ans, rlisted_ans, Tab.eqF, Function.comp_apply, R1.frozenL, RV.frozenT, cutB_eqn, tgs_len]) | (exfalso; omega))
        by_cases p2 : ((asL (fld b 0)).length : Int) ≤ (m : Int) + (k2 : Int)
        case pos =>
          have hst := poS_2 (n := n) (a := a) p1 p2
          refine rn ?_
          simp (maxDischargeDepth := 9) only [go_sem, Nat.reduceMul, Nat.reduceAdd, Nat.reduceLeDiff, Int.reduceSub, Int.reduceNeg, Int.reduceLT, Int.reduceLE, Int.reduceEq, *, rinitial_ans, rcoset_ans, rrise_ans, rlisted_ans, Tab.eqF, Function.comp_apply, R1.frozenL, RV.frozenT, cutB_eqn, tgs_len]
          repeat' (first | (with_reducible refine condLt (fun h h' => ?_) (fun h h' => ?_)) | (with_reducible refine condLe (fun h h' => ?_) (fun h h' => ?_)) | (with_reducible refine dop_val ?_) | (with_reducible refine YsLt (fun h h' => ?_) (fun h h' => ?_)) | (with_reducible refine YsLe (fun h h' => ?_) (fun h h' => ?_)) | (with_reducible refine condP (fun h => ?_) (fun h => ?_)) | (with_reducible refine condN (fun h => ?_) (fun h => ?_)) | (with_reducible refine condB (fun h => ?_) (fun h => ?_)) | (with_reducible refine condR (fun h => ?_) (fun h => ?_)) | (with_reducible refine YsB (fun h => ?_) (fun h => ?_)) | (with_reducible refine YsC (fun h => ?_) (fun h => ?_)) | (with_reducible refine Ys_ite (fun h => ?_) (fun h => ?_)) | (intro h) | (with_reducible refine draw_look (by kernel_rfl) (by kernel_rfl) ?_) | (simp (maxDischargeDepth := 9) only [go_sem, Nat.reduceMul, Nat.reduceAdd, Nat.reduceLeDiff, Int.reduceSub, Int.reduceNeg, Int.reduceLT, Int.reduceLE, Int.reduceEq, *, rinitial_ans, rcoset_ans, rrise_ans, rlisted_ans, Tab.eqF, Function.comp_apply, R1.frozenL, RV.frozenT, cutB_eqn, tgs_len]) | (exfalso; omega))
        have p2b : (m : Int) + (k2 : Int) < ((asL (fld b 0)).length : Int) := by omega
        by_cases p3 : asI (fld (el (asL (fld b 0)) ((m : Int) + (k2 : Int))) 0) = asI (fld ((asL (fld (el (asL (fld n 2)) (asI (fld ((asL (fld b 1)).getD i .N) 0))) 2)).getD k2 .N) 0)
        case neg =>
          have hst := poS_3 (n := n) (a := a) p1 p2b hkx (fun h => p3 h.1)
          refine rn ?_
          simp (maxDischargeDepth := 9) only [go_sem, Nat.reduceMul, Nat.reduceAdd, Nat.reduceLeDiff, Int.reduceSub, Int.reduceNeg, Int.reduceLT, Int.reduceLE, Int.reduceEq, *, rinitial_ans, rcoset_ans, rrise_ans, rlisted_ans, Tab.eqF, Function.comp_apply, R1.frozenL, RV.frozenT, cutB_eqn, tgs_len]
          repeat' (first | (with_reducible refine condLt (fun h h' => ?_) (fun h h' => ?_)) | (with_reducible refine condLe (fun h h' => ?_) (fun h h' => ?_)) | (with_reducible refine dop_val ?_) | (with_reducible refine YsLt (fun h h' => ?_) (fun h h' => ?_)) | (with_reducible refine YsLe (fun h h' => ?_) (fun h h' => ?_)) | (with_reducible refine condP (fun h => ?_) (fun h => ?_)) | (with_reducible refine condN (fun h => ?_) (fun h => ?_)) | (with_reducible refine condB (fun h => ?_) (fun h => ?_)) | (with_reducible refine condR (fun h => ?_) (fun h => ?_)) | (with_reducible refine YsB (fun h => ?_) (fun h => ?_)) | (with_reducible refine YsC (fun h => ?_) (fun h => ?_)) | (with_reducible refine Ys_ite (fun h => ?_) (fun h => ?_)) | (intro h) | (with_reducible refine draw_look (by kernel_rfl) (by kernel_rfl) ?_) | (simp (maxDischargeDepth := 9) only [go_sem, Nat.reduceMul, Nat.reduceAdd, Nat.reduceLeDiff, Int.reduceSub, Int.reduceNeg, Int.reduceLT, Int.reduceLE, Int.reduceEq, *, rinitial_ans, rcoset_ans, rrise_ans, rlisted_ans, Tab.eqF, Function.comp_apply, R1.frozenL, RV.frozenT, cutB_eqn, tgs_len]) | (exfalso; omega))
        by_cases p4 : asI (fld (el (asL (fld b 0)) ((m : Int) + (k2 : Int))) 1) = (i : Int)
        case neg =>
          have hst := poS_3 (n := n) (a := a) p1 p2b hkx (fun h => p4 h.2)
          refine rn ?_
          simp (maxDischargeDepth := 9) only [go_sem, Nat.reduceMul, Nat.reduceAdd, Nat.reduceLeDiff, Int.reduceSub, Int.reduceNeg, Int.reduceLT, Int.reduceLE, Int.reduceEq, *, rinitial_ans, rcoset_ans, rrise_ans, rlisted_ans, Tab.eqF, Function.comp_apply, R1.frozenL, RV.frozenT, cutB_eqn, tgs_len]
          repeat' (first | (with_reducible refine condLt (fun h h' => ?_) (fun h h' => ?_)) | (with_reducible refine condLe (fun h h' => ?_) (fun h h' => ?_)) | (with_reducible refine dop_val ?_) | (with_reducible refine YsLt (fun h h' => ?_) (fun h h' => ?_)) | (with_reducible refine YsLe (fun h h' => ?_) (fun h h' => ?_)) | (with_reducible refine condP (fun h => ?_) (fun h => ?_)) | (with_reducible refine condN (fun h => ?_) (fun h => ?_)) | (with_reducible refine condB (fun h => ?_) (fun h => ?_)) | (with_reducible refine condR (fun h => ?_) (fun h => ?_)) | (with_reducible refine YsB (fun h => ?_) (fun h => ?_)) | (with_reducible refine YsC (fun h => ?_) (fun h => ?_)) | (with_reducible refine Ys_ite (fun h => ?_) (fun h => ?_)) | (intro h) | (with_reducible refine draw_look (by kernel_rfl) (by kernel_rfl) ?_) | (simp (maxDischargeDepth := 9) only [go_sem, Nat.reduceMul, Nat.reduceAdd, Nat.reduceLeDiff, Int.reduceSub, Int.reduceNeg, Int.reduceLT, Int.reduceLE, Int.reduceEq, *, rinitial_ans, rcoset_ans, rrise_ans, rlisted_ans, Tab.eqF, Function.comp_apply, R1.frozenL, RV.frozenT, cutB_eqn, tgs_len]) | (exfalso; omega))
        have hst := poS_5 (n := n) (a := a) p1 p2b hkx p3 p4
        refine rn ?_
        simp (maxDischargeDepth := 9) only [go_sem, Nat.reduceMul, Nat.reduceAdd, Nat.reduceLeDiff, Int.reduceSub, Int.reduceNeg, Int.reduceLT, Int.reduceLE, Int.reduceEq, *, rinitial_ans, rcoset_ans, rrise_ans, rlisted_ans, Tab.eqF, Function.comp_apply, R1.frozenL, RV.frozenT, cutB_eqn, tgs_len]
        repeat' (first | (with_reducible refine condLt (fun h h' => ?_) (fun h h' => ?_)) | (with_reducible refine condLe (fun h h' => ?_) (fun h h' => ?_)) | (with_reducible refine dop_val ?_) | (with_reducible refine YsLt (fun h h' => ?_) (fun h h' => ?_)) | (with_reducible refine YsLe (fun h h' => ?_) (fun h h' => ?_)) | (with_reducible refine condP (fun h => ?_) (fun h => ?_)) | (with_reducible refine condN (fun h => ?_) (fun h => ?_)) | (with_reducible refine condB (fun h => ?_) (fun h => ?_)) | (with_reducible refine condR (fun h => ?_) (fun h => ?_)) | (with_reducible refine YsB (fun h => ?_) (fun h => ?_)) | (with_reducible refine YsC (fun h => ?_) (fun h => ?_)) | (with_reducible refine Ys_ite (fun h => ?_) (fun h => ?_)) | (intro h) | (with_reducible refine draw_look (by kernel_rfl) (by kernel_rfl) ?_) | (simp (maxDischargeDepth := 9) only [go_sem, Nat.reduceMul, Nat.reduceAdd, Nat.reduceLeDiff, Int.reduceSub, Int.reduceNeg, Int.reduceLT, Int.reduceLE, Int.reduceEq, *, rinitial_ans, rcoset_ans, rrise_ans, rlisted_ans, Tab.eqF, Function.comp_apply, R1.frozenL, RV.frozenT, cutB_eqn, tgs_len]) | (exfalso; omega))
      · intro a s hI hf hS
        clear hn0 e13
        simp only [go_sem] at hS
        obtain ⟨f2, f3, f4, f8, f9, f10, f12, f13, m0, m1, m2, m3, m4, m5, hn⟩ := hS
        try simp only [go_sem] at hf
        have hmq2 := hmq (by rw [hceq, hf]; rfl)
        have hwm : IntKind.i64.wrap ((m : Int) + ((asL (fld ((asL (fld b 1)).getD i .N) 2)).length : Int)) = ((m + (asL (fld ((asL (fld b 1)).getD i .N) 2)).length : Nat) : Int) := by
          rw [Go.IntWalk.i64_in _ (by omega)]; omega
        refine rn ?_
        simp (maxDischargeDepth := 9) only [go_sem, Nat.reduceMul, Nat.reduceAdd, Nat.reduceLeDiff, Int.reduceSub, Int.reduceNeg, Int.reduceLT, Int.reduceLE, Int.reduceEq, *, rinitial_ans, rcoset_ans, rrise_ans, rlisted_ans, Tab.eqF, Function.comp_apply, R1.frozenL, RV.frozenT, cutB_eqn, tgs_len]
        repeat' (first | (with_reducible refine condLt (fun h h' => ?_) (fun h h' => ?_)) | (with_reducible refine condLe (fun h h' => ?_) (fun h h' => ?_)) | (with_reducible refine dop_val ?_) | (with_reducible refine YsLt (fun h h' => ?_) (fun h h' => ?_)) | (with_reducible refine YsLe (fun h h' => ?_) (fun h h' => ?_)) | (with_reducible refine condP (fun h => ?_) (fun h => ?_)) | (with_reducible refine condN (fun h => ?_) (fun h => ?_)) | (with_reducible refine condB (fun h => ?_) (fun h => ?_)) | (with_reducible refine condR (fun h => ?_) (fun h => ?_)) | (with_reducible refine YsB (fun h => ?_) (fun h => ?_)) | (with_reducible refine YsC (fun h => ?_) (fun h => ?_)) | (with_reducible refine Ys_ite (fun h => ?_) (fun h => ?_)) | (intro h) | (with_reducible refine draw_look (by kernel_rfl) (by kernel_rfl) ?_) | (simp (maxDischargeDepth := 9) only [go_sem, Nat.reduceMul, Nat.reduceAdd, Nat.reduceLeDiff, Int.reduceSub, Int.reduceNeg, Int.reduceLT, Int.reduceLE, Int.reduceEq, *, rinitial_ans, rcoset_ans, rrise_ans, rlisted_ans, Tab.eqF, Function.comp_apply, R1.frozenL, RV.frozenT, cutB_eqn, tgs_len]) | (exfalso; omega))
    · intro m s hI hf hS
      clear hn0 e9 e8
      simp only [go_sem] at hS
      obtain ⟨f2, f3, f4, f8, f9, m0, m1, m2, m3, hn⟩ := hS
      try simp only [go_sem] at hf
      refine rn ?_
      simp (maxDischargeDepth := 9) only [go_sem, Nat.reduceMul, Nat.reduceAdd, Nat.reduceLeDiff, Int.reduceSub, Int.reduceNeg, Int.reduceLT, Int.reduceLE, Int.reduceEq, *, rinitial_ans, rcoset_ans, rrise_ans, rlisted_ans, Tab.eqF, Function.comp_apply, R1.frozenL, RV.frozenT, cutB_eqn, tgs_len]
      repeat' (first | (with_reducible refine condLt (fun h h' => ?_) (fun h h' => ?_)) | (with_reducible refine condLe (fun h h' => ?_) (fun h h' => ?_)) | (with_reducible refine dop_val ?_) | (with_reducible refine YsLt (fun h h' => ?_) (fun h h' => ?_)) | (with_reducible refine YsLe (fun h h' => ?_) (fun h h' => ?_)) | (with_reducible refine condP (fun h => ?_) (fun h => ?_)) | (with_reducible refine condN (fun h => ?_) (fun h => ?_)) | (with_reducible refine condB (fun h => ?_) (fun h => ?_)) | (with_reducible refine condR (fun h => ?_) (fun h => ?_)) | (with_reducible refine YsB (fun h => ?_) (fun h => ?_)) | (with_reducible refine YsC (fun h => ?_) (fun h => ?_)) | (with_reducible refine Ys_ite (fun h => ?_) (fun h => ?_)) | (intro h) | (with_reducible refine draw_look (by kernel_rfl) (by kernel_rfl) ?_) | (simp (maxDischargeDepth := 9) only [go_sem, Nat.reduceMul, Nat.reduceAdd, Nat.reduceLeDiff, Int.reduceSub, Int.reduceNeg, Int.reduceLT, Int.reduceLE, Int.reduceEq, *, rinitial_ans, rcoset_ans, rrise_ans, rlisted_ans, Tab.eqF, Function.comp_apply, R1.frozenL, RV.frozenT, cutB_eqn, tgs_len]) | (exfalso; omega))
end Go.Proofs.Ytficdonjodadlaa
end
section
set_option linter.unusedSimpArgs false
set_option linter.unusedVariables false
set_option maxRecDepth 100000
set_option maxHeartbeats 4000000
namespace Go.Proofs.Ytficdonjodadlaa
open Go.Ev Go.Proofs
theorem checks_ans (ext : CallF) (k : Nat) (hN : ExN ext) (hE : ExC ext) (hU : ExU ext) (n b : IV) (hk : maxLen + (D0 + 80) ≤ k) (hnn : Ok n) (hb : Ok b) (hX : ∀ k, maxLen + (D0 + 70) ≤ k → ans (tab.run ext k) 12 [] 2 = some ([.one (.at (.bool true))], [4])) : ans (tab.run ext k) 3 [.iv 2 25 n, .iv 2 29 b] 5 = some ([.one (.at (.bool true))], [4]) := by
  obtain ⟨k, rfl⟩ : ∃ k', k = k' + 1 := ⟨k - 1, by omega⟩
  have hk1 : maxLen < k := by omega
  have hk0 : 0 < k := by omega
  have hk_0 : maxLen + (2) ≤ k := by omega
  have hk_1 : maxLen + (4) ≤ k := by omega
  refine fn_run (fx := fx3) (m := 51) 53 rfl rfl rfl rfl (fun st hn hg hr => ?_)
  have g0 : st.get (.tmp 0) = .v (.a (.iv 2 25 n)) := hg 0 (of_decide_eq_true rfl)
  have g1 : st.get (.tmp 1) = .v (.a (.iv 2 29 b)) := hg 1 (of_decide_eq_true rfl)
  have r0 := hr 0
  have r1 := hr 1
  have r2 := hr 2
  have r3 := hr 3
  have r4 := hr 4
  clear hg hr
  rw [co3]
  simp only [Try.f3, Option.getD_some]
  have hX12 := hX k (by omega)
  by_cases hs : smB n = true
  case neg =>
    have hsf : smB n = false := by simpa using hs
    have hsn := smN_f hsf
    simp (maxDischargeDepth := 9) only [go_sem, Nat.reduceMul, Nat.reduceAdd, Nat.reduceLeDiff, Int.reduceSub, Int.reduceNeg, Int.reduceLT, Int.reduceLE, Int.reduceEq, *, small_ans, large_ans, hX12, Tab.eqF, R1.frozenL, RV.frozenT, Function.comp_apply]
    repeat' (first | (with_reducible refine condLt (fun h h' => ?_) (fun h h' => ?_)) | (with_reducible refine condLe (fun h h' => ?_) (fun h h' => ?_)) | (with_reducible refine dop_val ?_) | (with_reducible refine YsLt (fun h h' => ?_) (fun h h' => ?_)) | (with_reducible refine YsLe (fun h h' => ?_) (fun h h' => ?_)) | (with_reducible refine condP (fun h => ?_) (fun h => ?_)) | (with_reducible refine condN (fun h => ?_) (fun h => ?_)) | (with_reducible refine condB (fun h => ?_) (fun h => ?_)) | (with_reducible refine condR (fun h => ?_) (fun h => ?_)) | (with_reducible refine YsB (fun h => ?_) (fun h => ?_)) | (with_reducible refine YsC (fun h => ?_) (fun h => ?_)) | (with_reducible refine Ys_ite (fun h => ?_) (fun h => ?_)) | (intro h) | (with_reducible refine draw_look (by kernel_rfl) (by kernel_rfl) ?_) | (simp (maxDischargeDepth := 9) only [go_sem, Nat.reduceMul, Nat.reduceAdd, Nat.reduceLeDiff, Int.reduceSub, Int.reduceNeg, Int.reduceLT, Int.reduceLE, Int.reduceEq, *, small_ans, large_ans, hX12, Tab.eqF, R1.frozenL, RV.frozenT, Function.comp_apply]) | (exfalso; omega))
  have hsn := smN_t hs
  by_cases hL : LG b = true
  case pos =>
    simp (maxDischargeDepth := 9) only [go_sem, Nat.reduceMul, Nat.reduceAdd, Nat.reduceLeDiff, Int.reduceSub, Int.reduceNeg, Int.reduceLT, Int.reduceLE, Int.reduceEq, *, small_ans, large_ans, hX12, Tab.eqF, R1.frozenL, RV.frozenT, Function.comp_apply]
    repeat' (first | (with_reducible refine condLt (fun h h' => ?_) (fun h h' => ?_)) | (with_reducible refine condLe (fun h h' => ?_) (fun h h' => ?_)) | (with_reducible refine dop_val ?_) | (with_reducible refine YsLt (fun h h' => ?_) (fun h h' => ?_)) | (with_reducible refine YsLe (fun h h' => ?_) (fun h h' => ?_)) | (with_reducible refine condP (fun h => ?_) (fun h => ?_)) | (with_reducible refine condN (fun h => ?_) (fun h => ?_)) | (with_reducible refine condB (fun h => ?_) (fun h => ?_)) | (with_reducible refine condR (fun h => ?_) (fun h => ?_)) | (with_reducible refine YsB (fun h => ?_) (fun h => ?_)) | (with_reducible refine YsC (fun h => ?_) (fun h => ?_)) | (with_reducible refine Ys_ite (fun h => ?_) (fun h => ?_)) | (intro h) | (with_reducible refine draw_look (by kernel_rfl) (by kernel_rfl) ?_) | (simp (maxDischargeDepth := 9) only [go_sem, Nat.reduceMul, Nat.reduceAdd, Nat.reduceLeDiff, Int.reduceSub, Int.reduceNeg, Int.reduceLT, Int.reduceLE, Int.reduceEq, *, small_ans, large_ans, hX12, Tab.eqF, R1.frozenL, RV.frozenT, Function.comp_apply]) | (exfalso; omega))
  have hLn : LG b = false := by simpa using hL
  have hz := LG_ev hLn
  have hzc := LG_co hLn
  have hpl := sm_pl hs
  have hD := D0_ge
  have hi1 := initial_ans ext k hN n 2 (by omega) hnn hpl
  have hi2 := rinitial_ans ext k n 2 (by omega) hnn hpl
  have hck := check_ans ext k hN hE hU n b 2 2 (by omega) hnn hb (by decide) hz (by omega) hpl (ng_of hs)
  have hrk := rcheckb_ans ext k n b (by omega) hnn hb hz (by omega) hpl (ng_of hs)
  have hs1 := rsame_ans ext k (.A [.L (fcs n), .N]) 2 2 (by omega) (ok_ini hpl) rfl
  have hs2 := rsame_ans ext k (.A [.N, .N]) 2 2 (by omega) ok_zero rfl
  by_cases hie : IE n = 0
  case pos =>
    have hib := ibR_ok hie
    rw [hib] at hi1 hi2
    clear hib
    simp (maxDischargeDepth := 9) only [go_sem, Nat.reduceMul, Nat.reduceAdd, Nat.reduceLeDiff, Int.reduceSub, Int.reduceNeg, Int.reduceLT, Int.reduceLE, Int.reduceEq, *, small_ans, large_ans, hX12, Tab.eqF, R1.frozenL, RV.frozenT, Function.comp_apply]
    with_reducible refine draw_look (by kernel_rfl) (by kernel_rfl) ?_
    simp (maxDischargeDepth := 9) only [go_sem, Nat.reduceMul, Nat.reduceAdd, Nat.reduceLeDiff, Int.reduceSub, Int.reduceNeg, Int.reduceLT, Int.reduceLE, Int.reduceEq, *, small_ans, large_ans, hX12, Tab.eqF, R1.frozenL, RV.frozenT, Function.comp_apply]
    with_reducible refine dop_val ?_
    simp (maxDischargeDepth := 9) only [go_sem, Nat.reduceMul, Nat.reduceAdd, Nat.reduceLeDiff, Int.reduceSub, Int.reduceNeg, Int.reduceLT, Int.reduceLE, Int.reduceEq, *, small_ans, large_ans, hX12, Tab.eqF, R1.frozenL, RV.frozenT, Function.comp_apply]
    with_reducible refine dop_val ?_
    simp (maxDischargeDepth := 9) only [go_sem, Nat.reduceMul, Nat.reduceAdd, Nat.reduceLeDiff, Int.reduceSub, Int.reduceNeg, Int.reduceLT, Int.reduceLE, Int.reduceEq, *, small_ans, large_ans, hX12, Tab.eqF, R1.frozenL, RV.frozenT, Function.comp_apply]
    with_reducible refine dop_val ?_
    simp (maxDischargeDepth := 9) only [go_sem, Nat.reduceMul, Nat.reduceAdd, Nat.reduceLeDiff, Int.reduceSub, Int.reduceNeg, Int.reduceLT, Int.reduceLE, Int.reduceEq, *, small_ans, large_ans, hX12, Tab.eqF, R1.frozenL, RV.frozenT, Function.comp_apply]
    with_reducible refine dop_val ?_
    simp (maxDischargeDepth := 9) only [go_sem, Nat.reduceMul, Nat.reduceAdd, Nat.reduceLeDiff, Int.reduceSub, Int.reduceNeg, Int.reduceLT, Int.reduceLE, Int.reduceEq, *, small_ans, large_ans, hX12, Tab.eqF, R1.frozenL, RV.frozenT, Function.comp_apply]
    with_reducible refine dop_val ?_
    simp (maxDischargeDepth := 9) only [go_sem, Nat.reduceMul, Nat.reduceAdd, Nat.reduceLeDiff, Int.reduceSub, Int.reduceNeg, Int.reduceLT, Int.reduceLE, Int.reduceEq, *, small_ans, large_ans, hX12, Tab.eqF, R1.frozenL, RV.frozenT, Function.comp_apply]
    with_reducible refine dop_val ?_
    simp (maxDischargeDepth := 9) only [go_sem, Nat.reduceMul, Nat.reduceAdd, Nat.reduceLeDiff, Int.reduceSub, Int.reduceNeg, Int.reduceLT, Int.reduceLE, Int.reduceEq, *, small_ans, large_ans, hX12, Tab.eqF, R1.frozenL, RV.frozenT, Function.comp_apply]
    with_reducible refine dop_val ?_
    simp (maxDischargeDepth := 9) only [go_sem, Nat.reduceMul, Nat.reduceAdd, Nat.reduceLeDiff, Int.reduceSub, Int.reduceNeg, Int.reduceLT, Int.reduceLE, Int.reduceEq, *, small_ans, large_ans, hX12, Tab.eqF, R1.frozenL, RV.frozenT, Function.comp_apply]
    with_reducible refine dop_val ?_
    simp (maxDischargeDepth := 9) only [go_sem, Nat.reduceMul, Nat.reduceAdd, Nat.reduceLeDiff, Int.reduceSub, Int.reduceNeg, Int.reduceLT, Int.reduceLE, Int.reduceEq, *, small_ans, large_ans, hX12, Tab.eqF, R1.frozenL, RV.frozenT, Function.comp_apply]
    with_reducible refine dop_val ?_
    simp (maxDischargeDepth := 9) only [go_sem, Nat.reduceMul, Nat.reduceAdd, Nat.reduceLeDiff, Int.reduceSub, Int.reduceNeg, Int.reduceLT, Int.reduceLE, Int.reduceEq, *, small_ans, large_ans, hX12, Tab.eqF, R1.frozenL, RV.frozenT, Function.comp_apply]
    with_reducible refine dop_val ?_
    simp (maxDischargeDepth := 9) only [go_sem, Nat.reduceMul, Nat.reduceAdd, Nat.reduceLeDiff, Int.reduceSub, Int.reduceNeg, Int.reduceLT, Int.reduceLE, Int.reduceEq, *, small_ans, large_ans, hX12, Tab.eqF, R1.frozenL, RV.frozenT, Function.comp_apply]
    with_reducible refine dop_val ?_
    simp (maxDischargeDepth := 9) only [go_sem, Nat.reduceMul, Nat.reduceAdd, Nat.reduceLeDiff, Int.reduceSub, Int.reduceNeg, Int.reduceLT, Int.reduceLE, Int.reduceEq, *, small_ans, large_ans, hX12, Tab.eqF, R1.frozenL, RV.frozenT, Function.comp_apply]
    with_reducible refine dop_val ?_
    simp (maxDischargeDepth := 9) only [go_sem, Nat.reduceMul, Nat.reduceAdd, Nat.reduceLeDiff, Int.reduceSub, Int.reduceNeg, Int.reduceLT, Int.reduceLE, Int.reduceEq, *, small_ans, large_ans, hX12, Tab.eqF, R1.frozenL, RV.frozenT, Function.comp_apply]
    with_reducible refine dop_val ?_
    simp (maxDischargeDepth := 9) only [go_sem, Nat.reduceMul, Nat.reduceAdd, Nat.reduceLeDiff, Int.reduceSub, Int.reduceNeg, Int.reduceLT, Int.reduceLE, Int.reduceEq, *, small_ans, large_ans, hX12, Tab.eqF, R1.frozenL, RV.frozenT, Function.comp_apply]
    with_reducible refine dop_val ?_
    simp (maxDischargeDepth := 9) only [go_sem, Nat.reduceMul, Nat.reduceAdd, Nat.reduceLeDiff, Int.reduceSub, Int.reduceNeg, Int.reduceLT, Int.reduceLE, Int.reduceEq, *, small_ans, large_ans, hX12, Tab.eqF, R1.frozenL, RV.frozenT, Function.comp_apply]
    with_reducible refine dop_val ?_
    simp (maxDischargeDepth := 9) only [go_sem, Nat.reduceMul, Nat.reduceAdd, Nat.reduceLeDiff, Int.reduceSub, Int.reduceNeg, Int.reduceLT, Int.reduceLE, Int.reduceEq, *, small_ans, large_ans, hX12, Tab.eqF, R1.frozenL, RV.frozenT, Function.comp_apply]
    with_reducible refine dop_val ?_
    simp (maxDischargeDepth := 9) only [go_sem, Nat.reduceMul, Nat.reduceAdd, Nat.reduceLeDiff, Int.reduceSub, Int.reduceNeg, Int.reduceLT, Int.reduceLE, Int.reduceEq, *, small_ans, large_ans, hX12, Tab.eqF, R1.frozenL, RV.frozenT, Function.comp_apply]
    with_reducible refine dop_val ?_
    simp (maxDischargeDepth := 9) only [go_sem, Nat.reduceMul, Nat.reduceAdd, Nat.reduceLeDiff, Int.reduceSub, Int.reduceNeg, Int.reduceLT, Int.reduceLE, Int.reduceEq, *, small_ans, large_ans, hX12, Tab.eqF, R1.frozenL, RV.frozenT, Function.comp_apply]
    with_reducible refine dop_val ?_
    simp (maxDischargeDepth := 9) only [go_sem, Nat.reduceMul, Nat.reduceAdd, Nat.reduceLeDiff, Int.reduceSub, Int.reduceNeg, Int.reduceLT, Int.reduceLE, Int.reduceEq, *, small_ans, large_ans, hX12, Tab.eqF, R1.frozenL, RV.frozenT, Function.comp_apply]
    with_reducible refine dop_val ?_
    simp (maxDischargeDepth := 9) only [go_sem, Nat.reduceMul, Nat.reduceAdd, Nat.reduceLeDiff, Int.reduceSub, Int.reduceNeg, Int.reduceLT, Int.reduceLE, Int.reduceEq, *, small_ans, large_ans, hX12, Tab.eqF, R1.frozenL, RV.frozenT, Function.comp_apply]
    with_reducible refine dop_val ?_
    simp (maxDischargeDepth := 9) only [go_sem, Nat.reduceMul, Nat.reduceAdd, Nat.reduceLeDiff, Int.reduceSub, Int.reduceNeg, Int.reduceLT, Int.reduceLE, Int.reduceEq, *, small_ans, large_ans, hX12, Tab.eqF, R1.frozenL, RV.frozenT, Function.comp_apply]
    first | (with_reducible refine dop_val ?_; simp (maxDischargeDepth := 9) only [go_sem, Nat.reduceMul, Nat.reduceAdd, Nat.reduceLeDiff, Int.reduceSub, Int.reduceNeg, Int.reduceLT, Int.reduceLE, Int.reduceEq, *, small_ans, large_ans, hX12, Tab.eqF, R1.frozenL, RV.frozenT, Function.comp_apply]) | (with_reducible refine dop_loud (by kernel_rfl) ?_; simp (maxDischargeDepth := 9) only [go_sem, Nat.reduceMul, Nat.reduceAdd, Nat.reduceLeDiff, Int.reduceSub, Int.reduceNeg, Int.reduceLT, Int.reduceLE, Int.reduceEq, *, small_ans, large_ans, hX12, Tab.eqF, R1.frozenL, RV.frozenT, Function.comp_apply])
  have hib := ibR_no hie
  rw [hib] at hi1 hi2
  clear hib
  simp (maxDischargeDepth := 9) only [go_sem, Nat.reduceMul, Nat.reduceAdd, Nat.reduceLeDiff, Int.reduceSub, Int.reduceNeg, Int.reduceLT, Int.reduceLE, Int.reduceEq, *, small_ans, large_ans, hX12, Tab.eqF, R1.frozenL, RV.frozenT, Function.comp_apply]
  with_reducible refine draw_look (by kernel_rfl) (by kernel_rfl) ?_
  simp (maxDischargeDepth := 9) only [go_sem, Nat.reduceMul, Nat.reduceAdd, Nat.reduceLeDiff, Int.reduceSub, Int.reduceNeg, Int.reduceLT, Int.reduceLE, Int.reduceEq, *, small_ans, large_ans, hX12, Tab.eqF, R1.frozenL, RV.frozenT, Function.comp_apply]
  with_reducible refine dop_val ?_
  simp (maxDischargeDepth := 9) only [go_sem, Nat.reduceMul, Nat.reduceAdd, Nat.reduceLeDiff, Int.reduceSub, Int.reduceNeg, Int.reduceLT, Int.reduceLE, Int.reduceEq, *, small_ans, large_ans, hX12, Tab.eqF, R1.frozenL, RV.frozenT, Function.comp_apply]
  with_reducible refine dop_val ?_
  simp (maxDischargeDepth := 9) only [go_sem, Nat.reduceMul, Nat.reduceAdd, Nat.reduceLeDiff, Int.reduceSub, Int.reduceNeg, Int.reduceLT, Int.reduceLE, Int.reduceEq, *, small_ans, large_ans, hX12, Tab.eqF, R1.frozenL, RV.frozenT, Function.comp_apply]
  with_reducible refine dop_val ?_
  simp (maxDischargeDepth := 9) only [go_sem, Nat.reduceMul, Nat.reduceAdd, Nat.reduceLeDiff, Int.reduceSub, Int.reduceNeg, Int.reduceLT, Int.reduceLE, Int.reduceEq, *, small_ans, large_ans, hX12, Tab.eqF, R1.frozenL, RV.frozenT, Function.comp_apply]
  with_reducible refine dop_val ?_
  simp (maxDischargeDepth := 9) only [go_sem, Nat.reduceMul, Nat.reduceAdd, Nat.reduceLeDiff, Int.reduceSub, Int.reduceNeg, Int.reduceLT, Int.reduceLE, Int.reduceEq, *, small_ans, large_ans, hX12, Tab.eqF, R1.frozenL, RV.frozenT, Function.comp_apply]
  with_reducible refine dop_val ?_
  simp (maxDischargeDepth := 9) only [go_sem, Nat.reduceMul, Nat.reduceAdd, Nat.reduceLeDiff, Int.reduceSub, Int.reduceNeg, Int.reduceLT, Int.reduceLE, Int.reduceEq, *, small_ans, large_ans, hX12, Tab.eqF, R1.frozenL, RV.frozenT, Function.comp_apply]
  with_reducible refine dop_val ?_
  simp (maxDischargeDepth := 9) only [go_sem, Nat.reduceMul, Nat.reduceAdd, Nat.reduceLeDiff, Int.reduceSub, Int.reduceNeg, Int.reduceLT, Int.reduceLE, Int.reduceEq, *, small_ans, large_ans, hX12, Tab.eqF, R1.frozenL, RV.frozenT, Function.comp_apply]
  with_reducible refine dop_val ?_
  simp (maxDischargeDepth := 9) only [go_sem, Nat.reduceMul, Nat.reduceAdd, Nat.reduceLeDiff, Int.reduceSub, Int.reduceNeg, Int.reduceLT, Int.reduceLE, Int.reduceEq, *, small_ans, large_ans, hX12, Tab.eqF, R1.frozenL, RV.frozenT, Function.comp_apply]
  with_reducible refine dop_val ?_
  simp (maxDischargeDepth := 9) only [go_sem, Nat.reduceMul, Nat.reduceAdd, Nat.reduceLeDiff, Int.reduceSub, Int.reduceNeg, Int.reduceLT, Int.reduceLE, Int.reduceEq, *, small_ans, large_ans, hX12, Tab.eqF, R1.frozenL, RV.frozenT, Function.comp_apply]
  with_reducible refine dop_val ?_
  simp (maxDischargeDepth := 9) only [go_sem, Nat.reduceMul, Nat.reduceAdd, Nat.reduceLeDiff, Int.reduceSub, Int.reduceNeg, Int.reduceLT, Int.reduceLE, Int.reduceEq, *, small_ans, large_ans, hX12, Tab.eqF, R1.frozenL, RV.frozenT, Function.comp_apply]
  with_reducible refine dop_val ?_
  simp (maxDischargeDepth := 9) only [go_sem, Nat.reduceMul, Nat.reduceAdd, Nat.reduceLeDiff, Int.reduceSub, Int.reduceNeg, Int.reduceLT, Int.reduceLE, Int.reduceEq, *, small_ans, large_ans, hX12, Tab.eqF, R1.frozenL, RV.frozenT, Function.comp_apply]
  with_reducible refine dop_val ?_
  simp (maxDischargeDepth := 9) only [go_sem, Nat.reduceMul, Nat.reduceAdd, Nat.reduceLeDiff, Int.reduceSub, Int.reduceNeg, Int.reduceLT, Int.reduceLE, Int.reduceEq, *, small_ans, large_ans, hX12, Tab.eqF, R1.frozenL, RV.frozenT, Function.comp_apply]
  with_reducible refine dop_val ?_
  simp (maxDischargeDepth := 9) only [go_sem, Nat.reduceMul, Nat.reduceAdd, Nat.reduceLeDiff, Int.reduceSub, Int.reduceNeg, Int.reduceLT, Int.reduceLE, Int.reduceEq, *, small_ans, large_ans, hX12, Tab.eqF, R1.frozenL, RV.frozenT, Function.comp_apply]
  with_reducible refine dop_val ?_
  simp (maxDischargeDepth := 9) only [go_sem, Nat.reduceMul, Nat.reduceAdd, Nat.reduceLeDiff, Int.reduceSub, Int.reduceNeg, Int.reduceLT, Int.reduceLE, Int.reduceEq, *, small_ans, large_ans, hX12, Tab.eqF, R1.frozenL, RV.frozenT, Function.comp_apply]
  with_reducible refine dop_val ?_
  simp (maxDischargeDepth := 9) only [go_sem, Nat.reduceMul, Nat.reduceAdd, Nat.reduceLeDiff, Int.reduceSub, Int.reduceNeg, Int.reduceLT, Int.reduceLE, Int.reduceEq, *, small_ans, large_ans, hX12, Tab.eqF, R1.frozenL, RV.frozenT, Function.comp_apply]
  with_reducible refine dop_val ?_
  simp (maxDischargeDepth := 9) only [go_sem, Nat.reduceMul, Nat.reduceAdd, Nat.reduceLeDiff, Int.reduceSub, Int.reduceNeg, Int.reduceLT, Int.reduceLE, Int.reduceEq, *, small_ans, large_ans, hX12, Tab.eqF, R1.frozenL, RV.frozenT, Function.comp_apply]
  with_reducible refine dop_val ?_
  simp (maxDischargeDepth := 9) only [go_sem, Nat.reduceMul, Nat.reduceAdd, Nat.reduceLeDiff, Int.reduceSub, Int.reduceNeg, Int.reduceLT, Int.reduceLE, Int.reduceEq, *, small_ans, large_ans, hX12, Tab.eqF, R1.frozenL, RV.frozenT, Function.comp_apply]
  with_reducible refine dop_val ?_
  simp (maxDischargeDepth := 9) only [go_sem, Nat.reduceMul, Nat.reduceAdd, Nat.reduceLeDiff, Int.reduceSub, Int.reduceNeg, Int.reduceLT, Int.reduceLE, Int.reduceEq, *, small_ans, large_ans, hX12, Tab.eqF, R1.frozenL, RV.frozenT, Function.comp_apply]
  with_reducible refine dop_val ?_
  simp (maxDischargeDepth := 9) only [go_sem, Nat.reduceMul, Nat.reduceAdd, Nat.reduceLeDiff, Int.reduceSub, Int.reduceNeg, Int.reduceLT, Int.reduceLE, Int.reduceEq, *, small_ans, large_ans, hX12, Tab.eqF, R1.frozenL, RV.frozenT, Function.comp_apply]
  with_reducible refine dop_val ?_
  simp (maxDischargeDepth := 9) only [go_sem, Nat.reduceMul, Nat.reduceAdd, Nat.reduceLeDiff, Int.reduceSub, Int.reduceNeg, Int.reduceLT, Int.reduceLE, Int.reduceEq, *, small_ans, large_ans, hX12, Tab.eqF, R1.frozenL, RV.frozenT, Function.comp_apply]
  with_reducible refine dop_val ?_
  simp (maxDischargeDepth := 9) only [go_sem, Nat.reduceMul, Nat.reduceAdd, Nat.reduceLeDiff, Int.reduceSub, Int.reduceNeg, Int.reduceLT, Int.reduceLE, Int.reduceEq, *, small_ans, large_ans, hX12, Tab.eqF, R1.frozenL, RV.frozenT, Function.comp_apply]
  first | (with_reducible refine dop_val ?_; simp (maxDischargeDepth := 9) only [go_sem, Nat.reduceMul, Nat.reduceAdd, Nat.reduceLeDiff, Int.reduceSub, Int.reduceNeg, Int.reduceLT, Int.reduceLE, Int.reduceEq, *, small_ans, large_ans, hX12, Tab.eqF, R1.frozenL, RV.frozenT, Function.comp_apply]) | (with_reducible refine dop_loud (by kernel_rfl) ?_; simp (maxDischargeDepth := 9) only [go_sem, Nat.reduceMul, Nat.reduceAdd, Nat.reduceLeDiff, Int.reduceSub, Int.reduceNeg, Int.reduceLT, Int.reduceLE, Int.reduceEq, *, small_ans, large_ans, hX12, Tab.eqF, R1.frozenL, RV.frozenT, Function.comp_apply])
end Go.Proofs.Ytficdonjodadlaa
end
