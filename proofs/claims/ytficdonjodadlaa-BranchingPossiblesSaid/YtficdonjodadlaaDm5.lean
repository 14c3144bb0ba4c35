/- Part 5 of a proof: Dm. Words and walks that a program printed for this claim stand here without what the claim does not use. -/
import Derived.Test.YtficdonjodadlaaDm3
import Derived.Test.YtficdonjodadlaaDm4
set_option linter.unusedSimpArgs false
set_option linter.unusedVariables false
section
set_option linter.unusedSimpArgs false
set_option linter.unusedVariables false
set_option maxRecDepth 100000
set_option maxHeartbeats 4000000
namespace Go.Proofs.Ytficdonjodadlaa
open Go.Ev Go.Proofs
theorem AU_rcoset {p : Prop} (h : p := by
  repeat' (first | (with_reducible refine condLt (fun h h' => ?_) (fun h h' => ?_)) | (with_reducible refine condLe (fun h h' => ?_) (fun h h' => ?_)) | (with_reducible refine dop_val ?_) | (with_reducible refine YsLt (fun h h' => ?_) (fun h h' => ?_)) | (with_reducible refine YsLe (fun h h' => ?_) (fun h h' => ?_)) | (with_reducible refine condP (fun h => ?_) (fun h => ?_)) | (with_reducible refine condN (fun h => ?_) (fun h => ?_)) | (with_reducible refine condB (fun h => ?_) (fun h => ?_)) | (with_reducible refine condR (fun h => ?_) (fun h => ?_)) | (with_reducible refine YsB (fun h => ?_) (fun h => ?_)) | (with_reducible refine YsC (fun h => ?_) (fun h => ?_)) | (with_reducible refine Ys_ite (fun h => ?_) (fun h => ?_)) | (intro h) | (with_reducible refine draw_look (by kernel_rfl) (by kernel_rfl) ?_) | (simp (maxDischargeDepth := 9) only [go_sem, Nat.reduceMul, Nat.reduceAdd, Nat.reduceLeDiff, Int.reduceSub, Int.reduceNeg, Int.reduceLT, Int.reduceLE, Int.reduceEq, *, rfounded_ans, together_ans]) | (exfalso; omega))) : p := h
theorem rcoset_ans (ext : CallF) (k : Nat) (b l : IV) (p q : Nat) (hk : maxLen + (14) ≤ k) (hb : Ok b) (hv : Ok l) (hz : (asL (fld b 1)).length ≤ 1000000) : ans (tab.run ext k) 27 [.iv p 29 b, .iv q 46 l] 1 = some ([.one (.at (.bool (CS b l)))], [4]) := by
  obtain ⟨k, rfl⟩ : ∃ k', k = k' + 1 := ⟨k - 1, by omega⟩
  have hk1 : maxLen < k := by omega
  have hk0 : 0 < k := by omega
  have hk_0 : maxLen + (10) ≤ k := by omega
  have hk_1 : maxLen + (2) ≤ k := by omega
  refine fn_run (fx := fx27) (m := 52) 54 rfl rfl rfl rfl (fun st hn hg hr => ?_)
  have g0 : st.get (.tmp 0) = .v (.a (.iv p 29 b)) := hg 0 (of_decide_eq_true rfl)
  have g1 : st.get (.tmp 1) = .v (.a (.iv q 46 l)) := hg 1 (of_decide_eq_true rfl)
  have r0 := hr 0
  clear hg hr
  rw [co27]
  simp only [Try.f27, Option.getD_some]
  unfold CS
  have hl := ok_len hv
  by_cases hfd : FD b = true
  case neg =>
    have hfdn : FD b = false := by simpa using hfd
    simp (maxDischargeDepth := 9) only [go_sem, Nat.reduceMul, Nat.reduceAdd, Nat.reduceLeDiff, Int.reduceSub, Int.reduceNeg, Int.reduceLT, Int.reduceLE, Int.reduceEq, *, rfounded_ans, together_ans]
  simp (maxDischargeDepth := 9) only [go_sem, Nat.reduceMul, Nat.reduceAdd, Nat.reduceLeDiff, Int.reduceSub, Int.reduceNeg, Int.reduceLT, Int.reduceLE, Int.reduceEq, *, rfounded_ans, together_ans]
  refine gen_st (fun s0 hg hr hn0 => ?_)
  have e1 := hg 1
  have e2 := hg 2
  have e5 := hg 5
  have q0 := hr 0
  clear hg hr
  simp only [go_sem, *] at hn0 e1 e2 e5 q0
  refine nr (runs_for (asL l) (fun (_ : Unit) x => if asI x < 0 ∨ ((asL (fld b 0)).length : Int) ≤ asI x then .ret false else .next ()) () 54 (fun i a => [(1, s0.get (.tmp 1)), (2, s0.get (.tmp 2)), (5, .v (.a (.int .i64 i)))]) (fun i a => [(0, s0.row 0)]) (fun i a => True) (by omega) ?_ (trivial) ?_ ?_ ?_ ?_)
  · simp (maxDischargeDepth := 9) only [go_sem, Nat.reduceMul, Nat.reduceAdd, Nat.reduceLeDiff, Int.reduceSub, Int.reduceNeg, Int.reduceLT, Int.reduceLE, Int.reduceEq, *, rfounded_ans, together_ans]
  · intro i a; simp (maxDischargeDepth := 9) only [go_sem, Nat.reduceMul, Nat.reduceAdd, Nat.reduceLeDiff, Int.reduceSub, Int.reduceNeg, Int.reduceLT, Int.reduceLE, Int.reduceEq, *, rfounded_ans, together_ans]
  · intro i a; simp (maxDischargeDepth := 9) only [go_sem, Nat.reduceMul, Nat.reduceAdd, Nat.reduceLeDiff, Int.reduceSub, Int.reduceNeg, Int.reduceLT, Int.reduceLE, Int.reduceEq, *, rfounded_ans, together_ans]
  · intro i x a s hx hi hI hS
    clear hn0 e5
    simp only [go_sem] at hS
    obtain ⟨f1, f2, f5, m0, hn⟩ := hS
    have hw := wrap_succ hi (hl)
    refine rn ?_
    simp (maxDischargeDepth := 9) only [go_sem, Nat.reduceMul, Nat.reduceAdd, Nat.reduceLeDiff, Int.reduceSub, Int.reduceNeg, Int.reduceLT, Int.reduceLE, Int.reduceEq, *, rfounded_ans, together_ans]
    all_goals exact AU_rcoset
  · intro a s hI hf hS
    clear hn0 e5
    simp only [go_sem] at hS
    obtain ⟨f1, f2, f5, m0, hn⟩ := hS
    try simp only [go_sem] at hf
    refine rn ?_
    simp (maxDischargeDepth := 9) only [go_sem, Nat.reduceMul, Nat.reduceAdd, Nat.reduceLeDiff, Int.reduceSub, Int.reduceNeg, Int.reduceLT, Int.reduceLE, Int.reduceEq, *, rfounded_ans, together_ans]
    refine gen_st (fun s0 hg hr hn0 => ?_)
    have e1 := hg 1
    have e2 := hg 2
    have e6 := hg 6
    have q0 := hr 0
    clear hg hr
    simp only [go_sem, *] at hn0 e1 e2 e6 q0
    refine nr (runs_forN (asL l).length (fun (_ : Unit) i => if ((List.range i).any fun k => !TG b (asI ((asL l).getD i .N)) (asI ((asL l).getD k .N))) = true then .ret false else .next ()) () 54 (fun i a => [(1, s0.get (.tmp 1)), (2, s0.get (.tmp 2)), (6, .v (.a (.int .i64 i)))]) (fun i a => [(0, s0.row 0)]) (fun i a => True) (by omega) ?_ (trivial) ?_ ?_ ?_ ?_)
    · simp (maxDischargeDepth := 9) only [go_sem, Nat.reduceMul, Nat.reduceAdd, Nat.reduceLeDiff, Int.reduceSub, Int.reduceNeg, Int.reduceLT, Int.reduceLE, Int.reduceEq, *, rfounded_ans, together_ans]
    · intro i a; simp (maxDischargeDepth := 9) only [go_sem, Nat.reduceMul, Nat.reduceAdd, Nat.reduceLeDiff, Int.reduceSub, Int.reduceNeg, Int.reduceLT, Int.reduceLE, Int.reduceEq, *, rfounded_ans, together_ans]
    · intro i a; simp (maxDischargeDepth := 9) only [go_sem, Nat.reduceMul, Nat.reduceAdd, Nat.reduceLeDiff, Int.reduceSub, Int.reduceNeg, Int.reduceLT, Int.reduceLE, Int.reduceEq, *, rfounded_ans, together_ans]
    · intro i a s hi hI hS
      clear hn0 e6
      simp only [go_sem] at hS
      obtain ⟨f1, f2, f6, m0, hn⟩ := hS
      have hw := wrap_succ hi (hl)
      have hio := hi
      have hil : i ≤ (asL l).length := by omega
      obtain ⟨hx0, hx1⟩ := any_in hf (i := i) hi
      refine rn ?_
      simp (maxDischargeDepth := 9) only [go_sem, Nat.reduceMul, Nat.reduceAdd, Nat.reduceLeDiff, Int.reduceSub, Int.reduceNeg, Int.reduceLT, Int.reduceLE, Int.reduceEq, *, rfounded_ans, together_ans]
      refine gen_st (fun s0 hg hr hn0 => ?_)
      have e1 := hg 1
      have e2 := hg 2
      have e6 := hg 6
      have e32 := hg 32
      have e33 := hg 33
      have e34 := hg 34
      have e35 := hg 35
      have e7 := hg 7
      have q0 := hr 0
      clear hg hr
      simp only [go_sem, *] at hn0 e1 e2 e6 e32 e33 e34 e35 e7 q0
      refine nr (runs_forN i (fun (_ : Unit) k2 => if TG b (asI ((asL l).getD i .N)) (asI ((asL l).getD k2 .N)) = true then .next () else .ret false) () 54 (fun k2 a => [(1, s0.get (.tmp 1)), (2, s0.get (.tmp 2)), (6, s0.get (.tmp 6)), (32, s0.get (.tmp 32)), (33, s0.get (.tmp 33)), (34, s0.get (.tmp 34)), (35, s0.get (.tmp 35)), (7, .v (.a (.int .i64 (k2 : Nat))))]) (fun k2 a => [(0, s0.row 0)]) (fun k2 a => True) (by omega) ?_ (trivial) ?_ ?_ ?_ ?_)
      · simp (maxDischargeDepth := 9) only [go_sem, Nat.reduceMul, Nat.reduceAdd, Nat.reduceLeDiff, Int.reduceSub, Int.reduceNeg, Int.reduceLT, Int.reduceLE, Int.reduceEq, *, rfounded_ans, together_ans]
      · intro i a; simp (maxDischargeDepth := 9) only [go_sem, Nat.reduceMul, Nat.reduceAdd, Nat.reduceLeDiff, Int.reduceSub, Int.reduceNeg, Int.reduceLT, Int.reduceLE, Int.reduceEq, *, rfounded_ans, together_ans]
      · intro i a; simp (maxDischargeDepth := 9) only [go_sem, Nat.reduceMul, Nat.reduceAdd, Nat.reduceLeDiff, Int.reduceSub, Int.reduceNeg, Int.reduceLT, Int.reduceLE, Int.reduceEq, *, rfounded_ans, together_ans]
      · intro k2 a s hi hI hS
        clear hn0 e7
        simp only [go_sem] at hS
        obtain ⟨f1, f2, f6, f32, f33, f34, f35, f7, m0, hn⟩ := hS
        have hw := wrap_succ hi (by omega)
        have hk2 : k2 < (asL l).length := by omega
        obtain ⟨hy0, hy1⟩ := any_in hf (i := k2) hk2
        refine rn ?_
        simp (maxDischargeDepth := 9) only [go_sem, Nat.reduceMul, Nat.reduceAdd, Nat.reduceLeDiff, Int.reduceSub, Int.reduceNeg, Int.reduceLT, Int.reduceLE, Int.reduceEq, *, rfounded_ans, together_ans]
        all_goals exact AU_rcoset
      · intro a s hI hf hS
        clear hn0 e7
        simp only [go_sem] at hS
        obtain ⟨f1, f2, f6, f32, f33, f34, f35, f7, m0, hn⟩ := hS
        try simp only [go_sem] at hf
        refine rn ?_
        simp (maxDischargeDepth := 9) only [go_sem, Nat.reduceMul, Nat.reduceAdd, Nat.reduceLeDiff, Int.reduceSub, Int.reduceNeg, Int.reduceLT, Int.reduceLE, Int.reduceEq, *, rfounded_ans, together_ans]
        all_goals exact AU_rcoset
    · intro a s hI hf hS
      clear hn0 e6
      simp only [go_sem] at hS
      obtain ⟨f1, f2, f6, m0, hn⟩ := hS
      try simp only [go_sem] at hf
      refine rn ?_
      simp (maxDischargeDepth := 9) only [go_sem, Nat.reduceMul, Nat.reduceAdd, Nat.reduceLeDiff, Int.reduceSub, Int.reduceNeg, Int.reduceLT, Int.reduceLE, Int.reduceEq, *, rfounded_ans, together_ans]
      all_goals exact AU_rcoset
theorem AU_coset {p : Prop} (h : p := by
  repeat' (first | (with_reducible refine condLt (fun h h' => ?_) (fun h h' => ?_)) | (with_reducible refine condLe (fun h h' => ?_) (fun h h' => ?_)) | (with_reducible refine dop_val ?_) | (with_reducible refine YsLt (fun h h' => ?_) (fun h h' => ?_)) | (with_reducible refine YsLe (fun h h' => ?_) (fun h h' => ?_)) | (with_reducible refine condP (fun h => ?_) (fun h => ?_)) | (with_reducible refine condN (fun h => ?_) (fun h => ?_)) | (with_reducible refine condB (fun h => ?_) (fun h => ?_)) | (with_reducible refine condR (fun h => ?_) (fun h => ?_)) | (with_reducible refine YsB (fun h => ?_) (fun h => ?_)) | (with_reducible refine YsC (fun h => ?_) (fun h => ?_)) | (with_reducible refine Ys_ite (fun h => ?_) (fun h => ?_)) | (intro h) | (with_reducible refine draw_look (by kernel_rfl) (by kernel_rfl) ?_) | (simp (maxDischargeDepth := 9) only [go_sem, Nat.reduceMul, Nat.reduceAdd, Nat.reduceLeDiff, Int.reduceSub, Int.reduceNeg, Int.reduceLT, Int.reduceLE, Int.reduceEq, *, founded_ans, concurrent_ans]) | (exfalso; omega))) : p := h
theorem coset_ans (ext : CallF) (k : Nat) (hE : ExC ext) (hU : ExU ext) (b l : IV) (p q : Nat) (hk : maxLen + (D0 + 24) ≤ k) (hb : Ok b) (hp : p ≠ 0) (hv : Ok l) (hz : (asL (fld b 1)).length ≤ 1000000) : ans (tab.run ext k) 26 [.iv p 29 b, .iv q 46 l] 1 = some ([.one (.at (.bool (CS b l)))], [4]) := by
  obtain ⟨k, rfl⟩ : ∃ k', k = k' + 1 := ⟨k - 1, by omega⟩
  have hk1 : maxLen < k := by omega
  have hk0 : 0 < k := by omega
  have hk_0 : maxLen + (2) ≤ k := by omega
  have hk_1 : maxLen + (D0 + 20) ≤ k := by omega
  refine fn_run (fx := fx26) (m := 50) 52 rfl rfl rfl rfl (fun st hn hg hr => ?_)
  have g0 : st.get (.tmp 0) = .v (.a (.iv p 29 b)) := hg 0 (of_decide_eq_true rfl)
  have g1 : st.get (.tmp 1) = .v (.a (.iv q 46 l)) := hg 1 (of_decide_eq_true rfl)
  have r0 := hr 0
  clear hg hr
  rw [co26]
  simp only [Try.f26, Option.getD_some]
  unfold CS
  have hl := ok_len hv
  by_cases hfd : FD b = true
  case neg =>
    have hfdn : FD b = false := by simpa using hfd
    simp (maxDischargeDepth := 9) only [go_sem, Nat.reduceMul, Nat.reduceAdd, Nat.reduceLeDiff, Int.reduceSub, Int.reduceNeg, Int.reduceLT, Int.reduceLE, Int.reduceEq, *, founded_ans, concurrent_ans]
  simp (maxDischargeDepth := 9) only [go_sem, Nat.reduceMul, Nat.reduceAdd, Nat.reduceLeDiff, Int.reduceSub, Int.reduceNeg, Int.reduceLT, Int.reduceLE, Int.reduceEq, *, founded_ans, concurrent_ans]
  refine gen_st (fun s0 hg hr hn0 => ?_)
  have e1 := hg 1
  have e2 := hg 2
  have e14 := hg 14
  have e15 := hg 15
  have e16 := hg 16
  have q0 := hr 0
  clear hg hr
  simp only [go_sem, *] at hn0 e1 e2 e14 e15 e16 q0
  refine nr (runs_for (asL l) (fun (_ : Unit) x => if asI x < 0 ∨ ((asL (fld b 0)).length : Int) ≤ asI x then .ret false else .next ()) () 52 (fun i a => [(1, s0.get (.tmp 1)), (2, s0.get (.tmp 2)), (14, s0.get (.tmp 14)), (15, s0.get (.tmp 15)), (16, .v (.a (.int .i64 i)))]) (fun i a => [(0, s0.row 0)]) (fun i a => True) (by omega) ?_ (trivial) ?_ ?_ ?_ ?_)
  · simp (maxDischargeDepth := 9) only [go_sem, Nat.reduceMul, Nat.reduceAdd, Nat.reduceLeDiff, Int.reduceSub, Int.reduceNeg, Int.reduceLT, Int.reduceLE, Int.reduceEq, *, founded_ans, concurrent_ans]
  · intro i a; simp (maxDischargeDepth := 9) only [go_sem, Nat.reduceMul, Nat.reduceAdd, Nat.reduceLeDiff, Int.reduceSub, Int.reduceNeg, Int.reduceLT, Int.reduceLE, Int.reduceEq, *, founded_ans, concurrent_ans]
  · intro i a; simp (maxDischargeDepth := 9) only [go_sem, Nat.reduceMul, Nat.reduceAdd, Nat.reduceLeDiff, Int.reduceSub, Int.reduceNeg, Int.reduceLT, Int.reduceLE, Int.reduceEq, *, founded_ans, concurrent_ans]
  · intro i x a s hx hi hI hS
    clear hn0 e16
    simp only [go_sem] at hS
    obtain ⟨f1, f2, f14, f15, f16, m0, hn⟩ := hS
    have hw := wrap_succ hi (hl)
    refine rn ?_
    simp (maxDischargeDepth := 9) only [go_sem, Nat.reduceMul, Nat.reduceAdd, Nat.reduceLeDiff, Int.reduceSub, Int.reduceNeg, Int.reduceLT, Int.reduceLE, Int.reduceEq, *, founded_ans, concurrent_ans]
    all_goals exact AU_coset
  · intro a s hI hf hS
    clear hn0 e16
    simp only [go_sem] at hS
    obtain ⟨f1, f2, f14, f15, f16, m0, hn⟩ := hS
    try simp only [go_sem] at hf
    refine rn ?_
    simp (maxDischargeDepth := 9) only [go_sem, Nat.reduceMul, Nat.reduceAdd, Nat.reduceLeDiff, Int.reduceSub, Int.reduceNeg, Int.reduceLT, Int.reduceLE, Int.reduceEq, *, founded_ans, concurrent_ans]
    refine gen_st (fun s0 hg hr hn0 => ?_)
    have e1 := hg 1
    have e2 := hg 2
    have e30 := hg 30
    have e31 := hg 31
    have e32 := hg 32
    have q0 := hr 0
    clear hg hr
    simp only [go_sem, *] at hn0 e1 e2 e30 e31 e32 q0
    refine nr (runs_forN (asL l).length (fun (_ : Unit) i => if ((List.range i).any fun k => !TG b (asI ((asL l).getD i .N)) (asI ((asL l).getD k .N))) = true then .ret false else .next ()) () 52 (fun i a => [(1, s0.get (.tmp 1)), (2, s0.get (.tmp 2)), (30, s0.get (.tmp 30)), (31, s0.get (.tmp 31)), (32, .v (.a (.int .i64 i)))]) (fun i a => [(0, s0.row 0)]) (fun i a => True) (by omega) ?_ (trivial) ?_ ?_ ?_ ?_)
    · simp (maxDischargeDepth := 9) only [go_sem, Nat.reduceMul, Nat.reduceAdd, Nat.reduceLeDiff, Int.reduceSub, Int.reduceNeg, Int.reduceLT, Int.reduceLE, Int.reduceEq, *, founded_ans, concurrent_ans]
    · intro i a; simp (maxDischargeDepth := 9) only [go_sem, Nat.reduceMul, Nat.reduceAdd, Nat.reduceLeDiff, Int.reduceSub, Int.reduceNeg, Int.reduceLT, Int.reduceLE, Int.reduceEq, *, founded_ans, concurrent_ans]
    · intro i a; simp (maxDischargeDepth := 9) only [go_sem, Nat.reduceMul, Nat.reduceAdd, Nat.reduceLeDiff, Int.reduceSub, Int.reduceNeg, Int.reduceLT, Int.reduceLE, Int.reduceEq, *, founded_ans, concurrent_ans]
    · intro i a s hi hI hS
      clear hn0 e32
      simp only [go_sem] at hS
      obtain ⟨f1, f2, f30, f31, f32, m0, hn⟩ := hS
      have hw := wrap_succ hi (hl)
      have hio := hi
      have hil : i ≤ (asL l).length := by omega
      obtain ⟨hx0, hx1⟩ := any_in hf (i := i) hi
      refine rn ?_
      simp (maxDischargeDepth := 9) only [go_sem, Nat.reduceMul, Nat.reduceAdd, Nat.reduceLeDiff, Int.reduceSub, Int.reduceNeg, Int.reduceLT, Int.reduceLE, Int.reduceEq, *, founded_ans, concurrent_ans]
      refine gen_st (fun s0 hg hr hn0 => ?_)
      have e1 := hg 1
      have e2 := hg 2
      have e7 := hg 7
      have e8 := hg 8
      have e30 := hg 30
      have e31 := hg 31
      have e32 := hg 32
      have e33 := hg 33
      have e34 := hg 34
      have e35 := hg 35
      have e36 := hg 36
      have e37 := hg 37
      have e38 := hg 38
      have e39 := hg 39
      have e40 := hg 40
      have e41 := hg 41
      have q0 := hr 0
      clear hg hr
      simp only [go_sem, *] at hn0 e1 e2 e7 e8 e30 e31 e32 e33 e34 e35 e36 e37 e38 e39 e40 e41 q0
      refine nr (runs_forN i (fun (_ : Unit) k2 => if TG b (asI ((asL l).getD i .N)) (asI ((asL l).getD k2 .N)) = true then .next () else .ret false) () 52 (fun k2 a => [(1, s0.get (.tmp 1)), (2, s0.get (.tmp 2)), (7, s0.get (.tmp 7)), (8, s0.get (.tmp 8)), (30, s0.get (.tmp 30)), (31, s0.get (.tmp 31)), (32, s0.get (.tmp 32)), (33, s0.get (.tmp 33)), (34, s0.get (.tmp 34)), (35, s0.get (.tmp 35)), (36, s0.get (.tmp 36)), (37, s0.get (.tmp 37)), (38, s0.get (.tmp 38)), (39, s0.get (.tmp 39)), (40, s0.get (.tmp 40)), (41, .v (.a (.int .i64 (k2 : Nat))))]) (fun k2 a => [(0, s0.row 0)]) (fun k2 a => True) (by omega) ?_ (trivial) ?_ ?_ ?_ ?_)
      · simp (maxDischargeDepth := 9) only [go_sem, Nat.reduceMul, Nat.reduceAdd, Nat.reduceLeDiff, Int.reduceSub, Int.reduceNeg, Int.reduceLT, Int.reduceLE, Int.reduceEq, *, founded_ans, concurrent_ans]
      · intro i a; simp (maxDischargeDepth := 9) only [go_sem, Nat.reduceMul, Nat.reduceAdd, Nat.reduceLeDiff, Int.reduceSub, Int.reduceNeg, Int.reduceLT, Int.reduceLE, Int.reduceEq, *, founded_ans, concurrent_ans]
      · intro i a; simp (maxDischargeDepth := 9) only [go_sem, Nat.reduceMul, Nat.reduceAdd, Nat.reduceLeDiff, Int.reduceSub, Int.reduceNeg, Int.reduceLT, Int.reduceLE, Int.reduceEq, *, founded_ans, concurrent_ans]
      · intro k2 a s hi hI hS
        clear hn0 e41
        simp only [go_sem] at hS
        obtain ⟨f1, f2, f7, f8, f30, f31, f32, f33, f34, f35, f36, f37, f38, f39, f40, f41, m0, hn⟩ := hS
        have hw := wrap_succ hi (by omega)
        have hk2 : k2 < (asL l).length := by omega
        obtain ⟨hy0, hy1⟩ := any_in hf (i := k2) hk2
        refine rn ?_
        simp (maxDischargeDepth := 9) only [go_sem, Nat.reduceMul, Nat.reduceAdd, Nat.reduceLeDiff, Int.reduceSub, Int.reduceNeg, Int.reduceLT, Int.reduceLE, Int.reduceEq, *, founded_ans, concurrent_ans]
        all_goals exact AU_coset
      · intro a s hI hf hS
        clear hn0 e41
        simp only [go_sem] at hS
        obtain ⟨f1, f2, f7, f8, f30, f31, f32, f33, f34, f35, f36, f37, f38, f39, f40, f41, m0, hn⟩ := hS
        try simp only [go_sem] at hf
        refine rn ?_
        simp (maxDischargeDepth := 9) only [go_sem, Nat.reduceMul, Nat.reduceAdd, Nat.reduceLeDiff, Int.reduceSub, Int.reduceNeg, Int.reduceLT, Int.reduceLE, Int.reduceEq, *, founded_ans, concurrent_ans]
        all_goals exact AU_coset
    · intro a s hI hf hS
      clear hn0 e32
      simp only [go_sem] at hS
      obtain ⟨f1, f2, f30, f31, f32, m0, hn⟩ := hS
      try simp only [go_sem] at hf
      refine rn ?_
      simp (maxDischargeDepth := 9) only [go_sem, Nat.reduceMul, Nat.reduceAdd, Nat.reduceLeDiff, Int.reduceSub, Int.reduceNeg, Int.reduceLT, Int.reduceLE, Int.reduceEq, *, founded_ans, concurrent_ans]
      all_goals exact AU_coset
end Go.Proofs.Ytficdonjodadlaa
end
section
set_option linter.unusedSimpArgs false
set_option linter.unusedVariables false
set_option maxRecDepth 100000
set_option maxHeartbeats 4000000
namespace Go.Proofs.Ytficdonjodadlaa
open Go.Ev Go.Proofs
theorem valid_ans (ext : CallF) (k : Nat) (hN : ExN ext) (n : IV) (p : Nat) (hk : maxLen + (12) ≤ k) (hnn : Ok n) : ans (tab.run ext k) 68 [.iv p 25 n] 1 = some ([.one (.at (.bool (VN n)))], [4]) := by
  obtain ⟨k, rfl⟩ : ∃ k', k = k' + 1 := ⟨k - 1, by omega⟩
  have hk1 : maxLen < k := by omega
  have hk0 : 0 < k := by omega
  have hk_0 : maxLen + (8) ≤ k := by omega
  refine fn_run (fx := fx68) (m := 6) 7 rfl rfl rfl rfl (fun st hn hg hr => ?_)
  have g0 : st.get (.tmp 0) = .v (.a (.iv p 25 n)) := hg 0 (of_decide_eq_true rfl)
  have r0 := hr 0
  clear hg hr
  rw [co68]
  simp only [Try.f68, Option.getD_some]
  repeat' (first | (with_reducible refine condLt (fun h h' => ?_) (fun h h' => ?_)) | (with_reducible refine condLe (fun h h' => ?_) (fun h h' => ?_)) | (with_reducible refine dop_val ?_) | (with_reducible refine YsLt (fun h h' => ?_) (fun h h' => ?_)) | (with_reducible refine YsLe (fun h h' => ?_) (fun h h' => ?_)) | (with_reducible refine condP (fun h => ?_) (fun h => ?_)) | (with_reducible refine condN (fun h => ?_) (fun h => ?_)) | (with_reducible refine condB (fun h => ?_) (fun h => ?_)) | (with_reducible refine condR (fun h => ?_) (fun h => ?_)) | (with_reducible refine YsB (fun h => ?_) (fun h => ?_)) | (with_reducible refine YsC (fun h => ?_) (fun h => ?_)) | (with_reducible refine Ys_ite (fun h => ?_) (fun h => ?_)) | (intro h) | (with_reducible refine draw_look (by kernel_rfl) (by kernel_rfl) ?_) | (simp (maxDischargeDepth := 9) only [go_sem, Nat.reduceMul, Nat.reduceAdd, Nat.reduceLeDiff, Int.reduceSub, Int.reduceNeg, Int.reduceLT, Int.reduceLE, Int.reduceEq, *, ncheck_ans, VN]) | (exfalso; omega))
theorem AU_plain {p : Prop} (h : p := by
  repeat' (first | (with_reducible refine condLt (fun h h' => ?_) (fun h h' => ?_)) | (with_reducible refine condLe (fun h h' => ?_) (fun h h' => ?_)) | (with_reducible refine dop_val ?_) | (with_reducible refine YsLt (fun h h' => ?_) (fun h h' => ?_)) | (with_reducible refine YsLe (fun h h' => ?_) (fun h h' => ?_)) | (with_reducible refine condP (fun h => ?_) (fun h => ?_)) | (with_reducible refine condN (fun h => ?_) (fun h => ?_)) | (with_reducible refine condB (fun h => ?_) (fun h => ?_)) | (with_reducible refine condR (fun h => ?_) (fun h => ?_)) | (with_reducible refine YsB (fun h => ?_) (fun h => ?_)) | (with_reducible refine YsC (fun h => ?_) (fun h => ?_)) | (with_reducible refine Ys_ite (fun h => ?_) (fun h => ?_)) | (intro h) | (with_reducible refine draw_look (by kernel_rfl) (by kernel_rfl) ?_) | (simp (maxDischargeDepth := 9) only [go_sem, Nat.reduceMul, Nat.reduceAdd, Nat.reduceLeDiff, Int.reduceSub, Int.reduceNeg, Int.reduceLT, Int.reduceLE, Int.reduceEq, *, valid_ans]) | (exfalso; omega))) : p := h
theorem plain_ans (ext : CallF) (k : Nat) (hN : ExN ext) (n : IV) (p : Nat) (hk : maxLen + (16) ≤ k) (hnn : Ok n) : ans (tab.run ext k) 36 [.iv p 25 n] 3 = some ([.one (.at (.bool (PN n)))], [4]) := by
  obtain ⟨k, rfl⟩ : ∃ k', k = k' + 1 := ⟨k - 1, by omega⟩
  have hk1 : maxLen < k := by omega
  have hk0 : 0 < k := by omega
  have hk_0 : maxLen + (12) ≤ k := by omega
  refine fn_run (fx := fx36) (m := 36) 37 rfl rfl rfl rfl (fun st hn hg hr => ?_)
  have g0 : st.get (.tmp 0) = .v (.a (.iv p 25 n)) := hg 0 (of_decide_eq_true rfl)
  have r0 := hr 0
  have r1 := hr 1
  have r2 := hr 2
  clear hg hr
  rw [co36]
  simp only [Try.f36, Option.getD_some]
  unfold PN
  have hl1 := ok_len (ok_fld (j := 1) hnn)
  have hl2 := ok_len (ok_fld (j := 2) hnn)
  simp (maxDischargeDepth := 9) only [go_sem, Nat.reduceMul, Nat.reduceAdd, Nat.reduceLeDiff, Int.reduceSub, Int.reduceNeg, Int.reduceLT, Int.reduceLE, Int.reduceEq, *, valid_ans]
  refine gen_st (fun s0 hg hr hn0 => ?_)
  have e1 := hg 1
  have e8 := hg 8
  have e9 := hg 9
  have e10 := hg 10
  have q0 := hr 0
  clear hg hr
  simp only [go_sem, *] at hn0 e1 e8 e9 e10 q0
  refine nr (runs_for (asL (fld n 2)) (fun (_ : Unit) x => if (0 : Int) < ((asL (fld x 3)).length : Int) ∨ ¬asI (fld x 4) = 0 then .ret false else .next ()) () 37 (fun i a => [(1, s0.get (.tmp 1)), (8, s0.get (.tmp 8)), (9, s0.get (.tmp 9)), (10, .v (.a (.int .i64 i)))]) (fun i a => [(0, s0.row 0)]) (fun i a => True) (by omega) ?_ (trivial) ?_ ?_ ?_ ?_)
  · simp (maxDischargeDepth := 9) only [go_sem, Nat.reduceMul, Nat.reduceAdd, Nat.reduceLeDiff, Int.reduceSub, Int.reduceNeg, Int.reduceLT, Int.reduceLE, Int.reduceEq, *, valid_ans]
  · intro i a; simp (maxDischargeDepth := 9) only [go_sem, Nat.reduceMul, Nat.reduceAdd, Nat.reduceLeDiff, Int.reduceSub, Int.reduceNeg, Int.reduceLT, Int.reduceLE, Int.reduceEq, *, valid_ans]
  · intro i a; simp (maxDischargeDepth := 9) only [go_sem, Nat.reduceMul, Nat.reduceAdd, Nat.reduceLeDiff, Int.reduceSub, Int.reduceNeg, Int.reduceLT, Int.reduceLE, Int.reduceEq, *, valid_ans]
  · intro i x a s hx hi hI hS
    clear hn0 e10
    simp only [go_sem] at hS
    obtain ⟨f1, f8, f9, f10, m0, hn⟩ := hS
    have hw := wrap_succ hi (hl2)
    refine rn ?_
    simp (maxDischargeDepth := 9) only [go_sem, Nat.reduceMul, Nat.reduceAdd, Nat.reduceLeDiff, Int.reduceSub, Int.reduceNeg, Int.reduceLT, Int.reduceLE, Int.reduceEq, *, valid_ans]
    all_goals exact AU_plain
  · intro a s hI hf hS
    clear hn0 e10
    simp only [go_sem] at hS
    obtain ⟨f1, f8, f9, f10, m0, hn⟩ := hS
    try simp only [go_sem] at hf
    refine rn ?_
    simp (maxDischargeDepth := 9) only [go_sem, Nat.reduceMul, Nat.reduceAdd, Nat.reduceLeDiff, Int.reduceSub, Int.reduceNeg, Int.reduceLT, Int.reduceLE, Int.reduceEq, *, valid_ans]
    refine gen_st (fun s0 hg hr hn0 => ?_)
    have e1 := hg 1
    have e25 := hg 25
    have e26 := hg 26
    have e27 := hg 27
    have q0 := hr 0
    clear hg hr
    simp only [go_sem, *] at hn0 e1 e25 e26 e27 q0
    refine nr (runs_for (asL (fld n 1)) (fun (_ : Unit) x => if asI (fld x 2) = 0 then .next () else .ret false) () 37 (fun i a => [(1, s0.get (.tmp 1)), (25, s0.get (.tmp 25)), (26, s0.get (.tmp 26)), (27, .v (.a (.int .i64 i)))]) (fun i a => [(0, s0.row 0)]) (fun i a => True) (by omega) ?_ (trivial) ?_ ?_ ?_ ?_)
    · simp (maxDischargeDepth := 9) only [go_sem, Nat.reduceMul, Nat.reduceAdd, Nat.reduceLeDiff, Int.reduceSub, Int.reduceNeg, Int.reduceLT, Int.reduceLE, Int.reduceEq, *, valid_ans]
    · intro i a; simp (maxDischargeDepth := 9) only [go_sem, Nat.reduceMul, Nat.reduceAdd, Nat.reduceLeDiff, Int.reduceSub, Int.reduceNeg, Int.reduceLT, Int.reduceLE, Int.reduceEq, *, valid_ans]
    · intro i a; simp (maxDischargeDepth := 9) only [go_sem, Nat.reduceMul, Nat.reduceAdd, Nat.reduceLeDiff, Int.reduceSub, Int.reduceNeg, Int.reduceLT, Int.reduceLE, Int.reduceEq, *, valid_ans]
    · intro i x a s hx hi hI hS
      clear hn0 e27
      simp only [go_sem] at hS
      obtain ⟨f1, f25, f26, f27, m0, hn⟩ := hS
      have hw := wrap_succ hi (hl1)
      refine rn ?_
      simp (maxDischargeDepth := 9) only [go_sem, Nat.reduceMul, Nat.reduceAdd, Nat.reduceLeDiff, Int.reduceSub, Int.reduceNeg, Int.reduceLT, Int.reduceLE, Int.reduceEq, *, valid_ans]
      all_goals exact AU_plain
    · intro a s hI hf hS
      clear hn0 e27
      simp only [go_sem] at hS
      obtain ⟨f1, f25, f26, f27, m0, hn⟩ := hS
      try simp only [go_sem] at hf
      refine rn ?_
      simp (maxDischargeDepth := 9) only [go_sem, Nat.reduceMul, Nat.reduceAdd, Nat.reduceLeDiff, Int.reduceSub, Int.reduceNeg, Int.reduceLT, Int.reduceLE, Int.reduceEq, *, valid_ans]
      all_goals exact AU_plain
theorem AU_ordinary {p : Prop} (h : p := by
  repeat' (first | (with_reducible refine condLt (fun h h' => ?_) (fun h h' => ?_)) | (with_reducible refine condLe (fun h h' => ?_) (fun h h' => ?_)) | (with_reducible refine dop_val ?_) | (with_reducible refine YsLt (fun h h' => ?_) (fun h h' => ?_)) | (with_reducible refine YsLe (fun h h' => ?_) (fun h h' => ?_)) | (with_reducible refine condP (fun h => ?_) (fun h => ?_)) | (with_reducible refine condN (fun h => ?_) (fun h => ?_)) | (with_reducible refine condB (fun h => ?_) (fun h => ?_)) | (with_reducible refine condR (fun h => ?_) (fun h => ?_)) | (with_reducible refine YsB (fun h => ?_) (fun h => ?_)) | (with_reducible refine YsC (fun h => ?_) (fun h => ?_)) | (with_reducible refine Ys_ite (fun h => ?_) (fun h => ?_)) | (intro h) | (with_reducible refine draw_look (by kernel_rfl) (by kernel_rfl) ?_) | (simp (maxDischargeDepth := 9) only [go_sem, Nat.reduceMul, Nat.reduceAdd, Nat.reduceLeDiff, Int.reduceSub, Int.reduceNeg, Int.reduceLT, Int.reduceLE, Int.reduceEq, *, valid_ans]) | (exfalso; omega))) : p := h
theorem ordinary_ans (ext : CallF) (k : Nat) (hN : ExN ext) (n : IV) (p : Nat) (hk : maxLen + (16) ≤ k) (hnn : Ok n) : ans (tab.run ext k) 37 [.iv p 25 n] 3 = some ([.one (.at (.bool (ON n)))], [4]) := by
  obtain ⟨k, rfl⟩ : ∃ k', k = k' + 1 := ⟨k - 1, by omega⟩
  have hk1 : maxLen < k := by omega
  have hk0 : 0 < k := by omega
  have hk_0 : maxLen + (12) ≤ k := by omega
  refine fn_run (fx := fx37) (m := 39) 40 rfl rfl rfl rfl (fun st hn hg hr => ?_)
  have g0 : st.get (.tmp 0) = .v (.a (.iv p 25 n)) := hg 0 (of_decide_eq_true rfl)
  have r0 := hr 0
  have r1 := hr 1
  have r2 := hr 2
  clear hg hr
  rw [co37]
  simp only [Try.f37, Option.getD_some]
  unfold ON
  have hl1 := ok_len (ok_fld (j := 1) hnn)
  have hl2 := ok_len (ok_fld (j := 2) hnn)
  simp (maxDischargeDepth := 9) only [go_sem, Nat.reduceMul, Nat.reduceAdd, Nat.reduceLeDiff, Int.reduceSub, Int.reduceNeg, Int.reduceLT, Int.reduceLE, Int.reduceEq, *, valid_ans]
  refine gen_st (fun s0 hg hr hn0 => ?_)
  have e1 := hg 1
  have e10 := hg 10
  have e11 := hg 11
  have e12 := hg 12
  have q0 := hr 0
  clear hg hr
  simp only [go_sem, *] at hn0 e1 e10 e11 e12 q0
  refine nr (runs_for (asL (fld n 2)) (fun (_ : Unit) x => if ([fld x 1, fld x 2].any fun y => (asL y).any fun z => !decide (asI (fld z 1) = 1)) = true then .ret false else .next ()) () 40 (fun i a => [(1, s0.get (.tmp 1)), (10, s0.get (.tmp 10)), (11, s0.get (.tmp 11)), (12, .v (.a (.int .i64 i)))]) (fun i a => [(0, s0.row 0)]) (fun i a => True) (by omega) ?_ (trivial) ?_ ?_ ?_ ?_)
  · simp (maxDischargeDepth := 9) only [go_sem, Nat.reduceMul, Nat.reduceAdd, Nat.reduceLeDiff, Int.reduceSub, Int.reduceNeg, Int.reduceLT, Int.reduceLE, Int.reduceEq, *, valid_ans]
  · intro i a; simp (maxDischargeDepth := 9) only [go_sem, Nat.reduceMul, Nat.reduceAdd, Nat.reduceLeDiff, Int.reduceSub, Int.reduceNeg, Int.reduceLT, Int.reduceLE, Int.reduceEq, *, valid_ans]
  · intro i a; simp (maxDischargeDepth := 9) only [go_sem, Nat.reduceMul, Nat.reduceAdd, Nat.reduceLeDiff, Int.reduceSub, Int.reduceNeg, Int.reduceLT, Int.reduceLE, Int.reduceEq, *, valid_ans]
  · intro i x a s hx hi hI hS
    clear hn0 e12
    simp only [go_sem] at hS
    obtain ⟨f1, f10, f11, f12, m0, hn⟩ := hS
    have hw := wrap_succ hi (hl2)
    have hox : Ok x := ok_get (ok_fld hnn) hx
    refine rn ?_
    simp (maxDischargeDepth := 9) only [go_sem, Nat.reduceMul, Nat.reduceAdd, Nat.reduceLeDiff, Int.reduceSub, Int.reduceNeg, Int.reduceLT, Int.reduceLE, Int.reduceEq, *, valid_ans]
    refine gen_st (fun s0 hg hr hn0 => ?_)
    have e1 := hg 1
    have e4 := hg 4
    have e10 := hg 10
    have e11 := hg 11
    have e12 := hg 12
    have e13 := hg 13
    have e14 := hg 14
    have e15 := hg 15
    have e16 := hg 16
    have e17 := hg 17
    have e18 := hg 18
    have e19 := hg 19
    have e20 := hg 20
    have e21 := hg 21
    have e22 := hg 22
    have q0 := hr 0
    have q1 := hr 1
    clear hg hr
    simp only [go_sem, *] at hn0 e1 e4 e10 e11 e12 e13 e14 e15 e16 e17 e18 e19 e20 e21 e22 q0 q1
    refine nr (runs_for [fld x 1, fld x 2] (fun (_ : Unit) y => if ((asL y).any fun z => !decide (asI (fld z 1) = 1)) = true then .ret false else .next ()) () 40 (fun j a => [(1, s0.get (.tmp 1)), (4, s0.get (.tmp 4)), (10, s0.get (.tmp 10)), (11, s0.get (.tmp 11)), (12, s0.get (.tmp 12)), (13, s0.get (.tmp 13)), (14, s0.get (.tmp 14)), (15, s0.get (.tmp 15)), (16, s0.get (.tmp 16)), (17, s0.get (.tmp 17)), (18, s0.get (.tmp 18)), (19, s0.get (.tmp 19)), (20, s0.get (.tmp 20)), (21, s0.get (.tmp 21)), (22, .v (.a (.int .i64 j)))]) (fun j a => [(0, s0.row 0), (1, s0.row 1)]) (fun j a => True) (by show 2 < k; unfold maxLen at hk1; omega) ?_ (trivial) ?_ ?_ ?_ ?_)
    · simp (maxDischargeDepth := 9) only [go_sem, Nat.reduceMul, Nat.reduceAdd, Nat.reduceLeDiff, Int.reduceSub, Int.reduceNeg, Int.reduceLT, Int.reduceLE, Int.reduceEq, *, valid_ans]
    · intro i a; simp (maxDischargeDepth := 9) only [go_sem, Nat.reduceMul, Nat.reduceAdd, Nat.reduceLeDiff, Int.reduceSub, Int.reduceNeg, Int.reduceLT, Int.reduceLE, Int.reduceEq, *, valid_ans]
    · intro i a; simp (maxDischargeDepth := 9) only [go_sem, Nat.reduceMul, Nat.reduceAdd, Nat.reduceLeDiff, Int.reduceSub, Int.reduceNeg, Int.reduceLT, Int.reduceLE, Int.reduceEq, *, valid_ans]
    · intro j y a s hx hi hI hS
      clear hn0 e22
      simp only [go_sem] at hS
      obtain ⟨f1, f4, f10, f11, f12, f13, f14, f15, f16, f17, f18, f19, f20, f21, f22, m0, m1, hn⟩ := hS
      have hoy : Ok y := by
        have := List.mem_of_getElem? hx
        simp only [List.mem_cons, List.not_mem_nil, or_false] at this
        rcases this with rfl | rfl <;> exact ok_fld hox
      have hi3 : j < 2 := hi
      have hw : IntKind.i64.wrap ((j : Int) + 1) = ((j + 1 : Nat) : Int) := by
        rw [Go.IntWalk.i64_in _ (by omega)]; omega
      have hlt : (j : Int) < 2 := by omega
      have hly := ok_len hoy
      refine rn ?_
      simp (maxDischargeDepth := 9) only [go_sem, Nat.reduceMul, Nat.reduceAdd, Nat.reduceLeDiff, Int.reduceSub, Int.reduceNeg, Int.reduceLT, Int.reduceLE, Int.reduceEq, *, valid_ans]
      refine gen_st (fun s0 hg hr hn0 => ?_)
      have e1 := hg 1
      have e4 := hg 4
      have e6 := hg 6
      have e10 := hg 10
      have e11 := hg 11
      have e12 := hg 12
      have e13 := hg 13
      have e14 := hg 14
      have e15 := hg 15
      have e16 := hg 16
      have e17 := hg 17
      have e18 := hg 18
      have e19 := hg 19
      have e20 := hg 20
      have e21 := hg 21
      have e22 := hg 22
      have e23 := hg 23
      have e24 := hg 24
      have e25 := hg 25
      have e26 := hg 26
      have e27 := hg 27
      have e28 := hg 28
      have q0 := hr 0
      have q1 := hr 1
      clear hg hr
      simp only [go_sem, *] at hn0 e1 e4 e6 e10 e11 e12 e13 e14 e15 e16 e17 e18 e19 e20 e21 e22 e23 e24 e25 e26 e27 e28 q0 q1
      refine nr (runs_for (asL y) (fun (_ : Unit) z => if asI (fld z 1) = 1 then .next () else .ret false) () 40 (fun m a => [(1, s0.get (.tmp 1)), (4, s0.get (.tmp 4)), (6, s0.get (.tmp 6)), (10, s0.get (.tmp 10)), (11, s0.get (.tmp 11)), (12, s0.get (.tmp 12)), (13, s0.get (.tmp 13)), (14, s0.get (.tmp 14)), (15, s0.get (.tmp 15)), (16, s0.get (.tmp 16)), (17, s0.get (.tmp 17)), (18, s0.get (.tmp 18)), (19, s0.get (.tmp 19)), (20, s0.get (.tmp 20)), (21, s0.get (.tmp 21)), (22, s0.get (.tmp 22)), (23, s0.get (.tmp 23)), (24, s0.get (.tmp 24)), (25, s0.get (.tmp 25)), (26, s0.get (.tmp 26)), (27, s0.get (.tmp 27)), (28, .v (.a (.int .i64 (m : Nat))))]) (fun m a => [(0, s0.row 0), (1, s0.row 1)]) (fun m a => True) (by omega) ?_ (trivial) ?_ ?_ ?_ ?_)
      · simp (maxDischargeDepth := 9) only [go_sem, Nat.reduceMul, Nat.reduceAdd, Nat.reduceLeDiff, Int.reduceSub, Int.reduceNeg, Int.reduceLT, Int.reduceLE, Int.reduceEq, *, valid_ans]
      · intro i a; simp (maxDischargeDepth := 9) only [go_sem, Nat.reduceMul, Nat.reduceAdd, Nat.reduceLeDiff, Int.reduceSub, Int.reduceNeg, Int.reduceLT, Int.reduceLE, Int.reduceEq, *, valid_ans]
      · intro i a; simp (maxDischargeDepth := 9) only [go_sem, Nat.reduceMul, Nat.reduceAdd, Nat.reduceLeDiff, Int.reduceSub, Int.reduceNeg, Int.reduceLT, Int.reduceLE, Int.reduceEq, *, valid_ans]
      · intro m z a s hx hi hI hS
        clear hn0 e28
        simp only [go_sem] at hS
        obtain ⟨f1, f4, f6, f10, f11, f12, f13, f14, f15, f16, f17, f18, f19, f20, f21, f22, f23, f24, f25, f26, f27, f28, m0, m1, hn⟩ := hS
        have hw := wrap_succ hi (hly)
        refine rn ?_
        simp (maxDischargeDepth := 9) only [go_sem, Nat.reduceMul, Nat.reduceAdd, Nat.reduceLeDiff, Int.reduceSub, Int.reduceNeg, Int.reduceLT, Int.reduceLE, Int.reduceEq, *, valid_ans]
        all_goals exact AU_ordinary
      · intro a s hI hf hS
        clear hn0 e28
        simp only [go_sem] at hS
        obtain ⟨f1, f4, f6, f10, f11, f12, f13, f14, f15, f16, f17, f18, f19, f20, f21, f22, f23, f24, f25, f26, f27, f28, m0, m1, hn⟩ := hS
        try simp only [go_sem] at hf
        refine rn ?_
        simp (maxDischargeDepth := 9) only [go_sem, Nat.reduceMul, Nat.reduceAdd, Nat.reduceLeDiff, Int.reduceSub, Int.reduceNeg, Int.reduceLT, Int.reduceLE, Int.reduceEq, *, valid_ans]
        all_goals exact AU_ordinary
    · intro a s hI hf hS
      clear hn0 e22
      simp only [go_sem] at hS
      obtain ⟨f1, f4, f10, f11, f12, f13, f14, f15, f16, f17, f18, f19, f20, f21, f22, m0, m1, hn⟩ := hS
      try simp only [go_sem] at hf
      refine rn ?_
      simp (maxDischargeDepth := 9) only [go_sem, Nat.reduceMul, Nat.reduceAdd, Nat.reduceLeDiff, Int.reduceSub, Int.reduceNeg, Int.reduceLT, Int.reduceLE, Int.reduceEq, *, valid_ans]
      all_goals exact AU_ordinary
  · intro a s hI hf hS
    clear hn0 e12
    simp only [go_sem] at hS
    obtain ⟨f1, f10, f11, f12, m0, hn⟩ := hS
    try simp only [go_sem] at hf
    refine rn ?_
    simp (maxDischargeDepth := 9) only [go_sem, Nat.reduceMul, Nat.reduceAdd, Nat.reduceLeDiff, Int.reduceSub, Int.reduceNeg, Int.reduceLT, Int.reduceLE, Int.reduceEq, *, valid_ans]
    all_goals exact AU_ordinary
end Go.Proofs.Ytficdonjodadlaa
end
section
set_option linter.unusedVariables false
namespace Go.Ev
def inR (c : Bool) (l : List IV) : R1 := if c = true then .at (.iv 2 46 (.L l)) else .own 2 3 []
theorem inR_t {l : List IV} : inR true l = .at (.iv 2 46 (.L l)) := (rfl)
theorem inR_f {l : List IV} : inR false l = .own 2 3 [] := (rfl)
attribute [go_sem] inR_t inR_f
def tIn (n : IV) (t : Int) : Bool := VN n && decide (0 ≤ t) && decide (t < ((asL (fld n 2)).length : Int))
end Go.Ev
end
section
set_option linter.unusedSimpArgs false
set_option linter.unusedVariables false
set_option maxRecDepth 100000
set_option maxHeartbeats 4000000
namespace Go.Proofs.Ytficdonjodadlaa
open Go.Ev Go.Proofs
theorem AU_lsame2 {p : Prop} (h : p := by
  repeat' (first | (with_reducible refine condLt (fun h h' => ?_) (fun h h' => ?_)) | (with_reducible refine condLe (fun h h' => ?_) (fun h h' => ?_)) | (with_reducible refine dop_val ?_) | (with_reducible refine YsLt (fun h h' => ?_) (fun h h' => ?_)) | (with_reducible refine YsLe (fun h h' => ?_) (fun h h' => ?_)) | (with_reducible refine condP (fun h => ?_) (fun h => ?_)) | (with_reducible refine condN (fun h => ?_) (fun h => ?_)) | (with_reducible refine condB (fun h => ?_) (fun h => ?_)) | (with_reducible refine condR (fun h => ?_) (fun h => ?_)) | (with_reducible refine YsB (fun h => ?_) (fun h => ?_)) | (with_reducible refine YsC (fun h => ?_) (fun h => ?_)) | (with_reducible refine Ys_ite (fun h => ?_) (fun h => ?_)) | (intro h) | (with_reducible refine draw_look (by kernel_rfl) (by kernel_rfl) ?_) | (simp (maxDischargeDepth := 9) only [go_sem, Nat.reduceMul, Nat.reduceAdd, Nat.reduceLeDiff, Int.reduceSub, Int.reduceNeg, Int.reduceLT, Int.reduceLE, Int.reduceEq, *]) | (exfalso; omega))) : p := h
theorem lsame2_ans (ext : CallF) (k : Nat) (v u : IV) (p q : Nat) (hk : maxLen + (2) ≤ k) (hv : Ok v) : ans (tab.run ext k) 79 [.iv p 46 v, .iv q 46 u] 0 = some ([.one (.at (.bool (SM v u)))], [4]) := by
  obtain ⟨k, rfl⟩ : ∃ k', k = k' + 1 := ⟨k - 1, by omega⟩
  have hk1 : maxLen < k := by omega
  have hk0 : 0 < k := by omega
  refine fn_run (fx := fx79) (m := 24) 26 rfl rfl rfl rfl (fun st hn hg hr => ?_)
  have g0 : st.get (.tmp 0) = .v (.a (.iv p 46 v)) := hg 0 (of_decide_eq_true rfl)
  have g1 : st.get (.tmp 1) = .v (.a (.iv q 46 u)) := hg 1 (of_decide_eq_true rfl)
  clear hg hr
  rw [co79]
  simp only [Try.f79, Option.getD_some]
  unfold SM
  simp (maxDischargeDepth := 9) only [go_sem, Nat.reduceMul, Nat.reduceAdd, Nat.reduceLeDiff, Int.reduceSub, Int.reduceNeg, Int.reduceLT, Int.reduceLE, Int.reduceEq, *]
  refine condN (fun h => ?_) (fun heq => ?_)
  · simp (maxDischargeDepth := 9) only [go_sem, Nat.reduceMul, Nat.reduceAdd, Nat.reduceLeDiff, Int.reduceSub, Int.reduceNeg, Int.reduceLT, Int.reduceLE, Int.reduceEq, *]
  have heq2 : (asL u).length = (asL v).length := by simpa using Eq.symm heq
  clear heq
  simp (maxDischargeDepth := 9) only [go_sem, Nat.reduceMul, Nat.reduceAdd, Nat.reduceLeDiff, Int.reduceSub, Int.reduceNeg, Int.reduceLT, Int.reduceLE, Int.reduceEq, *]
  refine gen_st (fun s0 hg hr hn0 => ?_)
  have e1 := hg 1
  have e12 := hg 12
  have e13 := hg 13
  have e14 := hg 14
  clear hg hr
  simp only [go_sem, *] at hn0 e1 e12 e13 e14
  have hl := ok_len hv
  have hcm : (List.range (asL v).length).any (fun i => !decide (asI ((asL v).getD i .N) = asI ((asL u).getD i .N))) = (List.range (asL v).length).any (fun i => !decide (asI ((asL u).getD i .N) = asI ((asL v).getD i .N))) := by congr 1; funext i; congr 1; rw [decide_eq_decide]; exact ⟨Eq.symm, Eq.symm⟩
  rw [hcm]
  clear hcm
  refine nr (runs_forN (asL v).length (fun (_ : Unit) i => if asI ((asL u).getD i .N) = asI ((asL v).getD i .N) then .next () else .ret false) () 26 (fun i a => [(1, s0.get (.tmp 1)), (12, s0.get (.tmp 12)), (13, s0.get (.tmp 13)), (14, .v (.a (.int .i64 i)))]) (fun i a => []) (fun i a => True) (by omega) ?_ (trivial) ?_ ?_ ?_ ?_)
  · simp (maxDischargeDepth := 9) only [go_sem, Nat.reduceMul, Nat.reduceAdd, Nat.reduceLeDiff, Int.reduceSub, Int.reduceNeg, Int.reduceLT, Int.reduceLE, Int.reduceEq, *]
  · intro i a; simp (maxDischargeDepth := 9) only [go_sem, Nat.reduceMul, Nat.reduceAdd, Nat.reduceLeDiff, Int.reduceSub, Int.reduceNeg, Int.reduceLT, Int.reduceLE, Int.reduceEq, *]
  · intro i a; simp (maxDischargeDepth := 9) only [go_sem, Nat.reduceMul, Nat.reduceAdd, Nat.reduceLeDiff, Int.reduceSub, Int.reduceNeg, Int.reduceLT, Int.reduceLE, Int.reduceEq, *]
  · intro i a s hi hI hS
    clear hn0 e14
    simp only [go_sem] at hS
    obtain ⟨f1, f12, f13, f14, hn⟩ := hS
    have hw := wrap_succ hi (ok_len hv)
    refine rn ?_
    simp (maxDischargeDepth := 9) only [go_sem, Nat.reduceMul, Nat.reduceAdd, Nat.reduceLeDiff, Int.reduceSub, Int.reduceNeg, Int.reduceLT, Int.reduceLE, Int.reduceEq, *]
    all_goals exact AU_lsame2
  · intro a s hI hf hS
    clear hn0 e14
    simp only [go_sem] at hS
    obtain ⟨f1, f12, f13, f14, hn⟩ := hS
    try simp only [go_sem] at hf
    refine rn ?_
    simp (maxDischargeDepth := 9) only [go_sem, Nat.reduceMul, Nat.reduceAdd, Nat.reduceLeDiff, Int.reduceSub, Int.reduceNeg, Int.reduceLT, Int.reduceLE, Int.reduceEq, *]
    all_goals exact AU_lsame2
theorem AU_known {p : Prop} (h : p := by
  repeat' (first | (with_reducible refine condLt (fun h h' => ?_) (fun h h' => ?_)) | (with_reducible refine condLe (fun h h' => ?_) (fun h h' => ?_)) | (with_reducible refine dop_val ?_) | (with_reducible refine YsLt (fun h h' => ?_) (fun h h' => ?_)) | (with_reducible refine YsLe (fun h h' => ?_) (fun h h' => ?_)) | (with_reducible refine condP (fun h => ?_) (fun h => ?_)) | (with_reducible refine condN (fun h => ?_) (fun h => ?_)) | (with_reducible refine condB (fun h => ?_) (fun h => ?_)) | (with_reducible refine condR (fun h => ?_) (fun h => ?_)) | (with_reducible refine YsB (fun h => ?_) (fun h => ?_)) | (with_reducible refine YsC (fun h => ?_) (fun h => ?_)) | (with_reducible refine Ys_ite (fun h => ?_) (fun h => ?_)) | (intro h) | (with_reducible refine draw_look (by kernel_rfl) (by kernel_rfl) ?_) | (simp (maxDischargeDepth := 9) only [go_sem, Nat.reduceMul, Nat.reduceAdd, Nat.reduceLeDiff, Int.reduceSub, Int.reduceNeg, Int.reduceLT, Int.reduceLE, Int.reduceEq, *, lsame2_ans]) | (exfalso; omega))) : p := h
theorem known_ans (ext : CallF) (k : Nat) (b l : IV) (t : Int) (p q : Nat) (hk : maxLen + (6) ≤ k) (hb : Ok b) : ans (tab.run ext k) 48 [.iv p 29 b, .int .i64 t, .iv q 46 l] 2 = some ([.one (.at (.bool (KN b t l)))], [4]) := by
  obtain ⟨k, rfl⟩ : ∃ k', k = k' + 1 := ⟨k - 1, by omega⟩
  have hk1 : maxLen < k := by omega
  have hk0 : 0 < k := by omega
  have hk_0 : maxLen + (2) ≤ k := by omega
  refine fn_run (fx := fx48) (m := 24) 27 rfl rfl rfl rfl (fun st hn hg hr => ?_)
  have g0 : st.get (.tmp 0) = .v (.a (.iv p 29 b)) := hg 0 (of_decide_eq_true rfl)
  have g1 : st.get (.tmp 1) = .v (.a (.int .i64 t)) := hg 1 (of_decide_eq_true rfl)
  have g2 : st.get (.tmp 2) = .v (.a (.iv q 46 l)) := hg 2 (of_decide_eq_true rfl)
  have r0 := hr 0
  have r1 := hr 1
  clear hg hr
  rw [co48]
  simp only [Try.f48, Option.getD_some]
  unfold KN
  simp (maxDischargeDepth := 9) only [go_sem, Nat.reduceMul, Nat.reduceAdd, Nat.reduceLeDiff, Int.reduceSub, Int.reduceNeg, Int.reduceLT, Int.reduceLE, Int.reduceEq, *, lsame2_ans]
  refine gen_st (fun s0 hg hr hn0 => ?_)
  have e1 := hg 1
  have e2 := hg 2
  have e10 := hg 10
  have e11 := hg 11
  have e12 := hg 12
  have q0 := hr 0
  clear hg hr
  simp only [go_sem, *] at hn0 e1 e2 e10 e11 e12 q0
  have hl1 := ok_len (ok_fld (j := 1) hb)
  refine nr (runs_for (asL (fld b 1)) (fun (_ : Unit) x => if (decide (asI (fld x 0) = t) && SM (fld x 1) l) = true then .ret true else .next ()) () 27 (fun i a => [(1, s0.get (.tmp 1)), (2, s0.get (.tmp 2)), (10, s0.get (.tmp 10)), (11, s0.get (.tmp 11)), (12, .v (.a (.int .i64 i)))]) (fun i a => [(0, s0.row 0)]) (fun i a => True) (by omega) ?_ (trivial) ?_ ?_ ?_ ?_)
  · simp (maxDischargeDepth := 9) only [go_sem, Nat.reduceMul, Nat.reduceAdd, Nat.reduceLeDiff, Int.reduceSub, Int.reduceNeg, Int.reduceLT, Int.reduceLE, Int.reduceEq, *, lsame2_ans]
  · intro i a; simp (maxDischargeDepth := 9) only [go_sem, Nat.reduceMul, Nat.reduceAdd, Nat.reduceLeDiff, Int.reduceSub, Int.reduceNeg, Int.reduceLT, Int.reduceLE, Int.reduceEq, *, lsame2_ans]
  · intro i a; simp (maxDischargeDepth := 9) only [go_sem, Nat.reduceMul, Nat.reduceAdd, Nat.reduceLeDiff, Int.reduceSub, Int.reduceNeg, Int.reduceLT, Int.reduceLE, Int.reduceEq, *, lsame2_ans]
  · intro i x a s hx hi hI hS
    clear hn0 e12
    simp only [go_sem] at hS
    obtain ⟨f1, f2, f10, f11, f12, m0, hn⟩ := hS
    have hw := wrap_succ hi (hl1)
    have hox : Ok x := ok_get (ok_fld hb) hx
    refine rn ?_
    simp (maxDischargeDepth := 9) only [go_sem, Nat.reduceMul, Nat.reduceAdd, Nat.reduceLeDiff, Int.reduceSub, Int.reduceNeg, Int.reduceLT, Int.reduceLE, Int.reduceEq, *, lsame2_ans]
    all_goals exact AU_known
  · intro a s hI hf hS
    clear hn0 e12
    simp only [go_sem] at hS
    obtain ⟨f1, f2, f10, f11, f12, m0, hn⟩ := hS
    try simp only [go_sem] at hf
    refine rn ?_
    simp (maxDischargeDepth := 9) only [go_sem, Nat.reduceMul, Nat.reduceAdd, Nat.reduceLeDiff, Int.reduceSub, Int.reduceNeg, Int.reduceLT, Int.reduceLE, Int.reduceEq, *, lsame2_ans]
    all_goals exact AU_known
theorem AU_targets {p : Prop} (h : p := by
  repeat' (first | (with_reducible refine condLt (fun h h' => ?_) (fun h h' => ?_)) | (with_reducible refine condLe (fun h h' => ?_) (fun h h' => ?_)) | (with_reducible refine dop_val ?_) | (with_reducible refine YsLt (fun h h' => ?_) (fun h h' => ?_)) | (with_reducible refine YsLe (fun h h' => ?_) (fun h h' => ?_)) | (with_reducible refine condP (fun h => ?_) (fun h => ?_)) | (with_reducible refine condN (fun h => ?_) (fun h => ?_)) | (with_reducible refine condB (fun h => ?_) (fun h => ?_)) | (with_reducible refine condR (fun h => ?_) (fun h => ?_)) | (with_reducible refine YsB (fun h => ?_) (fun h => ?_)) | (with_reducible refine YsC (fun h => ?_) (fun h => ?_)) | (with_reducible refine Ys_ite (fun h => ?_) (fun h => ?_)) | (intro h) | (with_reducible refine draw_look (by kernel_rfl) (by kernel_rfl) ?_) | (simp (maxDischargeDepth := 9) only [go_sem, Nat.reduceMul, Nat.reduceAdd, Nat.reduceLeDiff, Int.reduceSub, Int.reduceNeg, Int.reduceLT, Int.reduceLE, Int.reduceEq, *]) | (exfalso; omega))) : p := h
theorem targets_ans (ext : CallF) (k : Nat) (l : IV) (p : Nat) (hk : maxLen + (2) ≤ k) (hv : Ok l) (hz : (asL l).length ≤ 100000) : ans (tab.run ext k) 78 [.iv p 60 l] 3 = some ([.one (.own 2 3 (tgs l (asL l).length))], [46]) := by
  obtain ⟨k, rfl⟩ : ∃ k', k = k' + 1 := ⟨k - 1, by omega⟩
  have hk1 : maxLen < k := by omega
  have hk0 : 0 < k := by omega
  refine fn_run (fx := fx78) (m := 18) 19 rfl rfl rfl rfl (fun st hn hg hr => ?_)
  have g0 : st.get (.tmp 0) = .v (.a (.iv p 60 l)) := hg 0 (of_decide_eq_true rfl)
  have r0 := hr 0
  have r1 := hr 1
  have r2 := hr 2
  clear hg hr
  rw [co78]
  simp only [Try.f78, Option.getD_some]
  simp (maxDischargeDepth := 9) only [go_sem, Nat.reduceMul, Nat.reduceAdd, Nat.reduceLeDiff, Int.reduceSub, Int.reduceNeg, Int.reduceLT, Int.reduceLE, Int.reduceEq, *]
  refine gen_st (fun s0 hg hr hn0 => ?_)
  have e2 := hg 2
  have e6 := hg 6
  have e7 := hg 7
  have e8 := hg 8
  have e3 := hg 3
  have q1 := hr 1
  clear hg hr
  simp only [go_sem, *] at hn0 e2 e6 e7 e8 e3 q1
  have hl := ok_len hv
  refine nr (runs_forN (asL l).length (fun (_ : Unit) _ => Stp.next (ρ := Unit) ()) () 19 (fun i a => [(2, s0.get (.tmp 2)), (6, s0.get (.tmp 6)), (7, s0.get (.tmp 7)), (3, .v (.a (.own 1))), (8, .v (.a (.int .i64 (i : Nat))))]) (fun i a => [(1, some (.arr 2 3 (tgs l i)))]) (fun i a => True) (by omega) ?_ (trivial) ?_ ?_ ?_ ?_)
  · simp (maxDischargeDepth := 9) only [go_sem, Nat.reduceMul, Nat.reduceAdd, Nat.reduceLeDiff, Int.reduceSub, Int.reduceNeg, Int.reduceLT, Int.reduceLE, Int.reduceEq, *]
  · intro i a; simp (maxDischargeDepth := 9) only [go_sem, Nat.reduceMul, Nat.reduceAdd, Nat.reduceLeDiff, Int.reduceSub, Int.reduceNeg, Int.reduceLT, Int.reduceLE, Int.reduceEq, *]
  · intro i a; simp (maxDischargeDepth := 9) only [go_sem, Nat.reduceMul, Nat.reduceAdd, Nat.reduceLeDiff, Int.reduceSub, Int.reduceNeg, Int.reduceLT, Int.reduceLE, Int.reduceEq, *]
  · intro i a s hi hI hS
    clear hn0 e8 e3 q1
    simp only [go_sem] at hS
    obtain ⟨f2, f6, f7, f3, f8, m1, hn⟩ := hS
    have hw := wrap_succ hi (ok_len hv)
    have htl : (tgs l i).length + 1 ≤ 1000000 := by rw [tgs_len]; omega
    refine rn ?_
    simp (maxDischargeDepth := 9) only [go_sem, Nat.reduceMul, Nat.reduceAdd, Nat.reduceLeDiff, Int.reduceSub, Int.reduceNeg, Int.reduceLT, Int.reduceLE, Int.reduceEq, *]
    all_goals exact AU_targets
  · intro a s hI hf hS
    clear hn0 e8 e3 q1
    simp only [go_sem] at hS
    obtain ⟨f2, f6, f7, f3, f8, m1, hn⟩ := hS
    try simp only [go_sem] at hf
    refine rn ?_
    simp (maxDischargeDepth := 9) only [go_sem, Nat.reduceMul, Nat.reduceAdd, Nat.reduceLeDiff, Int.reduceSub, Int.reduceNeg, Int.reduceLT, Int.reduceLE, Int.reduceEq, *]
    all_goals exact AU_targets
end Go.Proofs.Ytficdonjodadlaa
end
section
set_option linter.unusedVariables false
set_option linter.unusedSimpArgs false
namespace Go.Ev
section
variable {T : Tab} {fx : Fx} {call : CallF} {k cur : Nat} {st st' : St} {Q : Ex → St → Prop}
theorem eff_valW {o : Oper} {v : SV} {W : List Nat} (h3 : ((st.keysOf o).any fun x => W.contains x) = false) (h1 : T.val fx call o st = some v) : T.eff fx call W o st = some (v, none) := by
  unfold Tab.eff
  split
  · rename_i hop; rw [Tab.val] at h1; simp only [hop] at h1; split at h1 <;> cases h1
  · rename_i hop; rw [Tab.val] at h1; simp only [hop] at h1; split at h1 <;> cases h1
  · rw [h3]; simp only [Bool.false_eq_true, if_false, h1, Option.map_some]
theorem dop_valW {ops : Array Oper} {W : List Nat} {b : Bool} {o : Oper} {R : St → Prop} {t : Tg R} (h3 : ((st.keysOf o).any fun x => W.contains x) = false) (h : Ys (gv T fx call ops o st) (fun v => R (st.set o.dst v)) .mk) : Ys (T.dop fx call ops W b o st) R t := by
  obtain ⟨v, h1, h2⟩ := Ys_out h
  refine Ys_in ⟨_, ?_, h2⟩
  unfold gv at h1
  unfold Tab.dop
  have keep : (b = true → T.one fx call ops o st = some (st.set o.dst v)) → ((match o.guard with
      | none => (T.eff fx call W o st).map (st.apply o.dst)
      | some (j, c) => (yieldOf ops st j).bind fun y => if y = some c then (T.eff fx call W o st).map (st.apply o.dst) else some (st.set o.dst (.tup []))) = some (st.set o.dst v)) → (if b = true then T.one fx call ops o st else (match o.guard with
      | none => (T.eff fx call W o st).map (st.apply o.dst)
      | some (j, c) => (yieldOf ops st j).bind fun y => if y = some c then (T.eff fx call W o st).map (st.apply o.dst) else some (st.set o.dst (.tup [])))) = some (st.set o.dst v) := by
    intro e1 e2; by_cases hb : b = true
    · rw [if_pos hb]; exact e1 hb
    · rw [if_neg hb]; exact e2
  refine keep (fun _ => ?_) ?_
  · unfold Tab.one
    cases hg : o.guard with
    | none => rw [hg] at h1; exact val_step h1
    | some jb =>
      obtain ⟨j, c⟩ := jb
      rw [hg] at h1
      simp only at h1 ⊢
      rw [Option.bind_eq_some_iff] at h1
      obtain ⟨y, hy, h4⟩ := h1
      rw [hy, Option.bind_some]
      split at h4
      · rename_i e; rw [if_pos e]; exact val_step h4
      · rename_i e; rw [if_neg e]; cases h4; rfl
  · cases hg : o.guard with
    | none => rw [hg] at h1; simp only at h1 ⊢; rw [eff_valW h3 h1]; rfl
    | some jb =>
      obtain ⟨j, c⟩ := jb
      rw [hg] at h1
      simp only at h1 ⊢
      rw [Option.bind_eq_some_iff] at h1
      obtain ⟨y, hy, h4⟩ := h1
      rw [hy, Option.bind_some]
      split at h4
      · rename_i e; rw [if_pos e, eff_valW h3 h4]; rfl
      · rename_i e; rw [if_neg e]; cases h4; rfl
theorem dop_eff {ops : Array Oper} {W : List Nat} {b : Bool} {o : Oper} {R : St → Prop} {t : Tg R} (hb : b = false) (hg : o.guard = none) (h : Ys (T.eff fx call W o st) (fun e => R (st.apply o.dst e)) .mk) : Ys (T.dop fx call ops W b o st) R t := by
  obtain ⟨v, h1, h2⟩ := Ys_out h
  refine Ys_in ⟨_, ?_, h2⟩
  unfold Tab.dop
  rw [if_neg (by rw [hb]; simp)]
  simp only [hg, h1, Option.map_some]
theorem draw_with {id : Nat} {ops : Array Oper} {t : Tg Q} (W : List Nat) (h : drawOk fx ops = true) (hW : drawW fx ops = W) (h2 : Ys (T.dops fx call ops W (drawPlan ops) st) (Q .normal) .mk) : Rn T fx call k cur (.region id ops true) st Q t := by rw [Runs_Draw h, hW]; exact h2
theorem apply_some {d : Option Tmp} {v : SV} {k : Nat} {r : Row} : st.apply d (v, some (k, r)) = (st.putRow k (some r)).set d v := (rfl)
theorem apply_none {d : Option Tmp} {v : SV} : st.apply d (v, none) = st.set d v := (rfl)
attribute [go_sem] apply_some apply_none
end
end Go.Ev
end
section
set_option linter.unusedVariables false
set_option linter.unusedSimpArgs false
namespace Go.Ev
section
variable {T : Tab} {fx : Fx} {call : CallF} {k cur : Nat} {st st' : St} {Q : Ex → St → Prop}
def St.push (st : St) (v : SV) : St := { st with env := st.env ++ [v] }
def St.pop (st : St) (n : Nat) : St := { st with env := st.env.take n }
theorem get_push_lt {v : SV} {t : Nat} (h : t < st.env.length) : (st.push v).get (.tmp t) = st.get (.tmp t) := by
  simp [St.push, St.get, List.getD, List.getElem?_append_left h]
theorem get_push_eq {v : SV} {n : Nat} (h : st.env.length = n) : (st.push v).get (.tmp n) = v := by subst h; simp [St.push, St.get, List.getD]
theorem len_push {v : SV} : (st.push v).env.length = st.env.length + 1 := by simp [St.push]
theorem row_push {v : SV} {j : Nat} : (st.push v).row j = st.row j := (rfl)
theorem get_pop {t n : Nat} (h : t < n) : (st.pop n).get (.tmp t) = st.get (.tmp t) := by
  simp [St.pop, St.get, List.getD, List.getElem?_take, h]
theorem len_pop {n : Nat} (h : n ≤ st.env.length) : (st.pop n).env.length = n := by simp [St.pop]; omega
theorem row_pop {n j : Nat} : (st.pop n).row j = st.row j := (rfl)
def gAt (v : SV) (j : Nat) : At := match v with | .v (.g _ l) => l.getD j .U | _ => .U
theorem gAt_g {t : TypeId} {l : List At} {j : Nat} : gAt (.v (.g t l)) j = l.getD j .U := (rfl)
theorem fieldOf_gAt {n j : Nat} : st.fieldOf n j = gAt (st.get (.tmp n)) j := by
  simp only [St.fieldOf, gAt, St.get]
  cases st.env.getD n U with
  | v x => cases x <;> rfl
  | tup l => rfl
def gSet (v : SV) (j : Nat) (x : At) : SV := match v with | .v (.g t l) => .v (.g t (l.set j x)) | v => v
theorem gSet_g {t : TypeId} {l : List At} {j : Nat} {x : At} : gSet (.v (.g t l)) j x = .v (.g t (l.set j x)) := (rfl)
theorem setField_eq {n j : Nat} {x : At} (h : n < st.env.length) : st.setField n j x = st.set (some n) (gSet (st.get (.tmp n)) j x) := by
  have e : st.env.getD n U = st.env[n] := by simp [List.getD, h]
  simp only [St.setField, gSet, St.get, St.set]
  split
  · rename_i hh; rw [hh]
  · rename_i hne
    have : (match st.env.getD n U with | .v (.g t l) => SV.v (.g t (l.set j x)) | v => v) = st.env.getD n U := by
      split
      · rename_i t l hh; exact absurd hh (hne t l)
      · rfl
    rw [this, e, List.set_getElem_self]
theorem setBoxG_eq {t : TypeId} {fs : List (TypeId × Nat)} {own : List Nat} {v : V1} {j : Nat} : St.setBoxG T st j t fs own v = if v.isTy t = true then (St.settle T st.env.length own fs 0 (st.push (.v (.g t (T.fields t v))))).bind fun st1 => (v1 ((St.adopt T st.env.length j own fs 0 st1).get (.tmp st.env.length))).bind fun c => ((St.adopt T st.env.length j own fs 0 st1).pop st.env.length).rebox j c else none := by
  unfold St.setBoxG
  split
  · congr 1; funext st1
    simp only [St.get]
    cases (St.adopt T st.env.length j own fs 0 st1).env.getD st.env.length U with
    | v x => simp only [v1, Option.bind_some]; rfl
    | tup l => rfl
  · rfl
theorem isTy_iv {p : Nat} {t t' : TypeId} {v : IV} : V1.isTy t (.a (.iv p t' v)) = decide (t' = t) := (rfl)
theorem isTy_g {t t' : TypeId} {l : List At} : V1.isTy t (.g t' l) = decide (t' = t) := (rfl)
theorem fields_iv {p : Nat} {t t' : TypeId} {v : IV} : T.fields t (.a (.iv p t' v)) = match T.ty t with | .agg fs => (List.range fs.length).map fun j => T.mk1 p (fs.getD j (0, 0)).1 (fld v j) | _ => [] := (rfl)
theorem fields_g {t t' : TypeId} {l : List At} : T.fields t (.g t' l) = l := (rfl)
attribute [go_sem] get_push_lt get_push_eq len_push row_push get_pop len_pop row_pop gAt_g fieldOf_gAt gSet_g setField_eq setBoxG_eq isTy_iv isTy_g fields_iv fields_g St.settle St.adopt St.adopt1 St.putField List.range_zero List.cons_append Nat.lt_irrefl List.getD_cons_zero List.getD_cons_succ List.set_cons_zero List.set_cons_succ At.isOwn
end
end Go.Ev
end
section
set_option linter.unusedVariables false
namespace Go.Ev
def ics (n : IV) (i : Nat) : List IV := ((List.range i).filter fun k => decide (asI (fld ((asL (fld n 1)).getD k .N) 1) = 1)).map fun (k : Nat) => .A [.I (k : Int), .I (-1)]
theorem ics_zero {n : IV} : ics n 0 = [] := (rfl)
theorem ics_succ {n : IV} {i : Nat} : ics n (i + 1) = if asI (fld ((asL (fld n 1)).getD i .N) 1) = 1 then ics n i ++ [.A [.I (i : Int), .I (-1)]] else ics n i := by
  unfold ics; rw [List.range_succ, List.filter_append, List.map_append]
  by_cases h : asI (fld ((asL (fld n 1)).getD i .N) 1) = 1
  · rw [if_pos h, List.filter_cons_of_pos (by simpa using h)]; rfl
  · rw [if_neg h, List.filter_cons_of_neg (by simpa using h), List.filter_nil, List.map_nil, List.append_nil]
theorem ics_len {n : IV} {i : Nat} : (ics n i).length ≤ i := by
  unfold ics; rw [List.length_map]; exact Nat.le_trans (List.length_filter_le _ _) (by simp)
attribute [go_sem] Int.natCast_eq_zero
attribute [go_sem] ics_zero ics_succ
def IE (n : IV) : Int := if (NC n).1 = 0 then (if PN n = true then (if ON n = true then (if ((asL (fld n 2)).any fun x => decide ((asL (fld x 1)).length = 0)) = true then 12 else if ((List.range (asL (fld n 1)).length).any fun i => decide ((1 : Int) < asI (fld ((asL (fld n 1)).getD i .N) 1))) = true then 18 else 0) else 12) else 12) else (NC n).1
def ibR (n : IV) : RV := if IE n = 0 then .g 29 [.at (.iv 2 26 (.L (ics n (asL (fld n 1)).length))), .at (.iv 2 27 .N)] else .one (.at (.iv 2 29 (.A [.N, .N])))
theorem outV_g {T : Tab} {st : St} {t t' : TypeId} {l : List At} : T.outV st t (.g t' l) = if t = t' then (T.outL st (aggOf T t) l).bind fun (st, rs) => some (st, .g t rs) else none := (rfl)
attribute [go_sem] outV_g Tab.outL
end Go.Ev
end
section
set_option linter.unusedSimpArgs false
set_option linter.unusedVariables false
set_option maxRecDepth 100000
set_option maxHeartbeats 4000000
namespace Go.Proofs.Ytficdonjodadlaa
open Go.Ev Go.Proofs
theorem inputs_ans (ext : CallF) (k : Nat) (hN : ExN ext) (n : IV) (t : Int) (p : Nat) (hk : maxLen + (20) ≤ k) (hnn : Ok n) (hs : (asL (fld (el (asL (fld n 2)) t) 1)).length ≤ 100000) : ans (tab.run ext k) 47 [.iv p 25 n, .int .i64 t] 1 = some ([.one (inR (tIn n t) (tgs (fld (el (asL (fld n 2)) t) 1) (asL (fld (el (asL (fld n 2)) t) 1)).length))], [46]) := by
  obtain ⟨k, rfl⟩ : ∃ k', k = k' + 1 := ⟨k - 1, by omega⟩
  have hk1 : maxLen < k := by omega
  have hk0 : 0 < k := by omega
  have hk_0 : maxLen + (12) ≤ k := by omega
  have hk_1 : maxLen + (2) ≤ k := by omega
  refine fn_run (fx := fx47) (m := 24) 26 rfl rfl rfl rfl (fun st hn hg hr => ?_)
  have g0 : st.get (.tmp 0) = .v (.a (.iv p 25 n)) := hg 0 (of_decide_eq_true rfl)
  have g1 : st.get (.tmp 1) = .v (.a (.int .i64 t)) := hg 1 (of_decide_eq_true rfl)
  have r0 := hr 0
  clear hg hr
  rw [co47]
  simp only [Try.f47, Option.getD_some]
  unfold tIn
  by_cases hc0 : VN n = true
  case neg =>
    have hc0n : VN n = false := by simpa using hc0
    simp (maxDischargeDepth := 9) only [go_sem, Nat.reduceMul, Nat.reduceAdd, Nat.reduceLeDiff, Int.reduceSub, Int.reduceNeg, Int.reduceLT, Int.reduceLE, Int.reduceEq, *, valid_ans, targets_ans]
    repeat' (first | (with_reducible refine condLt (fun h h' => ?_) (fun h h' => ?_)) | (with_reducible refine condLe (fun h h' => ?_) (fun h h' => ?_)) | (with_reducible refine dop_val ?_) | (with_reducible refine YsLt (fun h h' => ?_) (fun h h' => ?_)) | (with_reducible refine YsLe (fun h h' => ?_) (fun h h' => ?_)) | (with_reducible refine condP (fun h => ?_) (fun h => ?_)) | (with_reducible refine condN (fun h => ?_) (fun h => ?_)) | (with_reducible refine condB (fun h => ?_) (fun h => ?_)) | (with_reducible refine condR (fun h => ?_) (fun h => ?_)) | (with_reducible refine YsB (fun h => ?_) (fun h => ?_)) | (with_reducible refine YsC (fun h => ?_) (fun h => ?_)) | (with_reducible refine Ys_ite (fun h => ?_) (fun h => ?_)) | (intro h) | (with_reducible refine draw_look (by kernel_rfl) (by kernel_rfl) ?_) | (simp (maxDischargeDepth := 9) only [go_sem, Nat.reduceMul, Nat.reduceAdd, Nat.reduceLeDiff, Int.reduceSub, Int.reduceNeg, Int.reduceLT, Int.reduceLE, Int.reduceEq, *, valid_ans, targets_ans]) | (exfalso; omega))
  by_cases hc1 : (0 : Int) ≤ t
  case neg =>
    skip
    simp (maxDischargeDepth := 9) only [go_sem, Nat.reduceMul, Nat.reduceAdd, Nat.reduceLeDiff, Int.reduceSub, Int.reduceNeg, Int.reduceLT, Int.reduceLE, Int.reduceEq, *, valid_ans, targets_ans]
    repeat' (first | (with_reducible refine condLt (fun h h' => ?_) (fun h h' => ?_)) | (with_reducible refine condLe (fun h h' => ?_) (fun h h' => ?_)) | (with_reducible refine dop_val ?_) | (with_reducible refine YsLt (fun h h' => ?_) (fun h h' => ?_)) | (with_reducible refine YsLe (fun h h' => ?_) (fun h h' => ?_)) | (with_reducible refine condP (fun h => ?_) (fun h => ?_)) | (with_reducible refine condN (fun h => ?_) (fun h => ?_)) | (with_reducible refine condB (fun h => ?_) (fun h => ?_)) | (with_reducible refine condR (fun h => ?_) (fun h => ?_)) | (with_reducible refine YsB (fun h => ?_) (fun h => ?_)) | (with_reducible refine YsC (fun h => ?_) (fun h => ?_)) | (with_reducible refine Ys_ite (fun h => ?_) (fun h => ?_)) | (intro h) | (with_reducible refine draw_look (by kernel_rfl) (by kernel_rfl) ?_) | (simp (maxDischargeDepth := 9) only [go_sem, Nat.reduceMul, Nat.reduceAdd, Nat.reduceLeDiff, Int.reduceSub, Int.reduceNeg, Int.reduceLT, Int.reduceLE, Int.reduceEq, *, valid_ans, targets_ans]) | (exfalso; omega))
  by_cases hc2 : t < ((asL (fld n 2)).length : Int)
  case neg =>
    skip
    simp (maxDischargeDepth := 9) only [go_sem, Nat.reduceMul, Nat.reduceAdd, Nat.reduceLeDiff, Int.reduceSub, Int.reduceNeg, Int.reduceLT, Int.reduceLE, Int.reduceEq, *, valid_ans, targets_ans]
    repeat' (first | (with_reducible refine condLt (fun h h' => ?_) (fun h h' => ?_)) | (with_reducible refine condLe (fun h h' => ?_) (fun h h' => ?_)) | (with_reducible refine dop_val ?_) | (with_reducible refine YsLt (fun h h' => ?_) (fun h h' => ?_)) | (with_reducible refine YsLe (fun h h' => ?_) (fun h h' => ?_)) | (with_reducible refine condP (fun h => ?_) (fun h => ?_)) | (with_reducible refine condN (fun h => ?_) (fun h => ?_)) | (with_reducible refine condB (fun h => ?_) (fun h => ?_)) | (with_reducible refine condR (fun h => ?_) (fun h => ?_)) | (with_reducible refine YsB (fun h => ?_) (fun h => ?_)) | (with_reducible refine YsC (fun h => ?_) (fun h => ?_)) | (with_reducible refine Ys_ite (fun h => ?_) (fun h => ?_)) | (intro h) | (with_reducible refine draw_look (by kernel_rfl) (by kernel_rfl) ?_) | (simp (maxDischargeDepth := 9) only [go_sem, Nat.reduceMul, Nat.reduceAdd, Nat.reduceLeDiff, Int.reduceSub, Int.reduceNeg, Int.reduceLT, Int.reduceLE, Int.reduceEq, *, valid_ans, targets_ans]) | (exfalso; omega))
  simp (maxDischargeDepth := 9) only [go_sem, Nat.reduceMul, Nat.reduceAdd, Nat.reduceLeDiff, Int.reduceSub, Int.reduceNeg, Int.reduceLT, Int.reduceLE, Int.reduceEq, *, valid_ans, targets_ans]
  repeat' (first | (with_reducible refine condLt (fun h h' => ?_) (fun h h' => ?_)) | (with_reducible refine condLe (fun h h' => ?_) (fun h h' => ?_)) | (with_reducible refine dop_val ?_) | (with_reducible refine YsLt (fun h h' => ?_) (fun h h' => ?_)) | (with_reducible refine YsLe (fun h h' => ?_) (fun h h' => ?_)) | (with_reducible refine condP (fun h => ?_) (fun h => ?_)) | (with_reducible refine condN (fun h => ?_) (fun h => ?_)) | (with_reducible refine condB (fun h => ?_) (fun h => ?_)) | (with_reducible refine condR (fun h => ?_) (fun h => ?_)) | (with_reducible refine YsB (fun h => ?_) (fun h => ?_)) | (with_reducible refine YsC (fun h => ?_) (fun h => ?_)) | (with_reducible refine Ys_ite (fun h => ?_) (fun h => ?_)) | (intro h) | (with_reducible refine draw_look (by kernel_rfl) (by kernel_rfl) ?_) | (simp (maxDischargeDepth := 9) only [go_sem, Nat.reduceMul, Nat.reduceAdd, Nat.reduceLeDiff, Int.reduceSub, Int.reduceNeg, Int.reduceLT, Int.reduceLE, Int.reduceEq, *, valid_ans, targets_ans]) | (exfalso; omega))
theorem outputs_ans (ext : CallF) (k : Nat) (hN : ExN ext) (n : IV) (t : Int) (p : Nat) (hk : maxLen + (20) ≤ k) (hnn : Ok n) (hs : (asL (fld (el (asL (fld n 2)) t) 2)).length ≤ 100000) : ans (tab.run ext k) 52 [.iv p 25 n, .int .i64 t] 1 = some ([.one (inR (tIn n t) (tgs (fld (el (asL (fld n 2)) t) 2) (asL (fld (el (asL (fld n 2)) t) 2)).length))], [46]) := by
  obtain ⟨k, rfl⟩ : ∃ k', k = k' + 1 := ⟨k - 1, by omega⟩
  have hk1 : maxLen < k := by omega
  have hk0 : 0 < k := by omega
  have hk_0 : maxLen + (12) ≤ k := by omega
  have hk_1 : maxLen + (2) ≤ k := by omega
  refine fn_run (fx := fx52) (m := 24) 26 rfl rfl rfl rfl (fun st hn hg hr => ?_)
  have g0 : st.get (.tmp 0) = .v (.a (.iv p 25 n)) := hg 0 (of_decide_eq_true rfl)
  have g1 : st.get (.tmp 1) = .v (.a (.int .i64 t)) := hg 1 (of_decide_eq_true rfl)
  have r0 := hr 0
  clear hg hr
  rw [co52]
  simp only [Try.f52, Option.getD_some]
  unfold tIn
  by_cases hc0 : VN n = true
  case neg =>
    have hc0n : VN n = false := by simpa using hc0
    simp (maxDischargeDepth := 9) only [go_sem, Nat.reduceMul, Nat.reduceAdd, Nat.reduceLeDiff, Int.reduceSub, Int.reduceNeg, Int.reduceLT, Int.reduceLE, Int.reduceEq, *, valid_ans, targets_ans]
    repeat' (first | (with_reducible refine condLt (fun h h' => ?_) (fun h h' => ?_)) | (with_reducible refine condLe (fun h h' => ?_) (fun h h' => ?_)) | (with_reducible refine dop_val ?_) | (with_reducible refine YsLt (fun h h' => ?_) (fun h h' => ?_)) | (with_reducible refine YsLe (fun h h' => ?_) (fun h h' => ?_)) | (with_reducible refine condP (fun h => ?_) (fun h => ?_)) | (with_reducible refine condN (fun h => ?_) (fun h => ?_)) | (with_reducible refine condB (fun h => ?_) (fun h => ?_)) | (with_reducible refine condR (fun h => ?_) (fun h => ?_)) | (with_reducible refine YsB (fun h => ?_) (fun h => ?_)) | (with_reducible refine YsC (fun h => ?_) (fun h => ?_)) | (with_reducible refine Ys_ite (fun h => ?_) (fun h => ?_)) | (intro h) | (with_reducible refine draw_look (by kernel_rfl) (by kernel_rfl) ?_) | (simp (maxDischargeDepth := 9) only [go_sem, Nat.reduceMul, Nat.reduceAdd, Nat.reduceLeDiff, Int.reduceSub, Int.reduceNeg, Int.reduceLT, Int.reduceLE, Int.reduceEq, *, valid_ans, targets_ans]) | (exfalso; omega))
  by_cases hc1 : (0 : Int) ≤ t
  case neg =>
    skip
    simp (maxDischargeDepth := 9) only [go_sem, Nat.reduceMul, Nat.reduceAdd, Nat.reduceLeDiff, Int.reduceSub, Int.reduceNeg, Int.reduceLT, Int.reduceLE, Int.reduceEq, *, valid_ans, targets_ans]
    repeat' (first | (with_reducible refine condLt (fun h h' => ?_) (fun h h' => ?_)) | (with_reducible refine condLe (fun h h' => ?_) (fun h h' => ?_)) | (with_reducible refine dop_val ?_) | (with_reducible refine YsLt (fun h h' => ?_) (fun h h' => ?_)) | (with_reducible refine YsLe (fun h h' => ?_) (fun h h' => ?_)) | (with_reducible refine condP (fun h => ?_) (fun h => ?_)) | (with_reducible refine condN (fun h => ?_) (fun h => ?_)) | (with_reducible refine condB (fun h => ?_) (fun h => ?_)) | (with_reducible refine condR (fun h => ?_) (fun h => ?_)) | (with_reducible refine YsB (fun h => ?_) (fun h => ?_)) | (with_reducible refine YsC (fun h => ?_) (fun h => ?_)) | (with_reducible refine Ys_ite (fun h => ?_) (fun h => ?_)) | (intro h) | (with_reducible refine draw_look (by kernel_rfl) (by kernel_rfl) ?_) | (simp (maxDischargeDepth := 9) only [go_sem, Nat.reduceMul, Nat.reduceAdd, Nat.reduceLeDiff, Int.reduceSub, Int.reduceNeg, Int.reduceLT, Int.reduceLE, Int.reduceEq, *, valid_ans, targets_ans]) | (exfalso; omega))
  by_cases hc2 : t < ((asL (fld n 2)).length : Int)
  case neg =>
    skip
    simp (maxDischargeDepth := 9) only [go_sem, Nat.reduceMul, Nat.reduceAdd, Nat.reduceLeDiff, Int.reduceSub, Int.reduceNeg, Int.reduceLT, Int.reduceLE, Int.reduceEq, *, valid_ans, targets_ans]
    repeat' (first | (with_reducible refine condLt (fun h h' => ?_) (fun h h' => ?_)) | (with_reducible refine condLe (fun h h' => ?_) (fun h h' => ?_)) | (with_reducible refine dop_val ?_) | (with_reducible refine YsLt (fun h h' => ?_) (fun h h' => ?_)) | (with_reducible refine YsLe (fun h h' => ?_) (fun h h' => ?_)) | (with_reducible refine condP (fun h => ?_) (fun h => ?_)) | (with_reducible refine condN (fun h => ?_) (fun h => ?_)) | (with_reducible refine condB (fun h => ?_) (fun h => ?_)) | (with_reducible refine condR (fun h => ?_) (fun h => ?_)) | (with_reducible refine YsB (fun h => ?_) (fun h => ?_)) | (with_reducible refine YsC (fun h => ?_) (fun h => ?_)) | (with_reducible refine Ys_ite (fun h => ?_) (fun h => ?_)) | (intro h) | (with_reducible refine draw_look (by kernel_rfl) (by kernel_rfl) ?_) | (simp (maxDischargeDepth := 9) only [go_sem, Nat.reduceMul, Nat.reduceAdd, Nat.reduceLeDiff, Int.reduceSub, Int.reduceNeg, Int.reduceLT, Int.reduceLE, Int.reduceEq, *, valid_ans, targets_ans]) | (exfalso; omega))
  simp (maxDischargeDepth := 9) only [go_sem, Nat.reduceMul, Nat.reduceAdd, Nat.reduceLeDiff, Int.reduceSub, Int.reduceNeg, Int.reduceLT, Int.reduceLE, Int.reduceEq, *, valid_ans, targets_ans]
  repeat' (first | (with_reducible refine condLt (fun h h' => ?_) (fun h h' => ?_)) | (with_reducible refine condLe (fun h h' => ?_) (fun h h' => ?_)) | (with_reducible refine dop_val ?_) | (with_reducible refine YsLt (fun h h' => ?_) (fun h h' => ?_)) | (with_reducible refine YsLe (fun h h' => ?_) (fun h h' => ?_)) | (with_reducible refine condP (fun h => ?_) (fun h => ?_)) | (with_reducible refine condN (fun h => ?_) (fun h => ?_)) | (with_reducible refine condB (fun h => ?_) (fun h => ?_)) | (with_reducible refine condR (fun h => ?_) (fun h => ?_)) | (with_reducible refine YsB (fun h => ?_) (fun h => ?_)) | (with_reducible refine YsC (fun h => ?_) (fun h => ?_)) | (with_reducible refine Ys_ite (fun h => ?_) (fun h => ?_)) | (intro h) | (with_reducible refine draw_look (by kernel_rfl) (by kernel_rfl) ?_) | (simp (maxDischargeDepth := 9) only [go_sem, Nat.reduceMul, Nat.reduceAdd, Nat.reduceLeDiff, Int.reduceSub, Int.reduceNeg, Int.reduceLT, Int.reduceLE, Int.reduceEq, *, valid_ans, targets_ans]) | (exfalso; omega))
end Go.Proofs.Ytficdonjodadlaa
end
section
set_option linter.unusedVariables false
namespace Go.Ev
def outs (n b : IV) (i : Int) : List IV := tgs (fld (el (asL (fld n 2)) (asI (fld (el (asL (fld b 1)) i) 0))) 2) (asL (fld (el (asL (fld n 2)) (asI (fld (el (asL (fld b 1)) i) 0))) 2)).length
def poS (n b : IV) (i next : Int) (_ : Unit) (m : Nat) : Stp Unit Bool :=
  if asI ((asL (fld (el (asL (fld b 1)) i) 2)).getD m .N) = next + (m : Int) then
    if ((asL (fld b 0)).length : Int) ≤ asI ((asL (fld (el (asL (fld b 1)) i) 2)).getD m .N) then .ret true
    else if (decide (asI (fld (el (asL (fld b 0)) (asI ((asL (fld (el (asL (fld b 1)) i) 2)).getD m .N))) 0) = asI ((outs n b i).getD m .N)) && decide (asI (fld (el (asL (fld b 0)) (asI ((asL (fld (el (asL (fld b 1)) i) 2)).getD m .N))) 1) = i)) = true then .next () else .ret true
  else .ret true
def PO (n b : IV) (i next : Int) : Int := if (asL (fld (el (asL (fld b 1)) i) 2)).length = (outs n b i).length then (match foldS (poS n b i next) () (List.range (asL (fld (el (asL (fld b 1)) i) 2)).length) with | .ret _ => 7 | _ => 0) else 7
end Go.Ev
end
section
set_option linter.unusedSimpArgs false
set_option linter.unusedVariables false
set_option maxRecDepth 100000
set_option maxHeartbeats 4000000
namespace Go.Proofs.Ytficdonjodadlaa
open Go.Ev Go.Proofs
theorem AU_initial {p : Prop} (h : p := by
  repeat' (first | (with_reducible refine condLt (fun h h' => ?_) (fun h h' => ?_)) | (with_reducible refine condLe (fun h h' => ?_) (fun h h' => ?_)) | (with_reducible refine dop_val ?_) | (with_reducible refine YsLt (fun h h' => ?_) (fun h h' => ?_)) | (with_reducible refine YsLe (fun h h' => ?_) (fun h h' => ?_)) | (with_reducible refine condP (fun h => ?_) (fun h => ?_)) | (with_reducible refine condN (fun h => ?_) (fun h => ?_)) | (with_reducible refine condB (fun h => ?_) (fun h => ?_)) | (with_reducible refine condR (fun h => ?_) (fun h => ?_)) | (with_reducible refine YsB (fun h => ?_) (fun h => ?_)) | (with_reducible refine YsC (fun h => ?_) (fun h => ?_)) | (with_reducible refine Ys_ite (fun h => ?_) (fun h => ?_)) | (intro h) | (with_reducible refine draw_look (by kernel_rfl) (by kernel_rfl) ?_) | (simp (maxDischargeDepth := 9) only [go_sem, Nat.reduceMul, Nat.reduceAdd, Nat.reduceLeDiff, Int.reduceSub, Int.reduceNeg, Int.reduceLT, Int.reduceLE, Int.reduceEq, *, ncheck_ans, plain_ans, ordinary_ans]) | (exfalso; omega))) : p := h
theorem initial_ans (ext : CallF) (k : Nat) (hN : ExN ext) (n : IV) (p : Nat) (hk : maxLen + (24) ≤ k) (hnn : Ok n) (hzp : (asL (fld n 1)).length ≤ 1000) : ans (tab.run ext k) 13 [.iv p 25 n] 9 = some ([ibR n, .one (.at (.int .i64 (IE n)))], [29, 34]) := by
  obtain ⟨k, rfl⟩ : ∃ k', k = k' + 1 := ⟨k - 1, by omega⟩
  have hk1 : maxLen < k := by omega
  have hk0 : 0 < k := by omega
  have hk_0 : maxLen + (16) ≤ k := by omega
  have hk_1 : maxLen + (8) ≤ k := by omega
  refine fn_run (fx := fx13) (m := 63) 64 rfl rfl rfl rfl (fun st hn hg hr => ?_)
  have g0 : st.get (.tmp 0) = .v (.a (.iv p 25 n)) := hg 0 (of_decide_eq_true rfl)
  have r0 := hr 0
  have r1 := hr 1
  have r2 := hr 2
  have r3 := hr 3
  have r4 := hr 4
  have r5 := hr 5
  have r6 := hr 6
  have r7 := hr 7
  have r8 := hr 8
  clear hg hr
  rw [co13]
  simp only [Try.f13, Option.getD_some]
  have hl1 := ok_len (ok_fld (j := 1) hnn)
  have hl2 := ok_len (ok_fld (j := 2) hnn)
  unfold ibR IE
  by_cases h1 : (NC n).1 = 0
  case neg =>
    simp (maxDischargeDepth := 9) only [go_sem, Nat.reduceMul, Nat.reduceAdd, Nat.reduceLeDiff, Int.reduceSub, Int.reduceNeg, Int.reduceLT, Int.reduceLE, Int.reduceEq, *, ncheck_ans, plain_ans, ordinary_ans]
    with_reducible refine draw_with [1] (by kernel_rfl) (by kernel_rfl) ?_
    simp (maxDischargeDepth := 9) only [go_sem, Nat.reduceMul, Nat.reduceAdd, Nat.reduceLeDiff, Int.reduceSub, Int.reduceNeg, Int.reduceLT, Int.reduceLE, Int.reduceEq, *, ncheck_ans, plain_ans, ordinary_ans]
    with_reducible refine dop_valW ?_ ?_
    · simp only [St.keysOf, Op.operands, List.flatMap_cons, List.flatMap_nil, SV.keys, V1.keys, At.keys, go_sem, *]
      try rfl
    simp (maxDischargeDepth := 9) only [go_sem, Nat.reduceMul, Nat.reduceAdd, Nat.reduceLeDiff, Int.reduceSub, Int.reduceNeg, Int.reduceLT, Int.reduceLE, Int.reduceEq, *, ncheck_ans, plain_ans, ordinary_ans]
    with_reducible refine dop_valW ?_ ?_
    · simp only [St.keysOf, Op.operands, List.flatMap_cons, List.flatMap_nil, SV.keys, V1.keys, At.keys, go_sem, *]
      try rfl
    simp (maxDischargeDepth := 9) only [go_sem, Nat.reduceMul, Nat.reduceAdd, Nat.reduceLeDiff, Int.reduceSub, Int.reduceNeg, Int.reduceLT, Int.reduceLE, Int.reduceEq, *, ncheck_ans, plain_ans, ordinary_ans]
    with_reducible refine dop_valW ?_ ?_
    · simp only [St.keysOf, Op.operands, List.flatMap_cons, List.flatMap_nil, SV.keys, V1.keys, At.keys, go_sem, *]
      try rfl
    simp (maxDischargeDepth := 9) only [go_sem, Nat.reduceMul, Nat.reduceAdd, Nat.reduceLeDiff, Int.reduceSub, Int.reduceNeg, Int.reduceLT, Int.reduceLE, Int.reduceEq, *, ncheck_ans, plain_ans, ordinary_ans]
    with_reducible refine dop_eff (by kernel_rfl) rfl ?_
    simp (maxDischargeDepth := 9) only [go_sem, Nat.reduceMul, Nat.reduceAdd, Nat.reduceLeDiff, Int.reduceSub, Int.reduceNeg, Int.reduceLT, Int.reduceLE, Int.reduceEq, *, ncheck_ans, plain_ans, ordinary_ans, Tab.eff]
    with_reducible refine dop_valW ?_ ?_
    · simp only [St.keysOf, Op.operands, List.flatMap_cons, List.flatMap_nil, SV.keys, V1.keys, At.keys, go_sem, *]
      try rfl
    simp (maxDischargeDepth := 9) only [go_sem, Nat.reduceMul, Nat.reduceAdd, Nat.reduceLeDiff, Int.reduceSub, Int.reduceNeg, Int.reduceLT, Int.reduceLE, Int.reduceEq, *, ncheck_ans, plain_ans, ordinary_ans]
  by_cases h2 : PN n = true
  case neg =>
    have h2n : PN n = false := by simpa using h2
    simp (maxDischargeDepth := 9) only [go_sem, Nat.reduceMul, Nat.reduceAdd, Nat.reduceLeDiff, Int.reduceSub, Int.reduceNeg, Int.reduceLT, Int.reduceLE, Int.reduceEq, *, ncheck_ans, plain_ans, ordinary_ans]
  by_cases h3 : ON n = true
  case neg =>
    have h3n : ON n = false := by simpa using h3
    simp (maxDischargeDepth := 9) only [go_sem, Nat.reduceMul, Nat.reduceAdd, Nat.reduceLeDiff, Int.reduceSub, Int.reduceNeg, Int.reduceLT, Int.reduceLE, Int.reduceEq, *, ncheck_ans, plain_ans, ordinary_ans]
  simp (maxDischargeDepth := 9) only [go_sem, Nat.reduceMul, Nat.reduceAdd, Nat.reduceLeDiff, Int.reduceSub, Int.reduceNeg, Int.reduceLT, Int.reduceLE, Int.reduceEq, *, ncheck_ans, plain_ans, ordinary_ans]
  refine gen_st (fun s0 hg hr hn0 => ?_)
  have e1 := hg 1
  have e2 := hg 2
  have e28 := hg 28
  have e29 := hg 29
  have e30 := hg 30
  have q0 := hr 0
  have q1 := hr 1
  have q2 := hr 2
  clear hg hr
  simp only [go_sem, *] at hn0 e1 e2 e28 e29 e30 q0 q1 q2
  refine nr (runs_for (asL (fld n 2)) (fun (_ : Unit) x => if (asL (fld x 1)).length = 0 then .ret true else .next ()) () 64 (fun i a => [(1, s0.get (.tmp 1)), (2, s0.get (.tmp 2)), (28, s0.get (.tmp 28)), (29, s0.get (.tmp 29)), (30, .v (.a (.int .i64 (i : Nat))))]) (fun i a => [(0, s0.row 0), (1, s0.row 1), (2, s0.row 2)]) (fun i a => True) (by omega) ?_ (trivial) ?_ ?_ ?_ ?_)
  · simp (maxDischargeDepth := 9) only [go_sem, Nat.reduceMul, Nat.reduceAdd, Nat.reduceLeDiff, Int.reduceSub, Int.reduceNeg, Int.reduceLT, Int.reduceLE, Int.reduceEq, *, ncheck_ans, plain_ans, ordinary_ans]
  · intro i a; simp (maxDischargeDepth := 9) only [go_sem, Nat.reduceMul, Nat.reduceAdd, Nat.reduceLeDiff, Int.reduceSub, Int.reduceNeg, Int.reduceLT, Int.reduceLE, Int.reduceEq, *, ncheck_ans, plain_ans, ordinary_ans]
  · intro i a; simp (maxDischargeDepth := 9) only [go_sem, Nat.reduceMul, Nat.reduceAdd, Nat.reduceLeDiff, Int.reduceSub, Int.reduceNeg, Int.reduceLT, Int.reduceLE, Int.reduceEq, *, ncheck_ans, plain_ans, ordinary_ans]
  · intro i x a s hx hi hI hS
    clear hn0 e30
    simp only [go_sem] at hS
    obtain ⟨f1, f2, f28, f29, f30, m0, m1, m2, hn⟩ := hS
    have hw := wrap_succ hi (hl2)
    refine rn ?_
    simp (maxDischargeDepth := 9) only [go_sem, Nat.reduceMul, Nat.reduceAdd, Nat.reduceLeDiff, Int.reduceSub, Int.reduceNeg, Int.reduceLT, Int.reduceLE, Int.reduceEq, *, ncheck_ans, plain_ans, ordinary_ans]
    all_goals exact AU_initial
  · intro a s hI hf hS
    clear hn0 e30
    simp only [go_sem] at hS
    obtain ⟨f1, f2, f28, f29, f30, m0, m1, m2, hn⟩ := hS
    try simp only [go_sem] at hf
    refine rn ?_
    simp (maxDischargeDepth := 9) only [go_sem, Nat.reduceMul, Nat.reduceAdd, Nat.reduceLeDiff, Int.reduceSub, Int.reduceNeg, Int.reduceLT, Int.reduceLE, Int.reduceEq, *, ncheck_ans, plain_ans, ordinary_ans]
    refine gen_st (fun s0 hg hr hn0 => ?_)
    have e2 := hg 2
    have e7 := hg 7
    have e41 := hg 41
    have e42 := hg 42
    have e43 := hg 43
    have q0 := hr 0
    have q1 := hr 1
    have q2 := hr 2
    have q4 := hr 4
    have q5 := hr 5
    clear hg hr
    simp only [go_sem, *] at hn0 e2 e7 e41 e42 e43 q0 q1 q2 q4 q5
    refine nr (runs_forN (asL (fld n 1)).length (fun (_ : Unit) i => if (1 : Int) < asI (fld ((asL (fld n 1)).getD i .N) 1) then .ret true else .next ()) () 64 (fun i a => [(2, s0.get (.tmp 2)), (7, s0.get (.tmp 7)), (41, s0.get (.tmp 41)), (42, s0.get (.tmp 42)), (43, .v (.a (.int .i64 (i : Nat))))]) (fun i a => [(0, s0.row 0), (1, s0.row 1), (2, s0.row 2), (4, some (.box false 29 [0] (.g 29 [.own 5, .iv 2 27 .N]))), (5, some (.arr 2 54 (ics n i)))]) (fun i a => True) (by omega) ?_ (trivial) ?_ ?_ ?_ ?_)
    · simp (maxDischargeDepth := 9) only [go_sem, Nat.reduceMul, Nat.reduceAdd, Nat.reduceLeDiff, Int.reduceSub, Int.reduceNeg, Int.reduceLT, Int.reduceLE, Int.reduceEq, *, ncheck_ans, plain_ans, ordinary_ans]
    · intro i a; simp (maxDischargeDepth := 9) only [go_sem, Nat.reduceMul, Nat.reduceAdd, Nat.reduceLeDiff, Int.reduceSub, Int.reduceNeg, Int.reduceLT, Int.reduceLE, Int.reduceEq, *, ncheck_ans, plain_ans, ordinary_ans]
    · intro i a; simp (maxDischargeDepth := 9) only [go_sem, Nat.reduceMul, Nat.reduceAdd, Nat.reduceLeDiff, Int.reduceSub, Int.reduceNeg, Int.reduceLT, Int.reduceLE, Int.reduceEq, *, ncheck_ans, plain_ans, ordinary_ans]
    · intro i a s hi hI hS
      clear hn0 e43 q4 q5
      simp only [go_sem] at hS
      obtain ⟨f2, f7, f41, f42, f43, m0, m1, m2, m4, m5, hn⟩ := hS
      have hw := wrap_succ hi (hl1)
      have hil : (ics n i).length + 1 ≤ 1000000 := by have := ics_len (n := n) (i := i); omega
      refine rn ?_
      simp (maxDischargeDepth := 9) only [go_sem, Nat.reduceMul, Nat.reduceAdd, Nat.reduceLeDiff, Int.reduceSub, Int.reduceNeg, Int.reduceLT, Int.reduceLE, Int.reduceEq, *, ncheck_ans, plain_ans, ordinary_ans]
      all_goals exact AU_initial
    · intro a s hI hf hS
      clear hn0 e43 q4 q5
      simp only [go_sem] at hS
      obtain ⟨f2, f7, f41, f42, f43, m0, m1, m2, m4, m5, hn⟩ := hS
      try simp only [go_sem] at hf
      refine rn ?_
      simp (maxDischargeDepth := 9) only [go_sem, Nat.reduceMul, Nat.reduceAdd, Nat.reduceLeDiff, Int.reduceSub, Int.reduceNeg, Int.reduceLT, Int.reduceLE, Int.reduceEq, *, ncheck_ans, plain_ans, ordinary_ans]
      all_goals exact AU_initial
end Go.Proofs.Ytficdonjodadlaa
end
section
set_option linter.unusedVariables false
namespace Go.Ev
def insL (n e : IV) : List IV := tgs (fld (el (asL (fld n 2)) (asI (fld e 0))) 1) (asL (fld (el (asL (fld n 2)) (asI (fld e 0))) 1)).length
def RZ (v : IV) : Bool := (List.range ((asL v).length - 1)).any fun i => decide (asI ((asL v).getD (i + 1) .N) ≤ asI ((asL v).getD i .N))
def metS (n b e : IV) (S : Nat → Bool) (x : IV) : Stp (Nat → Bool) Unit :=
  if ((insL n e).any fun y => decide (asI y = asI (fld (el (asL (fld b 0)) (asI x)) 0))) = true then
    if S (asI (fld (el (asL (fld b 0)) (asI x)) 0)).toNat = true then .ret () else .next fun g => S g || decide (g = (asI (fld (el (asL (fld b 0)) (asI x)) 0)).toNat)
  else .ret ()
noncomputable def CP2 (n b e : IV) : Int := match foldS (metS n b e) (fun _ => false) (asL (fld e 1)) with | .ret _ => 17 | _ => if CS b (fld e 1) = true then (if KN b (asI (fld e 0)) (fld e 1) = true then 6 else 0) else 15
noncomputable def CP (n b e : IV) : Int := if (asL (fld e 1)).length = (insL n e).length then (if RZ (fld e 1) = true then 8 else if ((asL (fld e 1)).any fun x => decide (asI x < 0 ∨ ((asL (fld b 0)).length : Int) ≤ asI x)) = true then 7 else CP2 n b e) else 2
attribute [go_sem] Int.zero_add
theorem ok_tgs {l : IV} {i : Nat} (h : i ≤ 1000000) (hl : Ok l) : Ok (.L (tgs l i)) := by
  refine .L (by rw [tgs_len]; unfold maxLen; omega) (fun x hx => ?_)
  unfold tgs at hx
  obtain ⟨k, hk, rfl⟩ := List.mem_map.1 hx
  exact .I (ok_int (ok_fld (ok_getD hl)))
end Go.Ev
end
section
set_option linter.unusedSimpArgs false
set_option linter.unusedVariables false
set_option maxRecDepth 100000
set_option maxHeartbeats 4000000
namespace Go.Proofs.Ytficdonjodadlaa
open Go.Ev Go.Proofs
theorem AU_cpost {p : Prop} (h : p := by
  repeat' (first | (with_reducible refine condLt (fun h h' => ?_) (fun h h' => ?_)) | (with_reducible refine condLe (fun h h' => ?_) (fun h h' => ?_)) | (with_reducible refine dop_val ?_) | (with_reducible refine YsLt (fun h h' => ?_) (fun h h' => ?_)) | (with_reducible refine YsLe (fun h h' => ?_) (fun h h' => ?_)) | (with_reducible refine condP (fun h => ?_) (fun h => ?_)) | (with_reducible refine condN (fun h => ?_) (fun h => ?_)) | (with_reducible refine condB (fun h => ?_) (fun h => ?_)) | (with_reducible refine condR (fun h => ?_) (fun h => ?_)) | (with_reducible refine YsB (fun h => ?_) (fun h => ?_)) | (with_reducible refine YsC (fun h => ?_) (fun h => ?_)) | (with_reducible refine Ys_ite (fun h => ?_) (fun h => ?_)) | (intro h) | (with_reducible refine draw_look (by kernel_rfl) (by kernel_rfl) ?_) | (simp (maxDischargeDepth := 9) only [go_sem, Nat.reduceMul, Nat.reduceAdd, Nat.reduceLeDiff, Int.reduceSub, Int.reduceNeg, Int.reduceLT, Int.reduceLE, Int.reduceEq, *, outputs_ans, tgs_len, outs, Tab.eqF, Function.comp_apply]) | (exfalso; omega))) : p := h
theorem cpost_ans (ext : CallF) (k : Nat) (hN : ExN ext) (n b : IV) (i next : Int) (p q : Nat) (hk : maxLen + (30) ≤ k) (hnn : Ok n) (hb : Ok b) (hi0 : 0 ≤ i) (hi1 : i < ((asL (fld b 1)).length : Int)) (hn0 : 0 ≤ next) (hn1 : next ≤ 1000000) (ht : tIn n (asI (fld (el (asL (fld b 1)) i) 0)) = true) (hs : (asL (fld (el (asL (fld n 2)) (asI (fld (el (asL (fld b 1)) i) 0))) 2)).length ≤ 100000) : ans (tab.run ext k) 74 [.iv p 25 n, .iv q 29 b, .int .i64 i, .int .i64 next] 3 = some ([.one (.at (.int .i64 (PO n b i next)))], [34]) := by
  obtain ⟨k, rfl⟩ : ∃ k', k = k' + 1 := ⟨k - 1, by omega⟩
  have hk1 : maxLen < k := by omega
  have hk0 : 0 < k := by omega
  have hk_0 : maxLen + (20) ≤ k := by omega
  refine fn_run (fx := fx74) (m := 59) 63 rfl rfl rfl rfl (fun st hn hg hr => ?_)
  have g0 : st.get (.tmp 0) = .v (.a (.iv p 25 n)) := hg 0 (of_decide_eq_true rfl)
  have g1 : st.get (.tmp 1) = .v (.a (.iv q 29 b)) := hg 1 (of_decide_eq_true rfl)
  have g2 : st.get (.tmp 2) = .v (.a (.int .i64 i)) := hg 2 (of_decide_eq_true rfl)
  have g3 : st.get (.tmp 3) = .v (.a (.int .i64 next)) := hg 3 (of_decide_eq_true rfl)
  have r0 := hr 0
  have r1 := hr 1
  have r2 := hr 2
  clear hg hr
  rw [co74]
  simp only [Try.f74, Option.getD_some]
  unfold PO
  have hlp : Ok (fld (el (asL (fld b 1)) i) 2) := ok_fld (ok_el (ok_fld hb))
  have hlq := ok_len hlp
  simp (maxDischargeDepth := 9) only [go_sem, Nat.reduceMul, Nat.reduceAdd, Nat.reduceLeDiff, Int.reduceSub, Int.reduceNeg, Int.reduceLT, Int.reduceLE, Int.reduceEq, *, outputs_ans, tgs_len, outs, Tab.eqF, Function.comp_apply]
  with_reducible refine condN (fun heq => ?_) (fun heq => ?_)
  · simp (maxDischargeDepth := 9) only [go_sem, Nat.reduceMul, Nat.reduceAdd, Nat.reduceLeDiff, Int.reduceSub, Int.reduceNeg, Int.reduceLT, Int.reduceLE, Int.reduceEq, *, outputs_ans, tgs_len, outs, Tab.eqF, Function.comp_apply]
  have heq2 : (asL (fld (el (asL (fld n 2)) (asI (fld (el (asL (fld b 1)) i) 0))) 2)).length = (asL (fld (el (asL (fld b 1)) i) 2)).length := Eq.symm heq
  clear heq
  simp (maxDischargeDepth := 9) only [go_sem, Nat.reduceMul, Nat.reduceAdd, Nat.reduceLeDiff, Int.reduceSub, Int.reduceNeg, Int.reduceLT, Int.reduceLE, Int.reduceEq, *, outputs_ans, tgs_len, outs, Tab.eqF, Function.comp_apply]
  refine gen_st (fun s0 hg hr hn0 => ?_)
  have e2 := hg 2
  have e3 := hg 3
  have e5 := hg 5
  have e10 := hg 10
  have e29 := hg 29
  have e30 := hg 30
  have e31 := hg 31
  have q0 := hr 0
  have q1 := hr 1
  have q2 := hr 2
  clear hg hr
  simp only [go_sem, *] at hn0 e2 e3 e5 e10 e29 e30 e31 q0 q1 q2
  refine nr (runs_forN (asL (fld (el (asL (fld b 1)) i) 2)).length (poS n b i next) () 63 (fun m a => [(2, s0.get (.tmp 2)), (3, s0.get (.tmp 3)), (5, s0.get (.tmp 5)), (10, s0.get (.tmp 10)), (29, s0.get (.tmp 29)), (30, s0.get (.tmp 30)), (31, .v (.a (.int .i64 (m : Nat))))]) (fun m a => [(0, s0.row 0), (1, s0.row 1), (2, s0.row 2)]) (fun m a => True) (by omega) ?_ (trivial) ?_ ?_ ?_ ?_)
  · simp (maxDischargeDepth := 9) only [go_sem, Nat.reduceMul, Nat.reduceAdd, Nat.reduceLeDiff, Int.reduceSub, Int.reduceNeg, Int.reduceLT, Int.reduceLE, Int.reduceEq, *, outputs_ans, tgs_len, outs, Tab.eqF, Function.comp_apply]
  · intro i a; simp (maxDischargeDepth := 9) only [go_sem, Nat.reduceMul, Nat.reduceAdd, Nat.reduceLeDiff, Int.reduceSub, Int.reduceNeg, Int.reduceLT, Int.reduceLE, Int.reduceEq, *, outputs_ans, tgs_len, outs, Tab.eqF, Function.comp_apply]
  · intro i a; simp (maxDischargeDepth := 9) only [go_sem, Nat.reduceMul, Nat.reduceAdd, Nat.reduceLeDiff, Int.reduceSub, Int.reduceNeg, Int.reduceLT, Int.reduceLE, Int.reduceEq, *, outputs_ans, tgs_len, outs, Tab.eqF, Function.comp_apply]
  · intro m a s hi hI hS
    clear hn0 e31
    simp only [go_sem] at hS
    obtain ⟨f2, f3, f5, f10, f29, f30, f31, m0, m1, m2, hn⟩ := hS
    have hw := wrap_succ hi (hlq)
    have hm0 : 0 ≤ next + (m : Int) := by omega
    have hml : (m : Int) < 100001 := by omega
    have hwn : IntKind.i64.wrap (next + (m : Int)) = next + (m : Int) := Go.IntWalk.i64_in _ (by omega)
    unfold poS
    refine rn ?_
    simp (maxDischargeDepth := 9) only [go_sem, Nat.reduceMul, Nat.reduceAdd, Nat.reduceLeDiff, Int.reduceSub, Int.reduceNeg, Int.reduceLT, Int.reduceLE, Int.reduceEq, *, outputs_ans, tgs_len, outs, Tab.eqF, Function.comp_apply]
    all_goals exact AU_cpost
  · intro a s hI hf hS
    clear hn0 e31
    simp only [go_sem] at hS
    obtain ⟨f2, f3, f5, f10, f29, f30, f31, m0, m1, m2, hn⟩ := hS
    try simp only [go_sem] at hf
    refine rn ?_
    simp (maxDischargeDepth := 9) only [go_sem, Nat.reduceMul, Nat.reduceAdd, Nat.reduceLeDiff, Int.reduceSub, Int.reduceNeg, Int.reduceLT, Int.reduceLE, Int.reduceEq, *, outputs_ans, tgs_len, outs, Tab.eqF, Function.comp_apply]
    all_goals exact AU_cpost
end Go.Proofs.Ytficdonjodadlaa
end
section
set_option linter.unusedVariables false
namespace Go.Ev
def cutB (b : IV) (i next : Int) : IV := .A [.L ((asL (fld b 0)).take next.toNat), .L ((asL (fld b 1)).take i.toNat)]
noncomputable def CE (n b : IV) (i next : Int) : Int :=
  if asI (fld (el (asL (fld b 1)) i) 0) < 0 ∨ ((asL (fld n 2)).length : Int) ≤ asI (fld (el (asL (fld b 1)) i) 0) then 1
  else if CP n (cutB b i next) (el (asL (fld b 1)) i) = 0 then PO n b i next else CP n (cutB b i next) (el (asL (fld b 1)) i)
structure NG (n : IV) : Prop where
  vn : VN n = true
  lt : ∀ t ∈ asL (fld n 2), (asL (fld t 1)).length ≤ 100000 ∧ (asL (fld t 2)).length ≤ 100000
  pl : (asL (fld n 1)).length ≤ 1000
  tl : (asL (fld n 2)).length ≤ 1000
  inp : ∀ t ∈ asL (fld n 2), ∀ x ∈ asL (fld t 1), 0 ≤ asI (fld x 0) ∧ asI (fld x 0) < ((asL (fld n 1)).length : Int)
theorem NG.t1 {n : IV} (h : NG n) {t : Int} (h0 : 0 ≤ t) (h1 : t < ((asL (fld n 2)).length : Int)) : tIn n t = true := by
  simp [tIn, h.vn, h0, h1]
theorem NG.l1 {n : IV} (h : NG n) {t : Int} (h0 : 0 ≤ t) (h1 : t < ((asL (fld n 2)).length : Int)) : (asL (fld (el (asL (fld n 2)) t) 1)).length ≤ 100000 := (h.lt _ (el_mem h0 h1)).1
theorem NG.l2 {n : IV} (h : NG n) {t : Int} (h0 : 0 ≤ t) (h1 : t < ((asL (fld n 2)).length : Int)) : (asL (fld (el (asL (fld n 2)) t) 2)).length ≤ 100000 := (h.lt _ (el_mem h0 h1)).2
theorem NG.in1 {n e : IV} (h : NG n) (h0 : 0 ≤ asI (fld e 0)) (h1 : asI (fld e 0) < ((asL (fld n 2)).length : Int)) : ∀ y ∈ insL n e, 0 ≤ asI y ∧ asI y < ((asL (fld n 1)).length : Int) := by
  intro y hy
  simp only [insL, tgs, List.mem_map, List.mem_range] at hy
  obtain ⟨k, hk, rfl⟩ := hy
  exact h.inp _ (el_mem h0 h1) _ (memD hk)
theorem ok_take {v : IV} {i : Nat} (h : Ok v) : Ok (.L ((asL v).take i)) := by
  refine .L (Nat.le_trans (List.length_take_le' _ _) (ok_len h)) (fun x hx => ok_mem h (List.mem_of_mem_take hx))
theorem ok_cutB {b : IV} {i next : Int} (h : Ok b) : Ok (cutB b i next) := by
  refine .A (fun x hx => ?_)
  simp only [List.mem_cons, List.not_mem_nil, or_false] at hx
  rcases hx with rfl | rfl
  · exact ok_take (ok_fld h)
  · exact ok_take (ok_fld h)
theorem cutB_1 {b : IV} {i next : Int} : asL (fld (cutB b i next) 1) = (asL (fld b 1)).take i.toNat := (rfl)
theorem cutB_eq {b : IV} {i next : Int} : IV.A [.L ((asL (fld b 0)).take next.toNat), .L ((asL (fld b 1)).take i.toNat)] = cutB b i next := (rfl)
end Go.Ev
end
section
set_option linter.unusedSimpArgs false
set_option linter.unusedVariables false
set_option maxRecDepth 100000
set_option maxHeartbeats 4000000
namespace Go.Proofs.Ytficdonjodadlaa
open Go.Ev Go.Proofs
theorem AU_cpre {p : Prop} (h : p := by
  repeat' (first | (with_reducible refine condLt (fun h h' => ?_) (fun h h' => ?_)) | (with_reducible refine condLe (fun h h' => ?_) (fun h h' => ?_)) | (with_reducible refine dop_val ?_) | (with_reducible refine YsLt (fun h h' => ?_) (fun h h' => ?_)) | (with_reducible refine YsLe (fun h h' => ?_) (fun h h' => ?_)) | (with_reducible refine condP (fun h => ?_) (fun h => ?_)) | (with_reducible refine condN (fun h => ?_) (fun h => ?_)) | (with_reducible refine condB (fun h => ?_) (fun h => ?_)) | (with_reducible refine condR (fun h => ?_) (fun h => ?_)) | (with_reducible refine YsB (fun h => ?_) (fun h => ?_)) | (with_reducible refine YsC (fun h => ?_) (fun h => ?_)) | (with_reducible refine Ys_ite (fun h => ?_) (fun h => ?_)) | (intro h) | (with_reducible refine draw_look (by kernel_rfl) (by kernel_rfl) ?_) | (simp (maxDischargeDepth := 9) only [go_sem, Nat.reduceMul, Nat.reduceAdd, Nat.reduceLeDiff, Int.reduceSub, Int.reduceNeg, Int.reduceLT, Int.reduceLE, Int.reduceEq, *, inputs_ans, has_ans, coset_ans, known_ans, tgs_len, insL]) | (exfalso; omega))) : p := h
theorem cpre_ans (ext : CallF) (k : Nat) (hN : ExN ext) (hE : ExC ext) (hU : ExU ext) (n b e : IV) (p q r : Nat) (hk : maxLen + (D0 + 40) ≤ k) (hnn : Ok n) (hb : Ok b) (hq : q ≠ 0) (heo : Ok e) (hz : (asL (fld b 1)).length ≤ 1000000) (hpl : (asL (fld n 1)).length ≤ 1000) (ht : tIn n (asI (fld e 0)) = true) (hs : (asL (fld (el (asL (fld n 2)) (asI (fld e 0))) 1)).length ≤ 100000) (hin : ∀ y ∈ insL n e, 0 ≤ asI y ∧ asI y < ((asL (fld n 1)).length : Int)) : ans (tab.run ext k) 50 [.iv p 25 n, .iv q 29 b, .iv r 56 e] 5 = some ([.one (.at (.int .i64 (CP n b e)))], [34]) := by
  obtain ⟨k, rfl⟩ : ∃ k', k = k' + 1 := ⟨k - 1, by omega⟩
  have hk1 : maxLen < k := by omega
  have hk0 : 0 < k := by omega
  have hk_0 : maxLen + (2) ≤ k := by omega
  have hk_1 : maxLen + (20) ≤ k := by omega
  have hk_2 : maxLen + (6) ≤ k := by omega
  have hk_3 : maxLen + (D0 + 24) ≤ k := by omega
  refine fn_run (fx := fx50) (m := 100) 103 rfl rfl rfl rfl (fun st hn hg hr => ?_)
  have g0 : st.get (.tmp 0) = .v (.a (.iv p 25 n)) := hg 0 (of_decide_eq_true rfl)
  have g1 : st.get (.tmp 1) = .v (.a (.iv q 29 b)) := hg 1 (of_decide_eq_true rfl)
  have g2 : st.get (.tmp 2) = .v (.a (.iv r 56 e)) := hg 2 (of_decide_eq_true rfl)
  have r0 := hr 0
  have r1 := hr 1
  have r2 := hr 2
  have r3 := hr 3
  have r4 := hr 4
  clear hg hr
  rw [co50]
  simp only [Try.f50, Option.getD_some]
  unfold CP RZ
  have hlq := ok_len (ok_fld (j := 1) heo)
  have hlp := ok_len (ok_fld (j := 1) hnn)
  have hpl2 : (asL (fld n 1)).length ≤ 1000000 := by omega
  simp (maxDischargeDepth := 9) only [go_sem, Nat.reduceMul, Nat.reduceAdd, Nat.reduceLeDiff, Int.reduceSub, Int.reduceNeg, Int.reduceLT, Int.reduceLE, Int.reduceEq, *, inputs_ans, has_ans, coset_ans, known_ans, tgs_len, insL]
  with_reducible refine condN (fun heq => ?_) (fun heq => ?_)
  · simp (maxDischargeDepth := 9) only [go_sem, Nat.reduceMul, Nat.reduceAdd, Nat.reduceLeDiff, Int.reduceSub, Int.reduceNeg, Int.reduceLT, Int.reduceLE, Int.reduceEq, *, inputs_ans, has_ans, coset_ans, known_ans, tgs_len, insL]
  have heq2 : (asL (fld (el (asL (fld n 2)) (asI (fld e 0))) 1)).length = (asL (fld e 1)).length := Eq.symm heq
  clear heq
  simp (maxDischargeDepth := 9) only [go_sem, Nat.reduceMul, Nat.reduceAdd, Nat.reduceLeDiff, Int.reduceSub, Int.reduceNeg, Int.reduceLT, Int.reduceLE, Int.reduceEq, *, inputs_ans, has_ans, coset_ans, known_ans, tgs_len, insL]
  refine gen_st (fun s0 hg hr hn0 => ?_)
  have e3 := hg 3
  have e4 := hg 4
  have e5 := hg 5
  have e7 := hg 7
  have e8 := hg 8
  have q0 := hr 0
  have q1 := hr 1
  have q2 := hr 2
  clear hg hr
  simp only [go_sem, *] at hn0 e3 e4 e5 e7 e8 q0 q1 q2
  refine nr (runs_forN ((asL (fld e 1)).length - 1) (fun (_ : Unit) i => if asI ((asL (fld e 1)).getD (i + 1) .N) ≤ asI ((asL (fld e 1)).getD i .N) then .ret true else .next ()) () 103 (fun i a => [(3, s0.get (.tmp 3)), (4, s0.get (.tmp 4)), (5, s0.get (.tmp 5)), (7, s0.get (.tmp 7)), (8, .v (.a (.int .i64 (((i : Nat) : Int) + 1))))]) (fun i a => [(0, s0.row 0), (1, s0.row 1), (2, s0.row 2)]) (fun i a => True) (by omega) ?_ (trivial) ?_ ?_ ?_ ?_)
  · simp (maxDischargeDepth := 9) only [go_sem, Nat.reduceMul, Nat.reduceAdd, Nat.reduceLeDiff, Int.reduceSub, Int.reduceNeg, Int.reduceLT, Int.reduceLE, Int.reduceEq, *, inputs_ans, has_ans, coset_ans, known_ans, tgs_len, insL]
  · intro i a; simp (maxDischargeDepth := 9) only [go_sem, Nat.reduceMul, Nat.reduceAdd, Nat.reduceLeDiff, Int.reduceSub, Int.reduceNeg, Int.reduceLT, Int.reduceLE, Int.reduceEq, *, inputs_ans, has_ans, coset_ans, known_ans, tgs_len, insL]
  · intro i a; simp (maxDischargeDepth := 9) only [go_sem, Nat.reduceMul, Nat.reduceAdd, Nat.reduceLeDiff, Int.reduceSub, Int.reduceNeg, Int.reduceLT, Int.reduceLE, Int.reduceEq, *, inputs_ans, has_ans, coset_ans, known_ans, tgs_len, insL]
  · intro i a s hi hI hS
    clear hn0 e8
    simp only [go_sem] at hS
    obtain ⟨f3, f4, f5, f7, f8, m0, m1, m2, hn⟩ := hS
    have hlt : ((i : Nat) : Int) + 1 < ((asL (fld e 1)).length : Int) := by omega
    have hiL : i < (asL (fld e 1)).length := by omega
    have hiL2 : i + 1 < (asL (fld e 1)).length := by omega
    have hw : IntKind.i64.wrap (((i : Nat) : Int) + 1 + 1) = ((i + 1 : Nat) : Int) + 1 := by
      rw [Go.IntWalk.i64_in _ (by unfold maxLen at hlq; omega)]; omega
    have hws : IntKind.i64.wrap (((i : Nat) : Int) + 1 - 1) = ((i : Nat) : Int) := by
      rw [Go.IntWalk.i64_in _ (by unfold maxLen at hlq; omega)]; omega
    have hge : (0 : Int) ≤ ((i : Nat) : Int) + 1 := by omega
    have hti : (((i : Nat) : Int) + 1).toNat = i + 1 := by omega
    refine rn ?_
    simp (maxDischargeDepth := 9) only [go_sem, Nat.reduceMul, Nat.reduceAdd, Nat.reduceLeDiff, Int.reduceSub, Int.reduceNeg, Int.reduceLT, Int.reduceLE, Int.reduceEq, *, inputs_ans, has_ans, coset_ans, known_ans, tgs_len, insL]
    all_goals exact AU_cpre
  · intro a s hI hf hS
    clear hn0 e8
    simp only [go_sem] at hS
    obtain ⟨f3, f4, f5, f7, f8, m0, m1, m2, hn⟩ := hS
    try simp only [go_sem] at hf
    have hnl : ¬ (((asL (fld e 1)).length - 1 : Nat) : Int) + 1 < ((asL (fld e 1)).length : Int) := by omega
    refine rn ?_
    simp (maxDischargeDepth := 9) only [go_sem, Nat.reduceMul, Nat.reduceAdd, Nat.reduceLeDiff, Int.reduceSub, Int.reduceNeg, Int.reduceLT, Int.reduceLE, Int.reduceEq, *, inputs_ans, has_ans, coset_ans, known_ans, tgs_len, insL]
    refine gen_st (fun s0 hg hr hn0 => ?_)
    have e3 := hg 3
    have e4 := hg 4
    have e5 := hg 5
    have e7 := hg 7
    have e45 := hg 45
    have e46 := hg 46
    have e47 := hg 47
    have q0 := hr 0
    have q1 := hr 1
    have q2 := hr 2
    clear hg hr
    simp only [go_sem, *] at hn0 e3 e4 e5 e7 e45 e46 e47 q0 q1 q2
    refine nr (runs_for (asL (fld e 1)) (fun (_ : Unit) x => if asI x < 0 ∨ ((asL (fld b 0)).length : Int) ≤ asI x then .ret true else .next ()) () 103 (fun i a => [(3, s0.get (.tmp 3)), (4, s0.get (.tmp 4)), (5, s0.get (.tmp 5)), (7, s0.get (.tmp 7)), (45, s0.get (.tmp 45)), (46, s0.get (.tmp 46)), (47, .v (.a (.int .i64 i)))]) (fun i a => [(0, s0.row 0), (1, s0.row 1), (2, s0.row 2)]) (fun i a => True) (by omega) ?_ (trivial) ?_ ?_ ?_ ?_)
    · simp (maxDischargeDepth := 9) only [go_sem, Nat.reduceMul, Nat.reduceAdd, Nat.reduceLeDiff, Int.reduceSub, Int.reduceNeg, Int.reduceLT, Int.reduceLE, Int.reduceEq, *, inputs_ans, has_ans, coset_ans, known_ans, tgs_len, insL]
    · intro i a; simp (maxDischargeDepth := 9) only [go_sem, Nat.reduceMul, Nat.reduceAdd, Nat.reduceLeDiff, Int.reduceSub, Int.reduceNeg, Int.reduceLT, Int.reduceLE, Int.reduceEq, *, inputs_ans, has_ans, coset_ans, known_ans, tgs_len, insL]
    · intro i a; simp (maxDischargeDepth := 9) only [go_sem, Nat.reduceMul, Nat.reduceAdd, Nat.reduceLeDiff, Int.reduceSub, Int.reduceNeg, Int.reduceLT, Int.reduceLE, Int.reduceEq, *, inputs_ans, has_ans, coset_ans, known_ans, tgs_len, insL]
    · intro i x a s hx hi hI hS
      clear hn0 e47
      simp only [go_sem] at hS
      obtain ⟨f3, f4, f5, f7, f45, f46, f47, m0, m1, m2, hn⟩ := hS
      have hw := wrap_succ hi (hlq)
      refine rn ?_
      simp (maxDischargeDepth := 9) only [go_sem, Nat.reduceMul, Nat.reduceAdd, Nat.reduceLeDiff, Int.reduceSub, Int.reduceNeg, Int.reduceLT, Int.reduceLE, Int.reduceEq, *, inputs_ans, has_ans, coset_ans, known_ans, tgs_len, insL]
      all_goals exact AU_cpre
    · intro a s hI hf hS
      clear hn0 e47
      simp only [go_sem] at hS
      obtain ⟨f3, f4, f5, f7, f45, f46, f47, m0, m1, m2, hn⟩ := hS
      try simp only [go_sem] at hf
      unfold CP2
      refine rn ?_
      simp (maxDischargeDepth := 9) only [go_sem, Nat.reduceMul, Nat.reduceAdd, Nat.reduceLeDiff, Int.reduceSub, Int.reduceNeg, Int.reduceLT, Int.reduceLE, Int.reduceEq, *, inputs_ans, has_ans, coset_ans, known_ans, tgs_len, insL]
      refine gen_st (fun s0 hg hr hn0 => ?_)
      have e4 := hg 4
      have e5 := hg 5
      have e7 := hg 7
      have e11 := hg 11
      have e66 := hg 66
      have e67 := hg 67
      have e68 := hg 68
      have q0 := hr 0
      have q1 := hr 1
      have q2 := hr 2
      have q3 := hr 3
      have q4 := hr 4
      clear hg hr
      simp only [go_sem, *] at hn0 e4 e5 e7 e11 e66 e67 e68 q0 q1 q2 q3 q4
      refine nr (runs_for (asL (fld e 1)) (metS n b e) (fun _ => false) 103 (fun i S => [(4, s0.get (.tmp 4)), (5, s0.get (.tmp 5)), (7, s0.get (.tmp 7)), (11, s0.get (.tmp 11)), (66, s0.get (.tmp 66)), (67, s0.get (.tmp 67)), (68, .v (.a (.int .i64 i)))]) (fun i S => [(0, s0.row 0), (1, s0.row 1), (2, s0.row 2), (3, s0.row 3), (4, some (.arr 2 4 (bl (asL (fld n 1)).length S)))]) (fun i S => True) (by omega) ?_ (trivial) ?_ ?_ ?_ ?_)
      · simp (maxDischargeDepth := 9) only [go_sem, Nat.reduceMul, Nat.reduceAdd, Nat.reduceLeDiff, Int.reduceSub, Int.reduceNeg, Int.reduceLT, Int.reduceLE, Int.reduceEq, *, inputs_ans, has_ans, coset_ans, known_ans, tgs_len, insL]
      · intro i a; simp (maxDischargeDepth := 9) only [go_sem, Nat.reduceMul, Nat.reduceAdd, Nat.reduceLeDiff, Int.reduceSub, Int.reduceNeg, Int.reduceLT, Int.reduceLE, Int.reduceEq, *, inputs_ans, has_ans, coset_ans, known_ans, tgs_len, insL]
      · intro i a; simp (maxDischargeDepth := 9) only [go_sem, Nat.reduceMul, Nat.reduceAdd, Nat.reduceLeDiff, Int.reduceSub, Int.reduceNeg, Int.reduceLT, Int.reduceLE, Int.reduceEq, *, inputs_ans, has_ans, coset_ans, known_ans, tgs_len, insL]
      · intro i x S s hx hi hI hS
        clear hn0 e68 q4
        simp only [go_sem] at hS
        obtain ⟨f4, f5, f7, f11, f66, f67, f68, m0, m1, m2, m3, m4, hn⟩ := hS
        have hw := wrap_succ hi (hlq)
        obtain ⟨hy0, hy1⟩ := any_in hf (i := i) hi
        have hxd : (asL (fld e 1)).getD i .N = x := by simp [List.getD, hx]
        rw [hxd] at hy0 hy1
        have hoi : Ok (.L (tgs (fld (el (asL (fld n 2)) (asI (fld e 0))) 1) (asL (fld e 1)).length)) := ok_tgs (by omega) (ok_fld (ok_el (ok_fld hnn)))
        refine rn ?_
        simp (maxDischargeDepth := 9) only [go_sem, Nat.reduceMul, Nat.reduceAdd, Nat.reduceLeDiff, Int.reduceSub, Int.reduceNeg, Int.reduceLT, Int.reduceLE, Int.reduceEq, *, inputs_ans, has_ans, coset_ans, known_ans, tgs_len, insL]
        unfold metS
        by_cases hm : ((tgs (fld (el (asL (fld n 2)) (asI (fld e 0))) 1) (asL (fld e 1)).length).any fun y => decide (asI y = asI (fld (el (asL (fld b 0)) (asI x)) 0))) = true
        · obtain ⟨y, hy, hye⟩ := List.any_eq_true.1 hm
          have hye := of_decide_eq_true hye
          obtain ⟨hp0, hp1⟩ := hin y (by unfold insL; rw [heq2]; exact hy)
          rw [hye] at hp0 hp1
          have hp2 : (asI (fld (el (asL (fld b 0)) (asI x)) 0)).toNat < (asL (fld n 1)).length := by omega
          simp (maxDischargeDepth := 9) only [go_sem, Nat.reduceMul, Nat.reduceAdd, Nat.reduceLeDiff, Int.reduceSub, Int.reduceNeg, Int.reduceLT, Int.reduceLE, Int.reduceEq, *, inputs_ans, has_ans, coset_ans, known_ans, tgs_len, insL]
          all_goals exact AU_cpre
        · have hmn : ((tgs (fld (el (asL (fld n 2)) (asI (fld e 0))) 1) (asL (fld e 1)).length).any fun y => decide (asI y = asI (fld (el (asL (fld b 0)) (asI x)) 0))) = false := by simpa using hm
          simp (maxDischargeDepth := 9) only [go_sem, Nat.reduceMul, Nat.reduceAdd, Nat.reduceLeDiff, Int.reduceSub, Int.reduceNeg, Int.reduceLT, Int.reduceLE, Int.reduceEq, *, inputs_ans, has_ans, coset_ans, known_ans, tgs_len, insL]
          all_goals exact AU_cpre
      · intro S s hI hf hS
        clear hn0 e68 q4
        simp only [go_sem] at hS
        obtain ⟨f4, f5, f7, f11, f66, f67, f68, m0, m1, m2, m3, m4, hn⟩ := hS
        try simp only [go_sem] at hf
        refine rn ?_
        simp (maxDischargeDepth := 9) only [go_sem, Nat.reduceMul, Nat.reduceAdd, Nat.reduceLeDiff, Int.reduceSub, Int.reduceNeg, Int.reduceLT, Int.reduceLE, Int.reduceEq, *, inputs_ans, has_ans, coset_ans, known_ans, tgs_len, insL]
        all_goals exact AU_cpre
end Go.Proofs.Ytficdonjodadlaa
end
section
set_option linter.unusedVariables false
namespace Go.Ev
def fcs (n : IV) : List IV := ics n (asL (fld n 1)).length
def ckF (n b : IV) (_ : Unit) (i : Nat) : Stp Unit Unit :=
  if (decide (asI (fld ((asL (fld b 0)).getD i .N) 0) = asI (fld ((fcs n).getD i .N) 0)) && decide (asI (fld ((asL (fld b 0)).getD i .N) 1) = asI (fld ((fcs n).getD i .N) 1))) = true then .next () else .ret ()
noncomputable def ckE (n b : IV) (m : Nat) (i : Nat) : Stp Nat (Int × Int) :=
  if CE n b (i : Int) (m : Int) = 0 then .next (m + (asL (fld ((asL (fld b 1)).getD i .N) 2)).length) else .ret (CE n b (i : Int) (m : Int), (i : Int))
noncomputable def CK2 (n b : IV) : Int × Int := match foldS (ckE n b) (fcs n).length (List.range (asL (fld b 1)).length) with | .ret r => r | .stop m => if (m : Int) < ((asL (fld b 0)).length : Int) then (2, ((asL (fld b 1)).length : Int)) else (0, 0) | .next _ => (0, 0)
noncomputable def CK1 (n b : IV) : Int × Int := if ((List.range (fcs n).length).any fun i => !(decide (asI (fld ((asL (fld b 0)).getD i .N) 0) = asI (fld ((fcs n).getD i .N) 0)) && decide (asI (fld ((asL (fld b 0)).getD i .N) 1) = asI (fld ((fcs n).getD i .N) 1)))) = true then (10, 0) else CK2 n b
noncomputable def CK (n b : IV) : Int × Int := if IE n = 0 then (if (2000 : Int) < ((asL (fld b 1)).length : Int) then (2, 0) else if ((asL (fld b 0)).length : Int) < ((fcs n).length : Int) then (10, 0) else CK1 n b) else (IE n, 0)
theorem fold_all {α ρ : Type} {step : Unit → α → Stp Unit ρ} {a : Unit} : ∀ {l : List α}, foldS step () l = .stop a → (∀ x ∈ l, ∀ r, step () x ≠ .stop r) → ∀ x ∈ l, step () x = .next ()
  | [], _, _, x, hx => by cases hx
  | y :: l, h, hs, x, hx => by
    simp only [foldS] at h
    cases hy : step () y with
    | next u =>
      rw [hy] at h
      rcases List.mem_cons.1 hx with rfl | hx
      · exact hy
      · exact fold_all h (fun z hz => hs z (List.mem_cons_of_mem _ hz)) x hx
    | stop u => exact absurd hy (hs y (List.mem_cons_self ..) u)
    | ret r => rw [hy] at h; cases h
theorem CE_ok {n b : IV} {i m : Nat} (h : CE n b (i : Int) (m : Int) = 0) (hm : m ≤ (asL (fld b 0)).length) : m + (asL (fld ((asL (fld b 1)).getD i .N) 2)).length ≤ (asL (fld b 0)).length := by
  have hp : PO n b (i : Int) (m : Int) = 0 := by
    unfold CE at h
    split at h
    · cases h
    · split at h
      · exact h
      · contradiction
  unfold PO at hp
  split at hp
  · rename_i hl
    rw [el_nat] at hp hl
    by_cases h0 : (asL (fld ((asL (fld b 1)).getD i .N) 2)).length = 0
    · omega
    cases hf : foldS (poS n b (i : Int) (m : Int)) () (List.range (asL (fld ((asL (fld b 1)).getD i .N) 2)).length) with
    | ret r => rw [hf] at hp; cases hp
    | next r =>
      have : ∀ l : List Nat, ∀ a, foldS (poS n b (i : Int) (m : Int)) () l ≠ .next a := by
        intro l
        induction l with
        | nil => intro a h; cases h
        | cons x l ih =>
          intro a h
          simp only [foldS] at h
          split at h
          · exact ih _ h
          · rename_i hne; exact hne _ h
      exact absurd hf (this _ _)
    | stop r =>
      have hl2 := fold_all hf (fun x hx r => by unfold poS; split <;> (try split) <;> (try split) <;> simp) ((asL (fld ((asL (fld b 1)).getD i .N) 2)).length - 1) (List.mem_range.2 (by omega))
      unfold poS at hl2
      split at hl2
      · rename_i e1
        split at hl2
        · cases hl2
        · rename_i e2
          rw [el_nat] at e1 e2
          omega
      · cases hl2
  · cases hp
theorem fcs_len {n : IV} : (fcs n).length ≤ (asL (fld n 1)).length := ics_len
theorem ibR_ok {n : IV} (h : IE n = 0) : ibR n = .g 29 [.at (.iv 2 26 (.L (fcs n))), .at (.iv 2 27 .N)] := by unfold ibR; rw [if_pos h]; rfl
theorem ibR_no {n : IV} (h : ¬IE n = 0) : ibR n = .one (.at (.iv 2 29 (.A [.N, .N]))) := by unfold ibR; rw [if_neg h]
end Go.Ev
end
section
set_option linter.unusedSimpArgs false
set_option linter.unusedVariables false
set_option maxRecDepth 100000
set_option maxHeartbeats 4000000
namespace Go.Proofs.Ytficdonjodadlaa
open Go.Ev Go.Proofs
theorem cev_ans (ext : CallF) (k : Nat) (hN : ExN ext) (hE : ExC ext) (hU : ExU ext) (n b : IV) (i next : Int) (p q : Nat) (hk : maxLen + (D0 + 44) ≤ k) (hnn : Ok n) (hb : Ok b) (hq : q ≠ 0) (hz : (asL (fld b 1)).length ≤ 1000000) (hg : NG n) (hi0 : 0 ≤ i) (hi1 : i < ((asL (fld b 1)).length : Int)) (hn0 : 0 ≤ next) (hn1 : next ≤ ((asL (fld b 0)).length : Int)) (hn2 : next ≤ 1000000) : ans (tab.run ext k) 41 [.iv p 25 n, .iv q 29 b, .int .i64 i, .int .i64 next] 3 = some ([.one (.at (.int .i64 (CE n b i next)))], [34]) := by
  obtain ⟨k, rfl⟩ : ∃ k', k = k' + 1 := ⟨k - 1, by omega⟩
  have hk1 : maxLen < k := by omega
  have hk0 : 0 < k := by omega
  have hk_0 : maxLen + (30) ≤ k := by omega
  have hk_1 : maxLen + (D0 + 40) ≤ k := by omega
  refine fn_run (fx := fx41) (m := 43) 47 rfl rfl rfl rfl (fun st hn hg hr => ?_)
  have g0 : st.get (.tmp 0) = .v (.a (.iv p 25 n)) := hg 0 (of_decide_eq_true rfl)
  have g1 : st.get (.tmp 1) = .v (.a (.iv q 29 b)) := hg 1 (of_decide_eq_true rfl)
  have g2 : st.get (.tmp 2) = .v (.a (.int .i64 i)) := hg 2 (of_decide_eq_true rfl)
  have g3 : st.get (.tmp 3) = .v (.a (.int .i64 next)) := hg 3 (of_decide_eq_true rfl)
  have r0 := hr 0
  have r1 := hr 1
  have r2 := hr 2
  clear hg hr
  rw [co41]
  simp only [Try.f41, Option.getD_some]
  unfold CE
  have hl0 := ok_len (ok_fld (j := 0) hb)
  have hl1 := ok_len (ok_fld (j := 1) hb)
  have hin2 : next.toNat ≤ (asL (fld b 0)).length := by omega
  have hii2 : i.toNat ≤ (asL (fld b 1)).length := by omega
  have hoe : Ok (el (asL (fld b 1)) i) := ok_el (ok_fld hb)
  have hoc : Ok (cutB b i next) := ok_cutB hb
  have hzc : (asL (fld (cutB b i next) 1)).length ≤ 1000000 := by rw [cutB_1]; exact Nat.le_trans (List.length_take_le' _ _) hz
  have hpl := hg.pl
  have hqm : (if q ≤ if q ≤ 2 then q else 2 then q else if q ≤ 2 then q else 2) ≠ 0 := by (repeat' split) <;> omega
  by_cases h1 : asI (fld (el (asL (fld b 1)) i) 0) < 0
  · simp (maxDischargeDepth := 9) only [go_sem, Nat.reduceMul, Nat.reduceAdd, Nat.reduceLeDiff, Int.reduceSub, Int.reduceNeg, Int.reduceLT, Int.reduceLE, Int.reduceEq, *, cpre_ans, cpost_ans, cutB_eq]
  by_cases h2 : ((asL (fld n 2)).length : Int) ≤ asI (fld (el (asL (fld b 1)) i) 0)
  · simp (maxDischargeDepth := 9) only [go_sem, Nat.reduceMul, Nat.reduceAdd, Nat.reduceLeDiff, Int.reduceSub, Int.reduceNeg, Int.reduceLT, Int.reduceLE, Int.reduceEq, *, cpre_ans, cpost_ans, cutB_eq]
  have h3 : 0 ≤ asI (fld (el (asL (fld b 1)) i) 0) := by omega
  have h4 : asI (fld (el (asL (fld b 1)) i) 0) < ((asL (fld n 2)).length : Int) := by omega
  have ht := hg.t1 h3 h4
  have ht1 := hg.l1 h3 h4
  have ht2 := hg.l2 h3 h4
  have hti := hg.in1 h3 h4
  have hcp := cpre_ans ext k hN hE hU n (cutB b i next) (el (asL (fld b 1)) i) p (if q ≤ if q ≤ 2 then q else 2 then q else if q ≤ 2 then q else 2) q hk_1 hnn hoc hqm hoe hzc hpl ht ht1 hti
  simp (maxDischargeDepth := 9) only [go_sem, Nat.reduceMul, Nat.reduceAdd, Nat.reduceLeDiff, Int.reduceSub, Int.reduceNeg, Int.reduceLT, Int.reduceLE, Int.reduceEq, *, cpre_ans, cpost_ans, cutB_eq]
  repeat' (first | (with_reducible refine condLt (fun h h' => ?_) (fun h h' => ?_)) | (with_reducible refine condLe (fun h h' => ?_) (fun h h' => ?_)) | (with_reducible refine dop_val ?_) | (with_reducible refine YsLt (fun h h' => ?_) (fun h h' => ?_)) | (with_reducible refine YsLe (fun h h' => ?_) (fun h h' => ?_)) | (with_reducible refine condP (fun h => ?_) (fun h => ?_)) | (with_reducible refine condN (fun h => ?_) (fun h => ?_)) | (with_reducible refine condB (fun h => ?_) (fun h => ?_)) | (with_reducible refine condR (fun h => ?_) (fun h => ?_)) | (with_reducible refine YsB (fun h => ?_) (fun h => ?_)) | (with_reducible refine YsC (fun h => ?_) (fun h => ?_)) | (with_reducible refine Ys_ite (fun h => ?_) (fun h => ?_)) | (intro h) | (with_reducible refine draw_look (by kernel_rfl) (by kernel_rfl) ?_) | (simp (maxDischargeDepth := 9) only [go_sem, Nat.reduceMul, Nat.reduceAdd, Nat.reduceLeDiff, Int.reduceSub, Int.reduceNeg, Int.reduceLT, Int.reduceLE, Int.reduceEq, *, cpre_ans, cpost_ans, cutB_eq]) | (exfalso; omega))
end Go.Proofs.Ytficdonjodadlaa
end
section
set_option linter.unusedVariables false
namespace Go.Ev
def pv (q i : Nat) : Nat := if i = 0 then 2 else q
theorem pv_zero {q : Nat} : pv q 0 = 2 := (rfl)
theorem pv_succ {q i : Nat} (h : q ≤ 2) : (if pv q i ≤ q then pv q i else q) = pv q (i + 1) := by
  unfold pv; rw [if_neg (Nat.succ_ne_zero i)]
  by_cases h1 : i = 0 <;> simp [h1]
  omega
theorem pv_ne {q i : Nat} (h : q ≠ 0) : pv q i ≠ 0 := by unfold pv; split <;> omega
theorem mn_2 {q : Nat} (h : q ≤ 2) : (if 2 ≤ q then 2 else q) = q := by split <;> omega
def clE (x : IV) : IV := setf (setf x 1 (.L (asL (fld x 1)))) 2 (.L (asL (fld x 2)))
def cls (b : IV) (i : Nat) : List IV := (List.range i).map fun k => clE ((asL (fld b 1)).getD k .N)
theorem cls_zero {b : IV} : cls b 0 = [] := (rfl)
theorem cls_succ {b : IV} {i : Nat} : cls b (i + 1) = cls b i ++ [clE ((asL (fld b 1)).getD i .N)] := by simp [cls, List.range_succ]
theorem cls_len {b : IV} {i : Nat} : (cls b i).length = i := by simp [cls]
theorem fld_setf {v u : IV} {j k : Nat} (h : j ≠ k) : fld (setf v j u) k = fld v k := by
  cases v <;> try rfl
  simp [fld, setf, List.getD, List.getElem?_set, h]
theorem clE_A {l : List IV} : clE (.A l) = .A ((l.set 1 (.L (asL (fld (.A l) 1)))).set 2 (.L (asL (fld (.A l) 2)))) := (rfl)
theorem fld_set {l : List IV} {u : IV} {j k : Nat} (h : j ≠ k) : fld (.A (l.set j u)) k = fld (.A l) k := fld_setf (v := .A l) h
theorem cls_get {b x : IV} {i : Nat} (h : (asL (fld b 1))[i]? = some x) : cls b (i + 1) = cls b i ++ [clE x] := by rw [cls_succ]; simp [List.getD, h]
attribute [go_sem] pv_zero cls_zero fld_set clE_A
end Go.Ev
end
section
set_option linter.unusedSimpArgs false
set_option linter.unusedVariables false
set_option maxRecDepth 100000
set_option maxHeartbeats 4000000
namespace Go.Proofs.Ytficdonjodadlaa
open Go.Ev Go.Proofs
theorem AU_check {p : Prop} (h : p := by
  repeat' (first | (with_reducible refine condLt (fun h h' => ?_) (fun h h' => ?_)) | (with_reducible refine condLe (fun h h' => ?_) (fun h h' => ?_)) | (with_reducible refine dop_val ?_) | (with_reducible refine YsLt (fun h h' => ?_) (fun h h' => ?_)) | (with_reducible refine YsLe (fun h h' => ?_) (fun h h' => ?_)) | (with_reducible refine condP (fun h => ?_) (fun h => ?_)) | (with_reducible refine condN (fun h => ?_) (fun h => ?_)) | (with_reducible refine condB (fun h => ?_) (fun h => ?_)) | (with_reducible refine condR (fun h => ?_) (fun h => ?_)) | (with_reducible refine YsB (fun h => ?_) (fun h => ?_)) | (with_reducible refine YsC (fun h => ?_) (fun h => ?_)) | (with_reducible refine Ys_ite (fun h => ?_) (fun h => ?_)) | (intro h) | (with_reducible refine draw_look (by kernel_rfl) (by kernel_rfl) ?_) | (simp (maxDischargeDepth := 9) only [go_sem, Nat.reduceMul, Nat.reduceAdd, Nat.reduceLeDiff, Int.reduceSub, Int.reduceNeg, Int.reduceLT, Int.reduceLE, Int.reduceEq, *, initial_ans, cev_ans, Tab.eqF, Function.comp_apply, R1.frozenL]) | (exfalso; omega))) : p := h
theorem check_ans (ext : CallF) (k : Nat) (hN : ExN ext) (hE : ExC ext) (hU : ExU ext) (n b : IV) (p q : Nat) (hk : maxLen + (D0 + 48) ≤ k) (hnn : Ok n) (hb : Ok b) (hq : q ≠ 0) (hz : (asL (fld b 1)).length ≤ 1000000) (hzc : (asL (fld b 0)).length ≤ 1000000) (hzp : (asL (fld n 1)).length ≤ 1000) (hg : IE n = 0 → NG n) : ans (tab.run ext k) 15 [.iv p 25 n, .iv q 29 b] 6 = some ([.one (.at (.iv 2 38 (.A [.I (CK n b).1, .I (CK n b).2])))], [38]) := by
  obtain ⟨k, rfl⟩ : ∃ k', k = k' + 1 := ⟨k - 1, by omega⟩
  have hk1 : maxLen < k := by omega
  have hk0 : 0 < k := by omega
  have hk_0 : maxLen + (24) ≤ k := by omega
  have hk_1 : maxLen + (D0 + 44) ≤ k := by omega
  refine fn_run (fx := fx15) (m := 85) 87 rfl rfl rfl rfl (fun st hn hg hr => ?_)
  have g0 : st.get (.tmp 0) = .v (.a (.iv p 25 n)) := hg 0 (of_decide_eq_true rfl)
  have g1 : st.get (.tmp 1) = .v (.a (.iv q 29 b)) := hg 1 (of_decide_eq_true rfl)
  have r0 := hr 0
  have r1 := hr 1
  have r2 := hr 2
  have r3 := hr 3
  have r4 := hr 4
  have r5 := hr 5
  clear hg hr
  rw [co15]
  simp only [Try.f15, Option.getD_some]
  unfold CK
  have hl0 := ok_len (ok_fld (j := 0) hb)
  have hl1 := ok_len (ok_fld (j := 1) hb)
  have hlf := fcs_len (n := n)
  have hlf2 : (fcs n).length ≤ 1000000 := by omega
  by_cases h1 : IE n = 0
  case neg =>
    have hib := ibR_no h1
    simp (maxDischargeDepth := 9) only [go_sem, Nat.reduceMul, Nat.reduceAdd, Nat.reduceLeDiff, Int.reduceSub, Int.reduceNeg, Int.reduceLT, Int.reduceLE, Int.reduceEq, *, initial_ans, cev_ans, Tab.eqF, Function.comp_apply, R1.frozenL]
  have hib := ibR_ok h1
  have hg := hg h1
  simp (maxDischargeDepth := 9) only [go_sem, Nat.reduceMul, Nat.reduceAdd, Nat.reduceLeDiff, Int.reduceSub, Int.reduceNeg, Int.reduceLT, Int.reduceLE, Int.reduceEq, *, initial_ans, cev_ans, Tab.eqF, Function.comp_apply, R1.frozenL]
  repeat' (first | (with_reducible refine condLt (fun h h' => ?_) (fun h h' => ?_)) | (with_reducible refine condLe (fun h h' => ?_) (fun h h' => ?_)) | (with_reducible refine dop_val ?_) | (with_reducible refine YsLt (fun h h' => ?_) (fun h h' => ?_)) | (with_reducible refine YsLe (fun h h' => ?_) (fun h h' => ?_)) | (with_reducible refine condP (fun h => ?_) (fun h => ?_)) | (with_reducible refine condN (fun h => ?_) (fun h => ?_)) | (with_reducible refine condB (fun h => ?_) (fun h => ?_)) | (with_reducible refine condR (fun h => ?_) (fun h => ?_)) | (with_reducible refine YsB (fun h => ?_) (fun h => ?_)) | (with_reducible refine YsC (fun h => ?_) (fun h => ?_)) | (with_reducible refine Ys_ite (fun h => ?_) (fun h => ?_)) | (intro h) | (with_reducible refine draw_look (by kernel_rfl) (by kernel_rfl) ?_) | (simp (maxDischargeDepth := 9) only [go_sem, Nat.reduceMul, Nat.reduceAdd, Nat.reduceLeDiff, Int.reduceSub, Int.reduceNeg, Int.reduceLT, Int.reduceLE, Int.reduceEq, *, initial_ans, cev_ans, Tab.eqF, Function.comp_apply, R1.frozenL]) | (exfalso; omega))
  unfold CK1
  refine gen_st (fun s0 hg hr hn0 => ?_)
  have e2 := hg 2
  have e3 := hg 3
  have e4 := hg 4
  have e7 := hg 7
  have e37 := hg 37
  have e38 := hg 38
  have e39 := hg 39
  have q0 := hr 0
  have q1 := hr 1
  have q2 := hr 2
  have q3 := hr 3
  clear hg hr
  simp only [go_sem, *] at hn0 e2 e3 e4 e7 e37 e38 e39 q0 q1 q2 q3
  refine nr (runs_forN (fcs n).length (ckF n b) () 87 (fun i a => [(2, s0.get (.tmp 2)), (3, s0.get (.tmp 3)), (4, s0.get (.tmp 4)), (7, s0.get (.tmp 7)), (37, s0.get (.tmp 37)), (38, s0.get (.tmp 38)), (39, .v (.a (.int .i64 (i : Nat))))]) (fun i a => [(0, s0.row 0), (1, s0.row 1), (2, s0.row 2), (3, s0.row 3)]) (fun i a => True) (by omega) ?_ (trivial) ?_ ?_ ?_ ?_)
  · simp (maxDischargeDepth := 9) only [go_sem, Nat.reduceMul, Nat.reduceAdd, Nat.reduceLeDiff, Int.reduceSub, Int.reduceNeg, Int.reduceLT, Int.reduceLE, Int.reduceEq, *, initial_ans, cev_ans, Tab.eqF, Function.comp_apply, R1.frozenL]
  · intro i a; simp (maxDischargeDepth := 9) only [go_sem, Nat.reduceMul, Nat.reduceAdd, Nat.reduceLeDiff, Int.reduceSub, Int.reduceNeg, Int.reduceLT, Int.reduceLE, Int.reduceEq, *, initial_ans, cev_ans, Tab.eqF, Function.comp_apply, R1.frozenL]
  · intro i a; simp (maxDischargeDepth := 9) only [go_sem, Nat.reduceMul, Nat.reduceAdd, Nat.reduceLeDiff, Int.reduceSub, Int.reduceNeg, Int.reduceLT, Int.reduceLE, Int.reduceEq, *, initial_ans, cev_ans, Tab.eqF, Function.comp_apply, R1.frozenL]
  · intro i a s hi hI hS
    clear hn0 e39
    simp only [go_sem] at hS
    obtain ⟨f2, f3, f4, f7, f37, f38, f39, m0, m1, m2, m3, hn⟩ := hS
    have hw := wrap_succ hi (by unfold maxLen; omega)
    unfold ckF
    have hib : i < (asL (fld b 0)).length := by omega
    refine rn ?_
    simp (maxDischargeDepth := 9) only [go_sem, Nat.reduceMul, Nat.reduceAdd, Nat.reduceLeDiff, Int.reduceSub, Int.reduceNeg, Int.reduceLT, Int.reduceLE, Int.reduceEq, *, initial_ans, cev_ans, Tab.eqF, Function.comp_apply, R1.frozenL]
    all_goals exact AU_check
  · intro a s hI hf hS
    clear hn0 e39
    simp only [go_sem] at hS
    obtain ⟨f2, f3, f4, f7, f37, f38, f39, m0, m1, m2, m3, hn⟩ := hS
    try simp only [go_sem] at hf
    unfold ckF at hf
    simp only [go_sem] at hf
    unfold CK2
    refine rn ?_
    simp (maxDischargeDepth := 9) only [go_sem, Nat.reduceMul, Nat.reduceAdd, Nat.reduceLeDiff, Int.reduceSub, Int.reduceNeg, Int.reduceLT, Int.reduceLE, Int.reduceEq, *, initial_ans, cev_ans, Tab.eqF, Function.comp_apply, R1.frozenL]
    refine gen_st (fun s0 hg hr hn0 => ?_)
    have e2 := hg 2
    have e3 := hg 3
    have e4 := hg 4
    have e54 := hg 54
    have e55 := hg 55
    have e56 := hg 56
    have e7 := hg 7
    have q0 := hr 0
    have q1 := hr 1
    have q2 := hr 2
    have q3 := hr 3
    clear hg hr
    simp only [go_sem, *] at hn0 e2 e3 e4 e54 e55 e56 e7 q0 q1 q2 q3
    refine nr (runs_forN (asL (fld b 1)).length (ckE n b) (fcs n).length 87 (fun i m => [(2, s0.get (.tmp 2)), (3, s0.get (.tmp 3)), (4, s0.get (.tmp 4)), (54, s0.get (.tmp 54)), (55, s0.get (.tmp 55)), (7, .v (.a (.int .i64 (m : Nat)))), (56, .v (.a (.int .i64 (i : Nat))))]) (fun i m => [(0, s0.row 0), (1, s0.row 1), (2, s0.row 2), (3, s0.row 3)]) (fun i m => (m ≤ (asL (fld b 0)).length)) (by omega) ?_ (by omega) ?_ ?_ ?_ ?_)
    · simp (maxDischargeDepth := 9) only [go_sem, Nat.reduceMul, Nat.reduceAdd, Nat.reduceLeDiff, Int.reduceSub, Int.reduceNeg, Int.reduceLT, Int.reduceLE, Int.reduceEq, *, initial_ans, cev_ans, Tab.eqF, Function.comp_apply, R1.frozenL]
    · intro i a; simp (maxDischargeDepth := 9) only [go_sem, Nat.reduceMul, Nat.reduceAdd, Nat.reduceLeDiff, Int.reduceSub, Int.reduceNeg, Int.reduceLT, Int.reduceLE, Int.reduceEq, *, initial_ans, cev_ans, Tab.eqF, Function.comp_apply, R1.frozenL]
    · intro i a; simp (maxDischargeDepth := 9) only [go_sem, Nat.reduceMul, Nat.reduceAdd, Nat.reduceLeDiff, Int.reduceSub, Int.reduceNeg, Int.reduceLT, Int.reduceLE, Int.reduceEq, *, initial_ans, cev_ans, Tab.eqF, Function.comp_apply, R1.frozenL]
    · intro i m s hi hI hS
      clear hn0 e56 e7
      simp only [go_sem] at hS
      obtain ⟨f2, f3, f4, f54, f55, f7, f56, m0, m1, m2, m3, hn⟩ := hS
      have hw := wrap_succ hi (hl1)
      have hoI : (0 : Int) ≤ (i : Int) := by omega
      have hoJ : (i : Int) < ((asL (fld b 1)).length : Int) := by omega
      have hoM : (0 : Int) ≤ (m : Int) := by omega
      have hoN : (m : Int) ≤ ((asL (fld b 0)).length : Int) := by omega
      have hoK : (m : Int) ≤ 1000000 := by omega
      refine rn ?_
      simp (maxDischargeDepth := 9) only [go_sem, Nat.reduceMul, Nat.reduceAdd, Nat.reduceLeDiff, Int.reduceSub, Int.reduceNeg, Int.reduceLT, Int.reduceLE, Int.reduceEq, *, initial_ans, cev_ans, Tab.eqF, Function.comp_apply, R1.frozenL]
      unfold ckE
      by_cases hce : CE n b (i : Int) (m : Int) = 0
      · have hnx := CE_ok hce hI
        have hwm : IntKind.i64.wrap ((m : Int) + ((asL (fld ((asL (fld b 1)).getD i .N) 2)).length : Int)) = ((m + (asL (fld ((asL (fld b 1)).getD i .N) 2)).length : Nat) : Int) := by
          rw [Go.IntWalk.i64_in _ (by omega)]; omega
        simp (maxDischargeDepth := 9) only [go_sem, Nat.reduceMul, Nat.reduceAdd, Nat.reduceLeDiff, Int.reduceSub, Int.reduceNeg, Int.reduceLT, Int.reduceLE, Int.reduceEq, *, initial_ans, cev_ans, Tab.eqF, Function.comp_apply, R1.frozenL]
        all_goals exact AU_check
      · simp (maxDischargeDepth := 9) only [go_sem, Nat.reduceMul, Nat.reduceAdd, Nat.reduceLeDiff, Int.reduceSub, Int.reduceNeg, Int.reduceLT, Int.reduceLE, Int.reduceEq, *, initial_ans, cev_ans, Tab.eqF, Function.comp_apply, R1.frozenL]
        all_goals exact AU_check
    · intro m s hI hf hS
      clear hn0 e56 e7
      simp only [go_sem] at hS
      obtain ⟨f2, f3, f4, f54, f55, f7, f56, m0, m1, m2, m3, hn⟩ := hS
      try simp only [go_sem] at hf
      refine rn ?_
      simp (maxDischargeDepth := 9) only [go_sem, Nat.reduceMul, Nat.reduceAdd, Nat.reduceLeDiff, Int.reduceSub, Int.reduceNeg, Int.reduceLT, Int.reduceLE, Int.reduceEq, *, initial_ans, cev_ans, Tab.eqF, Function.comp_apply, R1.frozenL]
      all_goals exact AU_check
end Go.Proofs.Ytficdonjodadlaa
end
section
set_option linter.unusedVariables false
namespace Go.Ev
def nE (t : Int) (l : IV) : IV := .A [.I t, l, .N, .B false]
noncomputable def aE (n b : IV) (t : Int) (l : IV) : Int :=
  if (CK n b).1 = 0 then (if t < 0 ∨ ((asL (fld n 2)).length : Int) ≤ t ∨ ¬CP n b (nE t l) = 0 then 7 else if (2000 : Int) ≤ ((asL (fld b 1)).length : Int) then 2 else 0) else (CK n b).1
def ocs (n b : IV) (t : Int) (i : Nat) : List IV := (List.range i).map fun k => .A [.I (asI ((tgs (fld (el (asL (fld n 2)) t) 2) (asL (fld (el (asL (fld n 2)) t) 2)).length).getD k .N)), .I ((asL (fld b 1)).length : Int)]
theorem ocs_zero {n b : IV} {t : Int} : ocs n b t 0 = [] := (rfl)
theorem ocs_succ {n b : IV} {t : Int} {i : Nat} : ocs n b t (i + 1) = ocs n b t i ++ [.A [.I (asI ((tgs (fld (el (asL (fld n 2)) t) 2) (asL (fld (el (asL (fld n 2)) t) 2)).length).getD i .N)), .I ((asL (fld b 1)).length : Int)]] := by simp [ocs, List.range_succ]
theorem ocs_len {n b : IV} {t : Int} {i : Nat} : (ocs n b t i).length = i := by simp [ocs]
def pss (b : IV) (i : Nat) : List IV := (List.range i).map fun (k : Nat) => .I (((asL (fld b 0)).length + k : Nat) : Int)
theorem pss_zero {b : IV} : pss b 0 = [] := (rfl)
theorem pss_succ {b : IV} {i : Nat} : pss b (i + 1) = pss b i ++ [.I (((asL (fld b 0)).length + i : Nat) : Int)] := by simp [pss, List.range_succ]
theorem pss_len {b : IV} {i : Nat} : (pss b i).length = i := by simp [pss]
attribute [go_sem] ocs_zero pss_zero
def aC (n b : IV) (t : Int) : List IV := asL (fld b 0) ++ ocs n b t (asL (fld (el (asL (fld n 2)) t) 2)).length
def aV (n b : IV) (t : Int) (l : IV) : List IV := cls b (asL (fld b 1)).length ++ [.A [.I t, .L (asL l), .L (pss b (asL (fld (el (asL (fld n 2)) t) 2)).length), .B false]]
def pvx (q r i : Nat) : Nat := if pv q i ≤ r then pv q i else r
noncomputable def aR (n b : IV) (t : Int) (l : IV) (q r : Nat) : RV := if aE n b t l = 0 then .g 29 [.at (.iv q 26 (.L (aC n b t))), .at (.iv (pvx q r (asL (fld b 1)).length) 27 (.L (aV n b t l)))] else .one (.at (.iv 2 29 (.A [.N, .N])))
theorem CK_IE {n b : IV} (h : (CK n b).1 = 0) : IE n = 0 := by
  unfold CK at h
  split at h
  · assumption
  · exact h
theorem aR_no {n b : IV} {t : Int} {l : IV} {q r : Nat} (h : ¬aE n b t l = 0) : aR n b t l q r = .one (.at (.iv 2 29 (.A [.N, .N]))) := by unfold aR; rw [if_neg h]
theorem aR_ok {n b : IV} {t : Int} {l : IV} {q r : Nat} (h : aE n b t l = 0) : aR n b t l q r = .g 29 [.at (.iv q 26 (.L (aC n b t))), .at (.iv (pvx q r (asL (fld b 1)).length) 27 (.L (aV n b t l)))] := by unfold aR; rw [if_pos h]
theorem nE_eq {t : Int} {l : IV} : IV.A [.I t, l, .N, .B false] = nE t l := (rfl)
theorem ok_nE {t : Int} {l : IV} (h : -9223372036854775808 ≤ t ∧ t < 18446744073709551616) (hl : Ok l) : Ok (nE t l) := by
  refine .A (fun x hx => ?_)
  simp only [List.mem_cons, List.not_mem_nil, or_false] at hx
  rcases hx with rfl | rfl | rfl | rfl
  · exact .I h
  · exact hl
  · exact .N
  · exact .B
theorem nE_f0 {t : Int} {l : IV} : fld (nE t l) 0 = .I t := (rfl)
theorem nE_f1 {t : Int} {l : IV} : fld (nE t l) 1 = l := (rfl)
theorem nE_f2 {t : Int} {l : IV} : fld (nE t l) 2 = .N := (rfl)
theorem nE_f3 {t : Int} {l : IV} : fld (nE t l) 3 = .B false := (rfl)
attribute [go_sem] nE_f0 nE_f1 nE_f2 nE_f3
theorem nE_0 {t : Int} {l : IV} : asI (fld (nE t l) 0) = t := (rfl)
end Go.Ev
end
section
set_option linter.unusedSimpArgs false
set_option linter.unusedVariables false
set_option maxRecDepth 100000
set_option maxHeartbeats 4000000
namespace Go.Proofs.Ytficdonjodadlaa
open Go.Ev Go.Proofs
theorem AU_clone {p : Prop} (h : p := by
  repeat' (first | (with_reducible refine condLt (fun h h' => ?_) (fun h h' => ?_)) | (with_reducible refine condLe (fun h h' => ?_) (fun h h' => ?_)) | (with_reducible refine dop_val ?_) | (with_reducible refine YsLt (fun h h' => ?_) (fun h h' => ?_)) | (with_reducible refine YsLe (fun h h' => ?_) (fun h h' => ?_)) | (with_reducible refine condP (fun h => ?_) (fun h => ?_)) | (with_reducible refine condN (fun h => ?_) (fun h => ?_)) | (with_reducible refine condB (fun h => ?_) (fun h => ?_)) | (with_reducible refine condR (fun h => ?_) (fun h => ?_)) | (with_reducible refine YsB (fun h => ?_) (fun h => ?_)) | (with_reducible refine YsC (fun h => ?_) (fun h => ?_)) | (with_reducible refine Ys_ite (fun h => ?_) (fun h => ?_)) | (intro h) | (with_reducible refine draw_look (by kernel_rfl) (by kernel_rfl) ?_) | (simp (maxDischargeDepth := 9) only [go_sem, Nat.reduceMul, Nat.reduceAdd, Nat.reduceLeDiff, Int.reduceSub, Int.reduceNeg, Int.reduceLT, Int.reduceLE, Int.reduceEq, *, cls_len, Nat.le_refl]) | (exfalso; omega))) : p := h
theorem clone_ans (ext : CallF) (k : Nat) (b : IV) (q : Nat) (hk : maxLen + (4) ≤ k) (hb : Ok b) (hq : q ≠ 0) (hq2 : q ≤ 2) (hz : (asL (fld b 1)).length ≤ 1000000) (hzc : (asL (fld b 0)).length ≤ 1000000) (hpp : ∀ x ∈ (asL (fld b 1)), (∃ l, x = .A l) ∧ (asL (fld x 1)).length ≤ 100000 ∧ (asL (fld x 2)).length ≤ 100000) : ans (tab.run ext k) 51 [.iv q 29 b] 12 = some ([.g 29 [.own q 54 (asL (fld b 0)), .own (pv q (asL (fld b 1)).length) 56 (cls b (asL (fld b 1)).length)]], [29]) := by
  obtain ⟨k, rfl⟩ : ∃ k', k = k' + 1 := ⟨k - 1, by omega⟩
  have hk1 : maxLen < k := by omega
  have hk0 : 0 < k := by omega
  refine fn_run (fx := fx51) (m := 36) 37 rfl rfl rfl rfl (fun st hn hg hr => ?_)
  have g0 : st.get (.tmp 0) = .v (.a (.iv q 29 b)) := hg 0 (of_decide_eq_true rfl)
  have r0 := hr 0
  have r1 := hr 1
  have r2 := hr 2
  have r3 := hr 3
  have r4 := hr 4
  have r5 := hr 5
  have r6 := hr 6
  have r7 := hr 7
  have r8 := hr 8
  have r9 := hr 9
  have r10 := hr 10
  have r11 := hr 11
  clear hg hr
  rw [co51]
  simp only [Try.f51, Option.getD_some]
  have hl0 := ok_len (ok_fld (j := 0) hb)
  have hl1 := ok_len (ok_fld (j := 1) hb)
  have hpv := fun i => pv_ne (q := q) (i := i) hq
  have hpa := mn_2 hq2
  have hps := fun i => pv_succ (q := q) (i := i) hq2
  have hqq := Nat.le_refl q
  simp (maxDischargeDepth := 9) only [go_sem, Nat.reduceMul, Nat.reduceAdd, Nat.reduceLeDiff, Int.reduceSub, Int.reduceNeg, Int.reduceLT, Int.reduceLE, Int.reduceEq, *, cls_len, Nat.le_refl]
  refine gen_st (fun s0 hg hr hn0 => ?_)
  have e2 := hg 2
  have e3 := hg 3
  have e13 := hg 13
  have e14 := hg 14
  have e15 := hg 15
  have q0 := hr 0
  have q1 := hr 1
  have q2 := hr 2
  have q3 := hr 3
  have q4 := hr 4
  have q5 := hr 5
  have q6 := hr 6
  have q8 := hr 8
  clear hg hr
  simp (maxDischargeDepth := 9) only [go_sem, *] at hn0 e2 e3 e13 e14 e15 q0 q1 q2 q3 q4 q5 q6 q8
  refine nr (runs_for (asL (fld b 1)) (fun (_ : Unit) _ => Stp.next (ρ := Unit) ()) () 37 (fun i a => [(2, s0.get (.tmp 2)), (3, s0.get (.tmp 3)), (13, s0.get (.tmp 13)), (14, s0.get (.tmp 14)), (15, .v (.a (.int .i64 (i : Nat))))]) (fun i a => [(0, s0.row 0), (1, s0.row 1), (2, s0.row 2), (3, s0.row 3), (8, s0.row 8), (4, some (.box false 29 [0, 1] (.g 29 [.own 5, .own 6]))), (5, some (.arr q 54 (asL (fld b 0)))), (6, some (.arr (pv q i) 56 (cls b i)))]) (fun i a => True) (by omega) ?_ (trivial) ?_ ?_ ?_ ?_)
  · simp (maxDischargeDepth := 9) only [go_sem, Nat.reduceMul, Nat.reduceAdd, Nat.reduceLeDiff, Int.reduceSub, Int.reduceNeg, Int.reduceLT, Int.reduceLE, Int.reduceEq, *, cls_len, Nat.le_refl]
  · intro i a; simp (maxDischargeDepth := 9) only [go_sem, Nat.reduceMul, Nat.reduceAdd, Nat.reduceLeDiff, Int.reduceSub, Int.reduceNeg, Int.reduceLT, Int.reduceLE, Int.reduceEq, *, cls_len, Nat.le_refl]
  · intro i a; simp (maxDischargeDepth := 9) only [go_sem, Nat.reduceMul, Nat.reduceAdd, Nat.reduceLeDiff, Int.reduceSub, Int.reduceNeg, Int.reduceLT, Int.reduceLE, Int.reduceEq, *, cls_len, Nat.le_refl]
  · intro i x a s hx hi hI hS
    clear hn0 e15 q4 q5 q6
    simp only [go_sem] at hS
    obtain ⟨f2, f3, f13, f14, f15, m0, m1, m2, m3, m8, m4, m5, m6, hn⟩ := hS
    have hw := wrap_succ hi (hl1)
    have hcg := cls_get hx
    obtain ⟨⟨l, rfl⟩, hp1, hp2⟩ := hpp x (List.mem_of_getElem? hx)
    have hp1 : (asL (fld (.A l) 1)).length ≤ 1000000 := by omega
    have hp2 : (asL (fld (.A l) 2)).length ≤ 1000000 := by omega
    have hcl : i + 1 ≤ 1000000 := by omega
    refine rn ?_
    simp (maxDischargeDepth := 9) only [go_sem, Nat.reduceMul, Nat.reduceAdd, Nat.reduceLeDiff, Int.reduceSub, Int.reduceNeg, Int.reduceLT, Int.reduceLE, Int.reduceEq, *, cls_len, Nat.le_refl]
    all_goals exact AU_clone
  · intro a s hI hf hS
    clear hn0 e15 q4 q5 q6
    simp only [go_sem] at hS
    obtain ⟨f2, f3, f13, f14, f15, m0, m1, m2, m3, m8, m4, m5, m6, hn⟩ := hS
    try simp only [go_sem] at hf
    refine rn ?_
    simp (maxDischargeDepth := 9) only [go_sem, Nat.reduceMul, Nat.reduceAdd, Nat.reduceLeDiff, Int.reduceSub, Int.reduceNeg, Int.reduceLT, Int.reduceLE, Int.reduceEq, *, cls_len, Nat.le_refl]
    all_goals exact AU_clone
end Go.Proofs.Ytficdonjodadlaa
end
section
set_option linter.unusedVariables false
namespace Go.Ev
def plo (b : IV) (c : Nat) : Int := asI (fld ((asL (fld b 0)).getD c .N) 0)
def chO (b : IV) (p : Int) (i : Nat) : List IV := ((List.range i).filter fun (c : Nat) => decide (asI (fld ((asL (fld b 0)).getD c .N) 0) = p)).map fun (c : Nat) => .L [.I (c : Int)]
theorem chO_zero {b : IV} {p : Int} : chO b p 0 = [] := (rfl)
attribute [go_sem] chO_zero
noncomputable def FT (b l : IV) (c : Int) : Bool := !((asL l).any fun d => !TG b c (asI d))
end Go.Ev
end
section
set_option linter.unusedSimpArgs false
set_option linter.unusedVariables false
set_option maxRecDepth 100000
set_option maxHeartbeats 4000000
namespace Go.Proofs.Ytficdonjodadlaa
open Go.Ev Go.Proofs
theorem AU_fits {p : Prop} (h : p := by
  repeat' (first | (with_reducible refine condLt (fun h h' => ?_) (fun h h' => ?_)) | (with_reducible refine condLe (fun h h' => ?_) (fun h h' => ?_)) | (with_reducible refine dop_val ?_) | (with_reducible refine YsLt (fun h h' => ?_) (fun h h' => ?_)) | (with_reducible refine YsLe (fun h h' => ?_) (fun h h' => ?_)) | (with_reducible refine condP (fun h => ?_) (fun h => ?_)) | (with_reducible refine condN (fun h => ?_) (fun h => ?_)) | (with_reducible refine condB (fun h => ?_) (fun h => ?_)) | (with_reducible refine condR (fun h => ?_) (fun h => ?_)) | (with_reducible refine YsB (fun h => ?_) (fun h => ?_)) | (with_reducible refine YsC (fun h => ?_) (fun h => ?_)) | (with_reducible refine Ys_ite (fun h => ?_) (fun h => ?_)) | (intro h) | (with_reducible refine draw_look (by kernel_rfl) (by kernel_rfl) ?_) | (simp (maxDischargeDepth := 9) only [go_sem, Nat.reduceMul, Nat.reduceAdd, Nat.reduceLeDiff, Int.reduceSub, Int.reduceNeg, Int.reduceLT, Int.reduceLE, Int.reduceEq, *, concurrent_ans]) | (exfalso; omega))) : p := h
theorem fits_ans (ext : CallF) (k : Nat) (hE : ExC ext) (hU : ExU ext) (b l : IV) (c : Int) (p q : Nat) (hk : maxLen + (D0 + 24) ≤ k) (hb : Ok b) (hp : p ≠ 0) (hfd : FD b = true) (hv : Ok l) (hc0 : 0 ≤ c) (hc1 : c < ((asL (fld b 0)).length : Int)) (hz : (asL (fld b 1)).length ≤ 1000000) (hl : ∀ x ∈ asL l, 0 ≤ asI x ∧ asI x < ((asL (fld b 0)).length : Int)) : ans (tab.run ext k) 77 [.iv p 29 b, .iv q 46 l, .int .i64 c] 1 = some ([.one (.at (.bool (FT b l c)))], [4]) := by
  obtain ⟨k, rfl⟩ : ∃ k', k = k' + 1 := ⟨k - 1, by omega⟩
  have hk1 : maxLen < k := by omega
  have hk0 : 0 < k := by omega
  have hk_0 : maxLen + (D0 + 20) ≤ k := by omega
  refine fn_run (fx := fx77) (m := 18) 21 rfl rfl rfl rfl (fun st hn hg hr => ?_)
  have g0 : st.get (.tmp 0) = .v (.a (.iv p 29 b)) := hg 0 (of_decide_eq_true rfl)
  have g1 : st.get (.tmp 1) = .v (.a (.iv q 46 l)) := hg 1 (of_decide_eq_true rfl)
  have g2 : st.get (.tmp 2) = .v (.a (.int .i64 c)) := hg 2 (of_decide_eq_true rfl)
  have r0 := hr 0
  clear hg hr
  rw [co77]
  simp only [Try.f77, Option.getD_some]
  unfold FT
  have hll := ok_len hv
  simp (maxDischargeDepth := 9) only [go_sem, Nat.reduceMul, Nat.reduceAdd, Nat.reduceLeDiff, Int.reduceSub, Int.reduceNeg, Int.reduceLT, Int.reduceLE, Int.reduceEq, *, concurrent_ans]
  refine gen_st (fun s0 hg hr hn0 => ?_)
  have e2 := hg 2
  have e3 := hg 3
  have e9 := hg 9
  have e10 := hg 10
  have e11 := hg 11
  have q0 := hr 0
  clear hg hr
  simp only [go_sem, *] at hn0 e2 e3 e9 e10 e11 q0
  refine nr (runs_for (asL l) (fun (_ : Unit) x => if TG b c (asI x) = true then .next () else .ret false) () 21 (fun i a => [(2, s0.get (.tmp 2)), (3, s0.get (.tmp 3)), (9, s0.get (.tmp 9)), (10, s0.get (.tmp 10)), (11, .v (.a (.int .i64 (i : Nat))))]) (fun i a => [(0, s0.row 0)]) (fun i a => True) (by omega) ?_ (trivial) ?_ ?_ ?_ ?_)
  · simp (maxDischargeDepth := 9) only [go_sem, Nat.reduceMul, Nat.reduceAdd, Nat.reduceLeDiff, Int.reduceSub, Int.reduceNeg, Int.reduceLT, Int.reduceLE, Int.reduceEq, *, concurrent_ans]
  · intro i a; simp (maxDischargeDepth := 9) only [go_sem, Nat.reduceMul, Nat.reduceAdd, Nat.reduceLeDiff, Int.reduceSub, Int.reduceNeg, Int.reduceLT, Int.reduceLE, Int.reduceEq, *, concurrent_ans]
  · intro i a; simp (maxDischargeDepth := 9) only [go_sem, Nat.reduceMul, Nat.reduceAdd, Nat.reduceLeDiff, Int.reduceSub, Int.reduceNeg, Int.reduceLT, Int.reduceLE, Int.reduceEq, *, concurrent_ans]
  · intro i x a s hx hi hI hS
    clear hn0 e11
    simp only [go_sem] at hS
    obtain ⟨f2, f3, f9, f10, f11, m0, hn⟩ := hS
    have hw := wrap_succ hi (hll)
    obtain ⟨hx0, hx1⟩ := hl x (List.mem_of_getElem? hx)
    refine rn ?_
    simp (maxDischargeDepth := 9) only [go_sem, Nat.reduceMul, Nat.reduceAdd, Nat.reduceLeDiff, Int.reduceSub, Int.reduceNeg, Int.reduceLT, Int.reduceLE, Int.reduceEq, *, concurrent_ans]
    all_goals exact AU_fits
  · intro a s hI hf hS
    clear hn0 e11
    simp only [go_sem] at hS
    obtain ⟨f2, f3, f9, f10, f11, m0, hn⟩ := hS
    try simp only [go_sem] at hf
    refine rn ?_
    simp (maxDischargeDepth := 9) only [go_sem, Nat.reduceMul, Nat.reduceAdd, Nat.reduceLeDiff, Int.reduceSub, Int.reduceNeg, Int.reduceLT, Int.reduceLE, Int.reduceEq, *, concurrent_ans]
    all_goals exact AU_fits
end Go.Proofs.Ytficdonjodadlaa
end
section
set_option linter.unusedVariables false
namespace Go.Ev
def poI (b : IV) (t : Int) (ls : List IV) (j : Nat) : List IV := ((List.range j).filter fun (k : Nat) => !KN b t (ls.getD k .N)).map fun (k : Nat) => .L ([.I t] ++ asL (ls.getD k .N))
theorem poI_zero {b : IV} {t : Int} {ls : List IV} : poI b t ls 0 = [] := (rfl)
theorem poI_in {b : IV} {t : Int} {ls : List IV} {j : Nat} (h : KN b t (ls.getD j .N) = false) : poI b t ls (j + 1) = poI b t ls j ++ [.L ([.I t] ++ asL (ls.getD j .N))] := by
  simp only [poI, List.range_succ, List.filter_append, List.map_append, List.filter_cons, List.filter_nil, h, Bool.not_false, if_true, List.map_cons, List.map_nil]
theorem poI_no {b : IV} {t : Int} {ls : List IV} {j : Nat} (h : KN b t (ls.getD j .N) = true) : poI b t ls (j + 1) = poI b t ls j := by
  simp only [poI, List.range_succ, List.filter_append, List.map_append, List.filter_cons, List.filter_nil, h, Bool.not_true, Bool.false_eq_true, if_false, List.map_nil, List.append_nil]
theorem poI_len {b : IV} {t : Int} {ls : List IV} {j : Nat} : (poI b t ls j).length ≤ j := by
  unfold poI; rw [List.length_map]; exact Nat.le_trans (List.length_filter_le _ _) (by simp)
def poO (b : IV) (ch : Nat → List IV) (i : Nat) : List IV := (List.range i).flatMap fun (t : Nat) => poI b (t : Int) (ch t) (ch t).length
theorem poO_zero {b : IV} {ch : Nat → List IV} : poO b ch 0 = [] := (rfl)
theorem poO_succ {b : IV} {ch : Nat → List IV} {i : Nat} : poO b ch (i + 1) = poO b ch i ++ poI b (i : Int) (ch i) (ch i).length := by simp [poO, List.range_succ, List.flatMap_append]
theorem poO_len {b : IV} {ch : Nat → List IV} {m : Nat} (h : ∀ i, (ch i).length ≤ m) : ∀ i, (poO b ch i).length ≤ i * m
  | 0 => by simp [poO]
  | i + 1 => by
    rw [poO_succ, List.length_append, Nat.succ_mul]
    exact Nat.add_le_add (poO_len h i) (Nat.le_trans poI_len (h i))
noncomputable def PS (n b : IV) (ch : Nat → List IV) : List IV := if (CK n b).1 = 0 then poO b ch (asL (fld n 2)).length else []
attribute [go_sem] poI_zero poO_zero
end Go.Ev
end
section
set_option linter.unusedSimpArgs false
set_option linter.unusedVariables false
set_option maxRecDepth 100000
set_option maxHeartbeats 4000000
namespace Go.Proofs.Ytficdonjodadlaa
open Go.Ev Go.Proofs
theorem AU_possible {p : Prop} (h : p := by
  repeat' (first | (with_reducible refine condLt (fun h h' => ?_) (fun h h' => ?_)) | (with_reducible refine condLe (fun h h' => ?_) (fun h h' => ?_)) | (with_reducible refine dop_val ?_) | (with_reducible refine YsLt (fun h h' => ?_) (fun h h' => ?_)) | (with_reducible refine YsLe (fun h h' => ?_) (fun h h' => ?_)) | (with_reducible refine condP (fun h => ?_) (fun h => ?_)) | (with_reducible refine condN (fun h => ?_) (fun h => ?_)) | (with_reducible refine condB (fun h => ?_) (fun h => ?_)) | (with_reducible refine condR (fun h => ?_) (fun h => ?_)) | (with_reducible refine YsB (fun h => ?_) (fun h => ?_)) | (with_reducible refine YsC (fun h => ?_) (fun h => ?_)) | (with_reducible refine Ys_ite (fun h => ?_) (fun h => ?_)) | (intro h) | (with_reducible refine draw_look (by kernel_rfl) (by kernel_rfl) ?_) | (simp (maxDischargeDepth := 9) only [go_sem, Nat.reduceMul, Nat.reduceAdd, Nat.reduceLeDiff, Int.reduceSub, Int.reduceNeg, Int.reduceLT, Int.reduceLE, Int.reduceEq, *, check_ans, inputs_ans, known_ans, ans_ext]) | (exfalso; omega))) : p := h
theorem possible_ans (ext : CallF) (k : Nat) (hN : ExN ext) (hE : ExC ext) (hU : ExU ext) (n b : IV) (p q : Nat) (ch : Nat → List IV) (hk : maxLen + (D0 + 52) ≤ k) (hnn : Ok n) (hb : Ok b) (hq : q ≠ 0) (hz : (asL (fld b 1)).length ≤ 1000000) (hzc : (asL (fld b 0)).length ≤ 1000000) (hzp : (asL (fld n 1)).length ≤ 1000) (hig : IE n = 0 → NG n) (hlt : (asL (fld n 2)).length ≤ 6) (hcl : (CK n b).1 = 0 → ∀ i, (ch i).length ≤ 140000) (hcu : ∀ i, ∀ u ∈ ch i, (asL u).length ≤ 1000) (hC : (CK n b).1 = 0 → ∀ (i : Nat), i < (asL (fld n 2)).length → ans ext 46 [.iv q 29 b, .iv 2 46 (.L (tgs (fld ((asL (fld n 2)).getD i .N) 1) (asL (fld ((asL (fld n 2)).getD i .N) 1)).length))] 0 = some ([.one (.own 2 46 (ch i))], [44])) : ans (tab.run ext k) 20 [.iv p 25 n, .iv q 29 b] 5 = some ([.one (.own 2 46 (PS n b ch))], [44]) := by
  obtain ⟨k, rfl⟩ : ∃ k', k = k' + 1 := ⟨k - 1, by omega⟩
  have hk1 : maxLen < k := by omega
  have hk0 : 0 < k := by omega
  have hk_0 : maxLen + (20) ≤ k := by omega
  have hk_1 : maxLen + (6) ≤ k := by omega
  have hk_2 : maxLen + (D0 + 48) ≤ k := by omega
  refine fn_run (fx := fx20) (m := 43) 45 rfl rfl rfl rfl (fun st hn hg hr => ?_)
  have g0 : st.get (.tmp 0) = .v (.a (.iv p 25 n)) := hg 0 (of_decide_eq_true rfl)
  have g1 : st.get (.tmp 1) = .v (.a (.iv q 29 b)) := hg 1 (of_decide_eq_true rfl)
  have r0 := hr 0
  have r1 := hr 1
  have r2 := hr 2
  have r3 := hr 3
  have r4 := hr 4
  clear hg hr
  rw [co20]
  simp only [Try.f20, Option.getD_some]
  unfold PS
  have hl2 := ok_len (ok_fld (j := 2) hnn)
  have hck := check_ans ext k hN hE hU n b p q (by omega) hnn hb hq hz hzc hzp hig
  by_cases h1 : (CK n b).1 = 0
  case neg =>
    simp (maxDischargeDepth := 9) only [go_sem, Nat.reduceMul, Nat.reduceAdd, Nat.reduceLeDiff, Int.reduceSub, Int.reduceNeg, Int.reduceLT, Int.reduceLE, Int.reduceEq, *, check_ans, inputs_ans, known_ans, ans_ext]
  have hg := hig (CK_IE h1)
  have hC := hC h1
  have hcl := hcl h1
  simp (maxDischargeDepth := 9) only [go_sem, Nat.reduceMul, Nat.reduceAdd, Nat.reduceLeDiff, Int.reduceSub, Int.reduceNeg, Int.reduceLT, Int.reduceLE, Int.reduceEq, *, check_ans, inputs_ans, known_ans, ans_ext]
  refine gen_st (fun s0 hg hr hn0 => ?_)
  have e2 := hg 2
  have e3 := hg 3
  have e4 := hg 4
  have e16 := hg 16
  have e17 := hg 17
  have e5 := hg 5
  have q0 := hr 0
  have q1 := hr 1
  have q2 := hr 2
  clear hg hr
  simp only [go_sem, *] at hn0 e2 e3 e4 e16 e17 e5 q0 q1 q2
  refine nr (runs_forN (asL (fld n 2)).length (fun (_ : Unit) _ => Stp.next (ρ := Unit) ()) () 45 (fun i a => [(2, s0.get (.tmp 2)), (3, s0.get (.tmp 3)), (4, s0.get (.tmp 4)), (16, s0.get (.tmp 16)), (5, .v (.a (.own 2))), (17, .v (.a (.int .i64 (i : Nat))))]) (fun i a => [(0, s0.row 0), (1, s0.row 1), (2, some (.arr 2 46 (poO b ch i)))]) (fun i a => True) (by omega) ?_ (trivial) ?_ ?_ ?_ ?_)
  · simp (maxDischargeDepth := 9) only [go_sem, Nat.reduceMul, Nat.reduceAdd, Nat.reduceLeDiff, Int.reduceSub, Int.reduceNeg, Int.reduceLT, Int.reduceLE, Int.reduceEq, *, check_ans, inputs_ans, known_ans, ans_ext]
  · intro i a; simp (maxDischargeDepth := 9) only [go_sem, Nat.reduceMul, Nat.reduceAdd, Nat.reduceLeDiff, Int.reduceSub, Int.reduceNeg, Int.reduceLT, Int.reduceLE, Int.reduceEq, *, check_ans, inputs_ans, known_ans, ans_ext]
  · intro i a; simp (maxDischargeDepth := 9) only [go_sem, Nat.reduceMul, Nat.reduceAdd, Nat.reduceLeDiff, Int.reduceSub, Int.reduceNeg, Int.reduceLT, Int.reduceLE, Int.reduceEq, *, check_ans, inputs_ans, known_ans, ans_ext]
  · intro i a s hi hI hS
    clear hn0 e17 e5 q2
    simp only [go_sem] at hS
    obtain ⟨f2, f3, f4, f16, f5, f17, m0, m1, m2, hn⟩ := hS
    have hw := wrap_succ hi (hl2)
    have h2a : (0 : Int) ≤ ((i : Nat) : Int) := by omega
    have h2b : ((i : Nat) : Int) < (((asL (fld n 2)).length : Nat) : Int) := by omega
    have ht := hg.t1 h2a h2b
    have hs1 := hg.l1 h2a h2b
    rw [el_nat] at hs1
    have hci := hC i hi
    have hcli := hcl i
    have hpo := poO_len (b := b) (ch := ch) hcl i
    have hpo2 := Nat.mul_le_mul_right 140000 (show i ≤ 5 by omega)
    have hiw := hi
    have hcm : (ch i).length < maxLen := by unfold maxLen; omega
    refine rn ?_
    simp (maxDischargeDepth := 9) only [go_sem, Nat.reduceMul, Nat.reduceAdd, Nat.reduceLeDiff, Int.reduceSub, Int.reduceNeg, Int.reduceLT, Int.reduceLE, Int.reduceEq, *, check_ans, inputs_ans, known_ans, ans_ext]
    repeat' (first | (with_reducible refine condLt (fun h h' => ?_) (fun h h' => ?_)) | (with_reducible refine condLe (fun h h' => ?_) (fun h h' => ?_)) | (with_reducible refine dop_val ?_) | (with_reducible refine YsLt (fun h h' => ?_) (fun h h' => ?_)) | (with_reducible refine YsLe (fun h h' => ?_) (fun h h' => ?_)) | (with_reducible refine condP (fun h => ?_) (fun h => ?_)) | (with_reducible refine condN (fun h => ?_) (fun h => ?_)) | (with_reducible refine condB (fun h => ?_) (fun h => ?_)) | (with_reducible refine condR (fun h => ?_) (fun h => ?_)) | (with_reducible refine YsB (fun h => ?_) (fun h => ?_)) | (with_reducible refine YsC (fun h => ?_) (fun h => ?_)) | (with_reducible refine Ys_ite (fun h => ?_) (fun h => ?_)) | (intro h) | (with_reducible refine draw_look (by kernel_rfl) (by kernel_rfl) ?_) | (simp (maxDischargeDepth := 9) only [go_sem, Nat.reduceMul, Nat.reduceAdd, Nat.reduceLeDiff, Int.reduceSub, Int.reduceNeg, Int.reduceLT, Int.reduceLE, Int.reduceEq, *, check_ans, inputs_ans, known_ans, ans_ext]) | (exfalso; omega))
    refine gen_st (fun s0 hg hr hn0 => ?_)
    have e2 := hg 2
    have e3 := hg 3
    have e4 := hg 4
    have e6 := hg 6
    have e16 := hg 16
    have e17 := hg 17
    have e18 := hg 18
    have e19 := hg 19
    have e20 := hg 20
    have e21 := hg 21
    have e22 := hg 22
    have e23 := hg 23
    have e24 := hg 24
    have e25 := hg 25
    have e26 := hg 26
    have e5 := hg 5
    have q0 := hr 0
    have q1 := hr 1
    have q2 := hr 2
    clear hg hr
    simp only [go_sem, *] at hn0 e2 e3 e4 e6 e16 e17 e18 e19 e20 e21 e22 e23 e24 e25 e26 e5 q0 q1 q2
    refine nr (runs_forN (ch i).length (fun (_ : Unit) _ => Stp.next (ρ := Unit) ()) () 45 (fun j a => [(2, s0.get (.tmp 2)), (3, s0.get (.tmp 3)), (4, s0.get (.tmp 4)), (6, s0.get (.tmp 6)), (16, s0.get (.tmp 16)), (17, s0.get (.tmp 17)), (18, s0.get (.tmp 18)), (19, s0.get (.tmp 19)), (20, s0.get (.tmp 20)), (21, s0.get (.tmp 21)), (22, s0.get (.tmp 22)), (23, s0.get (.tmp 23)), (24, s0.get (.tmp 24)), (25, s0.get (.tmp 25)), (5, .v (.a (.own 2))), (26, .v (.a (.int .i64 (j : Nat))))]) (fun j a => [(0, s0.row 0), (1, s0.row 1), (2, some (.arr 2 46 (poO b ch i ++ poI b (i : Int) (ch i) j)))]) (fun j a => True) (by omega) ?_ (trivial) ?_ ?_ ?_ ?_)
    · simp (maxDischargeDepth := 9) only [go_sem, Nat.reduceMul, Nat.reduceAdd, Nat.reduceLeDiff, Int.reduceSub, Int.reduceNeg, Int.reduceLT, Int.reduceLE, Int.reduceEq, *, check_ans, inputs_ans, known_ans, ans_ext]
    · intro i a; simp (maxDischargeDepth := 9) only [go_sem, Nat.reduceMul, Nat.reduceAdd, Nat.reduceLeDiff, Int.reduceSub, Int.reduceNeg, Int.reduceLT, Int.reduceLE, Int.reduceEq, *, check_ans, inputs_ans, known_ans, ans_ext]
    · intro i a; simp (maxDischargeDepth := 9) only [go_sem, Nat.reduceMul, Nat.reduceAdd, Nat.reduceLeDiff, Int.reduceSub, Int.reduceNeg, Int.reduceLT, Int.reduceLE, Int.reduceEq, *, check_ans, inputs_ans, known_ans, ans_ext]
    · intro j a s hi hI hS
      clear hn0 e26 e5 q2
      simp only [go_sem] at hS
      obtain ⟨f2, f3, f4, f6, f16, f17, f18, f19, f20, f21, f22, f23, f24, f25, f5, f26, m0, m1, m2, hn⟩ := hS
      have hw := wrap_succ hi (Nat.le_of_lt hcm)
      have hpj := poI_len (b := b) (t := (i : Int)) (ls := ch i) (j := j)
      have hpl : (poO b ch i).length + (poI b (i : Int) (ch i) j).length + 1 ≤ 1000000 := by omega
      have hul : 1 + (asL ((ch i).getD j .N)).length ≤ 1000000 := by
        have := hcu i ((ch i).getD j .N) (by rw [List.getD, List.getElem?_eq_getElem hi]; simp)
        omega
      refine rn ?_
      simp (maxDischargeDepth := 9) only [go_sem, Nat.reduceMul, Nat.reduceAdd, Nat.reduceLeDiff, Int.reduceSub, Int.reduceNeg, Int.reduceLT, Int.reduceLE, Int.reduceEq, *, check_ans, inputs_ans, known_ans, ans_ext]
      by_cases hkn : KN b (i : Int) ((ch i).getD j .N) = true
      case pos =>
        have hpn := poI_no hkn
        simp (maxDischargeDepth := 9) only [go_sem, Nat.reduceMul, Nat.reduceAdd, Nat.reduceLeDiff, Int.reduceSub, Int.reduceNeg, Int.reduceLT, Int.reduceLE, Int.reduceEq, *, check_ans, inputs_ans, known_ans, ans_ext]
      have hkf : KN b (i : Int) ((ch i).getD j .N) = false := by simpa using hkn
      have hpn := poI_in hkf
      simp (maxDischargeDepth := 9) only [go_sem, Nat.reduceMul, Nat.reduceAdd, Nat.reduceLeDiff, Int.reduceSub, Int.reduceNeg, Int.reduceLT, Int.reduceLE, Int.reduceEq, *, check_ans, inputs_ans, known_ans, ans_ext]
    · intro a s hI hf hS
      clear hn0 e26 e5 q2
      simp only [go_sem] at hS
      obtain ⟨f2, f3, f4, f6, f16, f17, f18, f19, f20, f21, f22, f23, f24, f25, f5, f26, m0, m1, m2, hn⟩ := hS
      try simp only [go_sem] at hf
      have hps := poO_succ (b := b) (ch := ch) (i := i)
      refine rn ?_
      simp (maxDischargeDepth := 9) only [go_sem, Nat.reduceMul, Nat.reduceAdd, Nat.reduceLeDiff, Int.reduceSub, Int.reduceNeg, Int.reduceLT, Int.reduceLE, Int.reduceEq, *, check_ans, inputs_ans, known_ans, ans_ext]
      all_goals exact AU_possible
  · intro a s hI hf hS
    clear hn0 e17 e5 q2
    simp only [go_sem] at hS
    obtain ⟨f2, f3, f4, f16, f5, f17, m0, m1, m2, hn⟩ := hS
    try simp only [go_sem] at hf
    refine rn ?_
    simp (maxDischargeDepth := 9) only [go_sem, Nat.reduceMul, Nat.reduceAdd, Nat.reduceLeDiff, Int.reduceSub, Int.reduceNeg, Int.reduceLT, Int.reduceLE, Int.reduceEq, *, check_ans, inputs_ans, known_ans, ans_ext]
    all_goals exact AU_possible
end Go.Proofs.Ytficdonjodadlaa
end
