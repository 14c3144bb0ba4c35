/- Part 5 of a proof: Dl. Words and walks that a program printed for this claim stand here without what the claim does not use. -/
import Derived.Test.YtficdonjodadlaaDl3
import Derived.Test.YtficdonjodadlaaDl4
set_option linter.unusedSimpArgs false
set_option linter.unusedVariables false
section
set_option linter.unusedSimpArgs false
set_option linter.unusedVariables false
set_option maxRecDepth 100000
set_option maxHeartbeats 4000000
namespace Go.Proofs.Ytficdonjodadlaa
open Go.Ev Go.Proofs
theorem AU_rclash {p : Prop} (h : p := by
  repeat' (first | (with_reducible refine condLt (fun h h' => ?_) (fun h h' => ?_)) | (with_reducible refine condLe (fun h h' => ?_) (fun h h' => ?_)) | (with_reducible refine dop_val ?_) | (with_reducible refine YsLt (fun h h' => ?_) (fun h h' => ?_)) | (with_reducible refine YsLe (fun h h' => ?_) (fun h h' => ?_)) | (with_reducible refine condP (fun h => ?_) (fun h => ?_)) | (with_reducible refine condN (fun h => ?_) (fun h => ?_)) | (with_reducible refine condB (fun h => ?_) (fun h => ?_)) | (with_reducible refine condR (fun h => ?_) (fun h => ?_)) | (with_reducible refine YsB (fun h => ?_) (fun h => ?_)) | (with_reducible refine YsC (fun h => ?_) (fun h => ?_)) | (with_reducible refine Ys_ite (fun h => ?_) (fun h => ?_)) | (intro h) | (with_reducible refine draw_look (by kernel_rfl) (by kernel_rfl) ?_) | (simp (maxDischargeDepth := 9) only [go_sem, Nat.reduceMul, Nat.reduceAdd, Nat.reduceLeDiff, Int.reduceSub, Int.reduceNeg, Int.reduceLT, Int.reduceLE, Int.reduceEq, *, past_ans, share_ans]) | (exfalso; omega))) : p := h
theorem rclash_ans (ext : CallF) (k : Nat) (b : IV) (e f : Int) (p : Nat) (hk : maxLen + (6) ≤ k) (hb : Ok b) (hfd : FD b = true) (he : e < ((asL (fld b 1)).length : Int)) (hf0 : f < ((asL (fld b 1)).length : Int)) (hz : (asL (fld b 1)).length ≤ 1000000) : ans (tab.run ext k) 63 [.iv p 29 b, .int .i64 e, .int .i64 f] 1 = some ([.one (.at (.bool (CLf b (hist b e) (hist b f))))], [4]) := by
  obtain ⟨k, rfl⟩ : ∃ k', k = k' + 1 := ⟨k - 1, by omega⟩
  have hk1 : maxLen < k := by omega
  have hk0 : 0 < k := by omega
  have hk_0 : maxLen + (2) ≤ k := by omega
  have hk_1 : maxLen + (4) ≤ k := by omega
  refine fn_run (fx := fx63) (m := 56) 59 rfl rfl rfl rfl (fun st hn hg hr => ?_)
  have g0 : st.get (.tmp 0) = .v (.a (.iv p 29 b)) := hg 0 (of_decide_eq_true rfl)
  have g1 : st.get (.tmp 1) = .v (.a (.int .i64 e)) := hg 1 (of_decide_eq_true rfl)
  have g2 : st.get (.tmp 2) = .v (.a (.int .i64 f)) := hg 2 (of_decide_eq_true rfl)
  have r0 := hr 0
  clear hg hr
  rw [co63]
  simp only [Try.f63, Option.getD_some]
  unfold CLf
  have hl1 := ok_len (ok_fld (j := 1) hb)
  generalize hX : hist b e = X
  generalize hY : hist b f = Y
  simp (maxDischargeDepth := 9) only [go_sem, Nat.reduceMul, Nat.reduceAdd, Nat.reduceLeDiff, Int.reduceSub, Int.reduceNeg, Int.reduceLT, Int.reduceLE, Int.reduceEq, *, past_ans, share_ans]
  repeat' (first | (with_reducible refine condLt (fun h h' => ?_) (fun h h' => ?_)) | (with_reducible refine condLe (fun h h' => ?_) (fun h h' => ?_)) | (with_reducible refine dop_val ?_) | (with_reducible refine YsLt (fun h h' => ?_) (fun h h' => ?_)) | (with_reducible refine YsLe (fun h h' => ?_) (fun h h' => ?_)) | (with_reducible refine condP (fun h => ?_) (fun h => ?_)) | (with_reducible refine condN (fun h => ?_) (fun h => ?_)) | (with_reducible refine condB (fun h => ?_) (fun h => ?_)) | (with_reducible refine condR (fun h => ?_) (fun h => ?_)) | (with_reducible refine YsB (fun h => ?_) (fun h => ?_)) | (with_reducible refine YsC (fun h => ?_) (fun h => ?_)) | (with_reducible refine Ys_ite (fun h => ?_) (fun h => ?_)) | (intro h) | (with_reducible refine draw_look (by kernel_rfl) (by kernel_rfl) ?_) | (simp (maxDischargeDepth := 9) only [go_sem, Nat.reduceMul, Nat.reduceAdd, Nat.reduceLeDiff, Int.reduceSub, Int.reduceNeg, Int.reduceLT, Int.reduceLE, Int.reduceEq, *, past_ans, share_ans]) | (exfalso; omega))
  refine gen_st (fun s0 hg hr hn0 => ?_)
  have e3 := hg 3
  have e7 := hg 7
  have e8 := hg 8
  have e9 := hg 9
  have q0 := hr 0
  clear hg hr
  simp only [go_sem, *] at hn0 e3 e7 e8 e9 q0
  refine nr (runs_forN (asL (fld b 1)).length (fun (_ : Unit) i => if ((List.range (asL (fld b 1)).length).any fun k2 => (!decide (i = k2) && X i && Y k2 && (asL (fld ((asL (fld b 1)).getD i .N) 1)).any fun x => (asL (fld ((asL (fld b 1)).getD k2 .N) 1)).any fun y => decide (asI y = asI x))) = true then .ret true else .next ()) () 59 (fun i a => [(3, s0.get (.tmp 3)), (7, s0.get (.tmp 7)), (8, s0.get (.tmp 8)), (9, .v (.a (.int .i64 i)))]) (fun i a => [(0, s0.row 0)]) (fun i a => True) (by omega) ?_ (trivial) ?_ ?_ ?_ ?_)
  · simp (maxDischargeDepth := 9) only [go_sem, Nat.reduceMul, Nat.reduceAdd, Nat.reduceLeDiff, Int.reduceSub, Int.reduceNeg, Int.reduceLT, Int.reduceLE, Int.reduceEq, *, past_ans, share_ans]
  · intro i a; simp (maxDischargeDepth := 9) only [go_sem, Nat.reduceMul, Nat.reduceAdd, Nat.reduceLeDiff, Int.reduceSub, Int.reduceNeg, Int.reduceLT, Int.reduceLE, Int.reduceEq, *, past_ans, share_ans]
  · intro i a; simp (maxDischargeDepth := 9) only [go_sem, Nat.reduceMul, Nat.reduceAdd, Nat.reduceLeDiff, Int.reduceSub, Int.reduceNeg, Int.reduceLT, Int.reduceLE, Int.reduceEq, *, past_ans, share_ans]
  · intro i a s hi hI hS
    clear hn0 e9
    simp only [go_sem] at hS
    obtain ⟨f3, f7, f8, f9, m0, hn⟩ := hS
    have hw := wrap_succ hi (hl1)
    refine rn ?_
    simp (maxDischargeDepth := 9) only [go_sem, Nat.reduceMul, Nat.reduceAdd, Nat.reduceLeDiff, Int.reduceSub, Int.reduceNeg, Int.reduceLT, Int.reduceLE, Int.reduceEq, *, past_ans, share_ans]
    refine gen_st (fun s0 hg hr hn0 => ?_)
    have e3 := hg 3
    have e7 := hg 7
    have e8 := hg 8
    have e9 := hg 9
    have e17 := hg 17
    have e18 := hg 18
    have e19 := hg 19
    have e20 := hg 20
    have e10 := hg 10
    have q0 := hr 0
    clear hg hr
    simp only [go_sem, *] at hn0 e3 e7 e8 e9 e17 e18 e19 e20 e10 q0
    refine nr (runs_forN (asL (fld b 1)).length (fun (_ : Unit) k2 => if (!decide (i = k2) && X i && Y k2 && (asL (fld ((asL (fld b 1)).getD i .N) 1)).any fun x => (asL (fld ((asL (fld b 1)).getD k2 .N) 1)).any fun y => decide (asI y = asI x)) = true then .ret true else .next ()) () 59 (fun k2 a => [(3, s0.get (.tmp 3)), (7, s0.get (.tmp 7)), (8, s0.get (.tmp 8)), (9, s0.get (.tmp 9)), (17, s0.get (.tmp 17)), (18, s0.get (.tmp 18)), (19, s0.get (.tmp 19)), (20, s0.get (.tmp 20)), (10, .v (.a (.int .i64 k2)))]) (fun k2 a => [(0, s0.row 0)]) (fun k2 a => True) (by omega) ?_ (trivial) ?_ ?_ ?_ ?_)
    · simp (maxDischargeDepth := 9) only [go_sem, Nat.reduceMul, Nat.reduceAdd, Nat.reduceLeDiff, Int.reduceSub, Int.reduceNeg, Int.reduceLT, Int.reduceLE, Int.reduceEq, *, past_ans, share_ans]
    · intro i a; simp (maxDischargeDepth := 9) only [go_sem, Nat.reduceMul, Nat.reduceAdd, Nat.reduceLeDiff, Int.reduceSub, Int.reduceNeg, Int.reduceLT, Int.reduceLE, Int.reduceEq, *, past_ans, share_ans]
    · intro i a; simp (maxDischargeDepth := 9) only [go_sem, Nat.reduceMul, Nat.reduceAdd, Nat.reduceLeDiff, Int.reduceSub, Int.reduceNeg, Int.reduceLT, Int.reduceLE, Int.reduceEq, *, past_ans, share_ans]
    · intro k2 a s hi hI hS
      clear hn0 e10
      simp only [go_sem] at hS
      obtain ⟨f3, f7, f8, f9, f17, f18, f19, f20, f10, m0, hn⟩ := hS
      have hw := wrap_succ hi (hl1)
      refine rn ?_
      simp (maxDischargeDepth := 9) only [go_sem, Nat.reduceMul, Nat.reduceAdd, Nat.reduceLeDiff, Int.reduceSub, Int.reduceNeg, Int.reduceLT, Int.reduceLE, Int.reduceEq, *, past_ans, share_ans]
      all_goals exact AU_rclash
    · intro a s hI hf hS
      clear hn0 e10
      simp only [go_sem] at hS
      obtain ⟨f3, f7, f8, f9, f17, f18, f19, f20, f10, m0, hn⟩ := hS
      try simp only [go_sem] at hf
      refine rn ?_
      simp (maxDischargeDepth := 9) only [go_sem, Nat.reduceMul, Nat.reduceAdd, Nat.reduceLeDiff, Int.reduceSub, Int.reduceNeg, Int.reduceLT, Int.reduceLE, Int.reduceEq, *, past_ans, share_ans]
      all_goals exact AU_rclash
  · intro a s hI hf hS
    clear hn0 e9
    simp only [go_sem] at hS
    obtain ⟨f3, f7, f8, f9, m0, hn⟩ := hS
    try simp only [go_sem] at hf
    refine rn ?_
    simp (maxDischargeDepth := 9) only [go_sem, Nat.reduceMul, Nat.reduceAdd, Nat.reduceLeDiff, Int.reduceSub, Int.reduceNeg, Int.reduceLT, Int.reduceLE, Int.reduceEq, *, past_ans, share_ans]
    all_goals exact AU_rclash
end Go.Proofs.Ytficdonjodadlaa
end
section
set_option linter.unusedSimpArgs false
set_option linter.unusedVariables false
set_option maxRecDepth 100000
namespace Go.Proofs.Ytficdonjodadlaa
open Go.Ev Go.Proofs
theorem visit_call {st : St} {call : CallF} {c : Int} {b : IV} {p : Nat} {l l2 : List IV} {m2 : Mem} {t : Tmp} (hp : p ≠ 0)
    (r0 : st.row 0 = some (.box true 51 [0] (.a (.own 1)))) (r1 : st.row 1 = some (.arr 2 4 l)) (r2 : st.row 2 = some (.box true 29 [] (.a (.iv p 29 b)))) (r3 : st.row 3 = some (.box true 97 [] (.a (.fn 85 [0, 2, 3]))))
    (ho : st.get (.tmp t) = .v (.a (.int .i64 c)))
    (hrun : call 85 [.int .i64 c, .ptr 0 [] 51, .ptr 2 [] 29, .ptr 3 [] 97] [some (.box true 51 [0] (.a (.own 1))), some (.arr 2 4 l), some (.box true 29 [] (.a (.iv p 29 b))), some (.box true 97 [] (.a (.fn 85 [0, 2, 3])))] = some ([], [], m2))
    (h0 : rowIn m2 0 = some (.box true 51 [0] (.a (.own 1)))) (h1 : rowIn m2 1 = some (.arr 2 4 l2)) (h2 : rowIn m2 2 = some (.box true 29 [] (.a (.iv p 29 b)))) (h3 : rowIn m2 3 = some (.box true 97 [] (.a (.fn 85 [0, 2, 3])))) :
    ∃ st', st.callee tab call 85 [0, 2, 3] [3] [.tmp t] = some ([], [], st') ∧ (∀ d, st'.get (.tmp d) = (st.get (.tmp d)).map (At.killL [1])) ∧ st'.env.length = st.env.length ∧
      st'.row 0 = some (.box true 51 [0] (.a (.own 1))) ∧ st'.row 1 = some (.arr 2 4 l2) ∧ st'.row 2 = some (.box true 29 [] (.a (.iv p 29 b))) ∧ st'.row 3 = some (.box true 97 [] (.a (.fn 85 [0, 2, 3]))) := by
  have e1 : st.reach 60 ([0, 2, 3] ++ [Operand.tmp t].flatMap fun o => (st.get o).caps) [] = [0, 2, 3] := by
    simp [St.reach, ho, SV.caps, St.capsAt, r0, r2, r3, V1.caps]
  have e2 : st.pairs (tab.nk 85) [0, 2, 3] = [(0, 0), (1, 1), (2, 2), (3, 3)] := by
    simp [St.pairs, nk85, St.ownAt, r0, r2, r3]
  have e3 : st.handOver (tab.nk 85) [(0, 0), (1, 1), (2, 2), (3, 3)] = [some (.box true 51 [0] (.a (.own 1))), some (.arr 2 4 l), some (.box true 29 [] (.a (.iv p 29 b))), some (.box true 97 [] (.a (.fn 85 [0, 2, 3])))] := by
    simp [St.handOver, nk85, setD, r0, r1, r2, r3, Row.tr, At.tr, V1.map, hp, List.lookup]
  have e4 : st.args tab [(0, 0), (1, 1), (2, 2), (3, 3)] [3] [.tmp t] = some [.int .i64 c] := by
    simp [St.args, ho, St.arg]
  have e5 : [0, 2, 3].mapM (st.capPtr [(0, 0), (1, 1), (2, 2), (3, 3)]) = some [.ptr 0 [] 51, .ptr 2 [] 29, .ptr 3 [] 97] := by
    simp [St.capPtr, List.lookup, r0, r2, r3]
  have e6 : (nodup (([(0, 0), (1, 1), (2, 2), (3, 3)] : List (Nat × Nat)).map (·.1)) && nodup (([(0, 0), (1, 1), (2, 2), (3, 3)] : List (Nat × Nat)).map (·.2)) && [0, 2, 3].all st.isBox && st.handOk [(0, 0), (1, 1), (2, 2), (3, 3)] && [Operand.tmp t].all (fun o => (st.get o).viewKeys.all fun k => !((([(0, 0), (1, 1), (2, 2), (3, 3)] : List (Nat × Nat)).map (·.1)).contains k))) = true := by
    simp [nodup, St.isBox, r0, r1, r2, r3, St.handOk, ho, SV.viewKeys, At.viewKeys]
  refine ⟨((((st.killL [1]).putRow 0 (some (.box true 51 [0] (.a (.own 1))))).putRow 1 (some (.arr 2 4 l2))).putRow 2 (some (.box true 29 [] (.a (.iv p 29 b))))).putRow 3 (some (.box true 97 [] (.a (.fn 85 [0, 2, 3])))), ?_, fun d => ?_, ?_, ?_, ?_, ?_, ?_⟩
  · unfold St.callee
    rw [e1, e2]
    unfold St.callee1
    rw [if_pos e6, e4, Option.bind_some, e5, Option.bind_some, e3]
    simp only [List.cons_append, List.nil_append]
    rw [hrun, Option.bind_some]
    simp [St.takeBack, elders, backRows, backRow, h0, h1, h2, h3, r0, r2, r3, V1.map, At.tr, swap, List.lookup, hp]
  · simp only [get_put, get_killL]
  · simp only [len_put, len_killL]
  all_goals simp [St.row_put]
theorem hist_call {st : St} {call : CallF} {c : Int} {b : IV} {p : Nat} {l l2 : List IV} {m2 : Mem} {t : Tmp} (hp : p ≠ 0)
    (r1 : st.row 1 = some (.box false 51 [0] (.a (.own 2)))) (r2 : st.row 2 = some (.arr 2 4 l)) (r0 : st.row 0 = some (.box false 29 [] (.a (.iv p 29 b)))) (r3 : st.row 3 = some (.box false 97 [] (.a (.fn 85 [1, 0, 3]))))
    (ho : st.get (.tmp t) = .v (.a (.int .i64 c)))
    (hrun : call 85 [.int .i64 c, .ptr 0 [] 51, .ptr 2 [] 29, .ptr 3 [] 97] [some (.box true 51 [0] (.a (.own 1))), some (.arr 2 4 l), some (.box true 29 [] (.a (.iv p 29 b))), some (.box true 97 [] (.a (.fn 85 [0, 2, 3])))] = some ([], [], m2))
    (h0 : rowIn m2 0 = some (.box true 51 [0] (.a (.own 1)))) (h1 : rowIn m2 1 = some (.arr 2 4 l2)) (h2 : rowIn m2 2 = some (.box true 29 [] (.a (.iv p 29 b)))) (h3 : rowIn m2 3 = some (.box true 97 [] (.a (.fn 85 [0, 2, 3])))) :
    ∃ st', st.callee tab call 85 [1, 0, 3] [3] [.tmp t] = some ([], [], st') ∧ (∀ d, st'.get (.tmp d) = (st.get (.tmp d)).map (At.killL [2])) ∧ st'.env.length = st.env.length ∧
      st'.row 1 = some (.box false 51 [0] (.a (.own 2))) ∧ st'.row 2 = some (.arr 2 4 l2) ∧ st'.row 0 = some (.box false 29 [] (.a (.iv p 29 b))) ∧ st'.row 3 = some (.box false 97 [] (.a (.fn 85 [1, 0, 3]))) := by
  have e1 : st.reach 60 ([1, 0, 3] ++ [Operand.tmp t].flatMap fun o => (st.get o).caps) [] = [1, 0, 3] := by
    simp [St.reach, ho, SV.caps, St.capsAt, r0, r1, r3, V1.caps]
  have e2 : st.pairs (tab.nk 85) [1, 0, 3] = [(1, 0), (2, 1), (0, 2), (3, 3)] := by
    simp [St.pairs, nk85, St.ownAt, r0, r1, r3]
  have e3 : st.handOver (tab.nk 85) [(1, 0), (2, 1), (0, 2), (3, 3)] = [some (.box true 51 [0] (.a (.own 1))), some (.arr 2 4 l), some (.box true 29 [] (.a (.iv p 29 b))), some (.box true 97 [] (.a (.fn 85 [0, 2, 3])))] := by
    simp [St.handOver, nk85, setD, r0, r1, r2, r3, Row.tr, At.tr, V1.map, hp, List.lookup]
  have e4 : st.args tab [(1, 0), (2, 1), (0, 2), (3, 3)] [3] [.tmp t] = some [.int .i64 c] := by
    simp [St.args, ho, St.arg]
  have e5 : [1, 0, 3].mapM (st.capPtr [(1, 0), (2, 1), (0, 2), (3, 3)]) = some [.ptr 0 [] 51, .ptr 2 [] 29, .ptr 3 [] 97] := by
    simp [St.capPtr, List.lookup, r0, r1, r3]
  have e6 : (nodup (([(1, 0), (2, 1), (0, 2), (3, 3)] : List (Nat × Nat)).map (·.1)) && nodup (([(1, 0), (2, 1), (0, 2), (3, 3)] : List (Nat × Nat)).map (·.2)) && [1, 0, 3].all st.isBox && st.handOk [(1, 0), (2, 1), (0, 2), (3, 3)] && [Operand.tmp t].all (fun o => (st.get o).viewKeys.all fun k => !((([(1, 0), (2, 1), (0, 2), (3, 3)] : List (Nat × Nat)).map (·.1)).contains k))) = true := by
    simp [nodup, St.isBox, r0, r1, r2, r3, St.handOk, ho, SV.viewKeys, At.viewKeys]
  refine ⟨((((st.killL [2]).putRow 1 (some (.box false 51 [0] (.a (.own 2))))).putRow 2 (some (.arr 2 4 l2))).putRow 0 (some (.box false 29 [] (.a (.iv p 29 b))))).putRow 3 (some (.box false 97 [] (.a (.fn 85 [1, 0, 3])))), ?_, fun d => ?_, ?_, ?_, ?_, ?_, ?_⟩
  · unfold St.callee
    rw [e1, e2]
    unfold St.callee1
    rw [if_pos e6, e4, Option.bind_some, e5, Option.bind_some, e3]
    simp only [List.cons_append, List.nil_append]
    rw [hrun, Option.bind_some]
    simp [St.takeBack, elders, backRows, backRow, h0, h1, h2, h3, r0, r1, r3, V1.map, At.tr, swap, List.lookup, hp]
  · simp only [get_put, get_killL]
  · simp only [len_put, len_killL]
  all_goals simp [St.row_put]
theorem Ys_call {T : Tab} {call : CallF} {st : St} {g : FuncId} {caps : List Nat} {ts : List TypeId} {os : List Operand} {rs : List RV} {ts' : List TypeId} {P : St → Prop} {Q : List RV × List TypeId × St → Prop} {t : Tg Q} (h : ∃ st', st.callee T call g caps ts os = some (rs, ts', st') ∧ P st') (hq : ∀ st', P st' → Q (rs, ts', st')) : Ys (st.callee T call g caps ts os) Q t := by
  obtain ⟨st', h1, h2⟩ := h
  exact Ys_in ⟨_, h1, hq st' h2⟩
end Go.Proofs.Ytficdonjodadlaa
end
section
set_option linter.unusedSimpArgs false
set_option linter.unusedVariables false
set_option maxRecDepth 100000
set_option maxHeartbeats 4000000
namespace Go.Proofs.Ytficdonjodadlaa
open Go.Ev Go.Proofs
theorem visit_run (ext : CallF) (b : IV) (p : Nat) (hb : Ok b) (hp : p ≠ 0) (hfd : FD b = true) (hz : (asL (fld b 1)).length ≤ 1000000) : ∀ (d k : Nat) (e : Int) (S : Nat → Bool), e < (d : Int) → d ≤ (asL (fld b 1)).length → (0 ≤ e → Clo b (e.toNat + 1) S) → maxLen + 3 + d ≤ k → ∃ m', tab.run ext k 85 [.int .i64 e, .ptr 0 [] 51, .ptr 2 [] 29, .ptr 3 [] 97] [some (.box true 51 [0] (.a (.own 1))), some (.arr 2 4 (bl (asL (fld b 1)).length S)), some (.box true 29 [] (.a (.iv p 29 b))), some (.box true 97 [] (.a (.fn 85 [0, 2, 3])))] = some ([], [], m') ∧ (fun R => R 0 = some (.box true 51 [0] (.a (.own 1))) ∧ R 1 = some (.arr 2 4 (bl (asL (fld b 1)).length (fun g => S g || hist b e g))) ∧ R 2 = some (.box true 29 [] (.a (.iv p 29 b))) ∧ R 3 = some (.box true 97 [] (.a (.fn 85 [0, 2, 3])))) (rowIn m') := by
  intro d
  induction d with
  | zero =>
    intro k e S he hd hc hk
    obtain ⟨k, rfl⟩ : ∃ k', k = k' + 1 := ⟨k - 1, by omega⟩
    refine fn_mem (fx := fx85) (m := 34) (R := (fun R => R 0 = some (.box true 51 [0] (.a (.own 1))) ∧ R 1 = some (.arr 2 4 (bl (asL (fld b 1)).length (fun g => S g || hist b e g))) ∧ R 2 = some (.box true 29 [] (.a (.iv p 29 b))) ∧ R 3 = some (.box true 97 [] (.a (.fn 85 [0, 2, 3]))))) 38 rfl rfl rfl rfl (fun st hn hg hr => ?_)
    have hS : (fun g => S g || hist b e g) = S := by rw [hist_neg (by omega)]; funext g; simp
    rw [hS]
    have g0 : st.get (.tmp 0) = .v (.a (.int .i64 e)) := hg 0 (of_decide_eq_true rfl)
    have g1 : st.get (.tmp 1) = .v (.a (.ptr 0 [] 51)) := hg 1 (of_decide_eq_true rfl)
    have g2 : st.get (.tmp 2) = .v (.a (.ptr 2 [] 29)) := hg 2 (of_decide_eq_true rfl)
    have g3 : st.get (.tmp 3) = .v (.a (.ptr 3 [] 97)) := hg 3 (of_decide_eq_true rfl)
    have r0 := hr 0
    have r1 := hr 1
    have r2 := hr 2
    have r3 := hr 3
    clear hg hr
    simp only [go_sem] at r0 r1 r2 r3
    rw [co85]
    simp only [Try.f85, Option.getD_some]
    have hneg : e < 0 := by omega
    simp (maxDischargeDepth := 9) only [go_sem, Nat.reduceMul, Nat.reduceAdd, Nat.reduceLeDiff, Int.reduceSub, Int.reduceNeg, Int.reduceLT, Int.reduceLE, Int.reduceEq, *]
  | succ d ih =>
    intro k e S he hd hc hk
    obtain ⟨k, rfl⟩ : ∃ k', k = k' + 1 := ⟨k - 1, by omega⟩
    by_cases h0 : 0 ≤ e
    case neg => exact ih (k + 1) e S (by omega) (by omega) hc (by omega)
    obtain ⟨m, rfl⟩ := Int.eq_ofNat_of_zero_le h0
    have hm : m < (asL (fld b 1)).length := by omega
    have hc := hc h0
    rw [Int.toNat_natCast] at hc
    refine fn_mem (fx := fx85) (m := 34) (R := (fun R => R 0 = some (.box true 51 [0] (.a (.own 1))) ∧ R 1 = some (.arr 2 4 (bl (asL (fld b 1)).length (fun g => S g || hist b (m : Int) g))) ∧ R 2 = some (.box true 29 [] (.a (.iv p 29 b))) ∧ R 3 = some (.box true 97 [] (.a (.fn 85 [0, 2, 3]))))) 38 rfl rfl rfl rfl (fun st hn hg hr => ?_)
    have g0 : st.get (.tmp 0) = .v (.a (.int .i64 (m : Int))) := hg 0 (of_decide_eq_true rfl)
    have g1 : st.get (.tmp 1) = .v (.a (.ptr 0 [] 51)) := hg 1 (of_decide_eq_true rfl)
    have g2 : st.get (.tmp 2) = .v (.a (.ptr 2 [] 29)) := hg 2 (of_decide_eq_true rfl)
    have g3 : st.get (.tmp 3) = .v (.a (.ptr 3 [] 97)) := hg 3 (of_decide_eq_true rfl)
    have r0 := hr 0
    have r1 := hr 1
    have r2 := hr 2
    have r3 := hr 3
    clear hg hr
    simp only [go_sem] at r0 r1 r2 r3
    rw [co85]
    simp only [Try.f85, Option.getD_some]
    have hneg : ¬ ((m : Int) < 0) := by omega
    by_cases hs : S m = true
    · rw [clo_has hc hs]
      simp (maxDischargeDepth := 9) only [go_sem, Nat.reduceMul, Nat.reduceAdd, Nat.reduceLeDiff, Int.reduceSub, Int.reduceNeg, Int.reduceLT, Int.reduceLE, Int.reduceEq, *]
    have hs : S m = false := by simpa using hs
    simp (maxDischargeDepth := 9) only [go_sem, Nat.reduceMul, Nat.reduceAdd, Nat.reduceLeDiff, Int.reduceSub, Int.reduceNeg, Int.reduceLT, Int.reduceLE, Int.reduceEq, *]
    refine gen_st (fun s0 hg hr hn0 => ?_)
    have e2 := hg 2
    have e3 := hg 3
    have e23 := hg 23
    have e24 := hg 24
    have e25 := hg 25
    have q0 := hr 0
    have q1 := hr 1
    have q2 := hr 2
    have q3 := hr 3
    clear hg hr
    simp only [go_sem, *] at hn0 e2 e3 e23 e24 e25 q0 q1 q2 q3
    have hl2 := ok_len (ok_fld (j := 1) (ok_getD (i := m) (ok_fld (j := 1) hb)))
    refine nr (runs_for (asL (fld ((asL (fld b 1)).getD m .N) 1)) (fun (S2 : Nat → Bool) x => Stp.next (ρ := Unit) (fun g => S2 g || hist b (frm b (asI x)) g)) (fun g => S g || decide (g = m)) 38 (fun i S2 => [(2, s0.get (.tmp 2)), (3, s0.get (.tmp 3)), (23, s0.get (.tmp 23)), (24, s0.get (.tmp 24)), (25, .v (.a (.int .i64 (i : Nat))))]) (fun i S2 => [(0, some (.box true 51 [0] (.a (.own 1)))), (1, some (.arr 2 4 (bl (asL (fld b 1)).length S2))), (2, some (.box true 29 [] (.a (.iv p 29 b)))), (3, some (.box true 97 [] (.a (.fn 85 [0, 2, 3]))))]) (fun i S2 => Clo b m S2) (by omega) ?_ (clo_put hc) ?_ ?_ ?_ ?_)
    · simp (maxDischargeDepth := 9) only [go_sem, Nat.reduceMul, Nat.reduceAdd, Nat.reduceLeDiff, Int.reduceSub, Int.reduceNeg, Int.reduceLT, Int.reduceLE, Int.reduceEq, *]
    · intro i a; simp (maxDischargeDepth := 9) only [go_sem, Nat.reduceMul, Nat.reduceAdd, Nat.reduceLeDiff, Int.reduceSub, Int.reduceNeg, Int.reduceLT, Int.reduceLE, Int.reduceEq, *]
    · intro i a; simp (maxDischargeDepth := 9) only [go_sem, Nat.reduceMul, Nat.reduceAdd, Nat.reduceLeDiff, Int.reduceSub, Int.reduceNeg, Int.reduceLT, Int.reduceLE, Int.reduceEq, *]
    · intro i x S2 s hx hi hI hS
      clear hn0 e25 q0 q1 q2 q3
      simp only [go_sem] at hS
      obtain ⟨f2, f3, f23, f24, f25, m0, m1, m2, m3, hn⟩ := hS
      have hw := wrap_succ hi (hl2)
      obtain ⟨hx0, hx1, hx2⟩ := FD_pre hfd (i := m) hm (x := x) (List.mem_of_getElem? hx)
      simp only [frm, nCo] at hx0 hx1 hx2
      obtain ⟨m2, hrun, hR0, hR1, hR2, hR3⟩ := ih k (asI (fld (el (asL (fld b 0)) (asI x)) 1)) S2 (by omega) (by omega) (fun h0 => clo_le hI (by omega)) (by omega)
      refine rn ?_
      simp (maxDischargeDepth := 9) only [go_sem, Nat.reduceMul, Nat.reduceAdd, Nat.reduceLeDiff, Int.reduceSub, Int.reduceNeg, Int.reduceLT, Int.reduceLE, Int.reduceEq, *]
      with_reducible refine draw_look (by kernel_rfl) (by kernel_rfl) ?_
      simp (maxDischargeDepth := 9) only [go_sem, Nat.reduceMul, Nat.reduceAdd, Nat.reduceLeDiff, Int.reduceSub, Int.reduceNeg, Int.reduceLT, Int.reduceLE, Int.reduceEq, *]
      iterate 7
        with_reducible refine dop_val ?_
        simp (maxDischargeDepth := 9) only [go_sem, Nat.reduceMul, Nat.reduceAdd, Nat.reduceLeDiff, Int.reduceSub, Int.reduceNeg, Int.reduceLT, Int.reduceLE, Int.reduceEq, *]
      with_reducible refine dop_loud (by kernel_rfl) ?_
      simp (maxDischargeDepth := 9) only [go_sem, Nat.reduceMul, Nat.reduceAdd, Nat.reduceLeDiff, Int.reduceSub, Int.reduceNeg, Int.reduceLT, Int.reduceLE, Int.reduceEq, *]
      refine Ys_call (visit_call hp ?_ ?_ ?_ ?_ ?_ hrun hR0 hR1 hR2 hR3) ?_
      all_goals (try (simp (maxDischargeDepth := 9) only [go_sem, Nat.reduceMul, Nat.reduceAdd, Nat.reduceLeDiff, Int.reduceSub, Int.reduceNeg, Int.reduceLT, Int.reduceLE, Int.reduceEq, *]; done))
      rintro st2 ⟨hg2, hn2, hq0, hq1, hq2, hq3⟩
      simp (maxDischargeDepth := 9) only [go_sem, Nat.reduceMul, Nat.reduceAdd, Nat.reduceLeDiff, Int.reduceSub, Int.reduceNeg, Int.reduceLT, Int.reduceLE, Int.reduceEq, *]
      exact ⟨rfl, clo_or hI⟩
    · intro S2 s hI hf hS
      clear hn0 e25 q0 q1 q2 q3
      simp only [go_sem] at hS
      obtain ⟨f2, f3, f23, f24, f25, m0, m1, m2, m3, hn⟩ := hS
      try simp only [go_sem] at hf
      have hS2 : S2 = fun g => S g || hist b (m : Int) g := by
        rw [← hf, foldl_or]; funext g; rw [hist_step, Bool.or_assoc]; rfl
      subst hS2
      refine rn ?_
      simp (maxDischargeDepth := 9) only [go_sem, Nat.reduceMul, Nat.reduceAdd, Nat.reduceLeDiff, Int.reduceSub, Int.reduceNeg, Int.reduceLT, Int.reduceLE, Int.reduceEq, *]
      all_goals exact AU_visit
end Go.Proofs.Ytficdonjodadlaa
end
section
set_option linter.unusedSimpArgs false
set_option linter.unusedVariables false
set_option maxRecDepth 100000
set_option maxHeartbeats 4000000
namespace Go.Proofs.Ytficdonjodadlaa
open Go.Ev Go.Proofs
theorem history_ans (ext : CallF) (k : Nat) (b : IV) (e : Int) (p : Nat) (hk : maxLen + (D0 + 10) ≤ k) (hb : Ok b) (hp : p ≠ 0) (hfd : FD b = true) (he : e < ((asL (fld b 1)).length : Int)) (hz : (asL (fld b 1)).length ≤ 1000000) : ans (tab.run ext k) 60 [.iv p 29 b, .int .i64 e] 5 = some ([.one (.own 2 4 (bl (asL (fld b 1)).length (hist b e)))], [51]) := by
  obtain ⟨k, rfl⟩ : ∃ k', k = k' + 1 := ⟨k - 1, by omega⟩
  have hk1 : maxLen < k := by omega
  have hk0 : 0 < k := by omega
  refine fn_run (fx := fx60) (m := 14) 16 rfl rfl rfl rfl (fun st hn hg hr => ?_)
  have g0 : st.get (.tmp 0) = .v (.a (.iv p 29 b)) := hg 0 (of_decide_eq_true rfl)
  have g1 : st.get (.tmp 1) = .v (.a (.int .i64 e)) := hg 1 (of_decide_eq_true rfl)
  have r0 := hr 0
  have r1 := hr 1
  have r2 := hr 2
  have r3 := hr 3
  have r4 := hr 4
  clear hg hr
  rw [co60]
  simp only [Try.f60, Option.getD_some]
  have hl1 := ok_len (ok_fld (j := 1) hb)
  have hD := D0_ge
  obtain ⟨m2, hrun, hR0, hR1, hR2, hR3⟩ := visit_run ext b p hb hp hfd hz (asL (fld b 1)).length k e (fun _ => false) he (Nat.le_refl _) (fun _ => clo_no) (by omega)
  simp (maxDischargeDepth := 9) only [go_sem, Nat.reduceMul, Nat.reduceAdd, Nat.reduceLeDiff, Int.reduceSub, Int.reduceNeg, Int.reduceLT, Int.reduceLE, Int.reduceEq, *]
  refine Ys_call (hist_call hp ?_ ?_ ?_ ?_ ?_ hrun hR0 hR1 hR2 hR3) ?_
  all_goals (try (simp (maxDischargeDepth := 9) only [go_sem, Nat.reduceMul, Nat.reduceAdd, Nat.reduceLeDiff, Int.reduceSub, Int.reduceNeg, Int.reduceLT, Int.reduceLE, Int.reduceEq, *]; done))
  rintro st2 ⟨hg2, hn2, hq1, hq2, hq0, hq3⟩
  simp (maxDischargeDepth := 9) only [go_sem, Nat.reduceMul, Nat.reduceAdd, Nat.reduceLeDiff, Int.reduceSub, Int.reduceNeg, Int.reduceLT, Int.reduceLE, Int.reduceEq, *]
end Go.Proofs.Ytficdonjodadlaa
end
section
set_option linter.unusedSimpArgs false
set_option linter.unusedVariables false
set_option maxRecDepth 100000
set_option maxHeartbeats 4000000
namespace Go.Proofs.Ytficdonjodadlaa
open Go.Ev Go.Proofs
theorem conflict_ans (ext : CallF) (k : Nat) (hE : ExC ext) (b : IV) (e f : Int) (p : Nat) (hk : maxLen + (D0 + 20) ≤ k) (hb : Ok b) (hp : p ≠ 0) (hz : (asL (fld b 1)).length ≤ 1000000) : ans (tab.run ext k) 28 [.iv p 29 b, .int .i64 e, .int .i64 f] 1 = some ([.one (.at (.bool (IN b e && IN b f && CLf b (hist b e) (hist b f))))], [4]) := by
  obtain ⟨k, rfl⟩ : ∃ k', k = k' + 1 := ⟨k - 1, by omega⟩
  have hk1 : maxLen < k := by omega
  have hk0 : 0 < k := by omega
  have hk_0 : maxLen + (4) ≤ k := by omega
  have hk_1 : maxLen + (D0 + 10) ≤ k := by omega
  refine fn_run (fx := fx28) (m := 22) 25 rfl rfl rfl rfl (fun st hn hg hr => ?_)
  have g0 : st.get (.tmp 0) = .v (.a (.iv p 29 b)) := hg 0 (of_decide_eq_true rfl)
  have g1 : st.get (.tmp 1) = .v (.a (.int .i64 e)) := hg 1 (of_decide_eq_true rfl)
  have g2 : st.get (.tmp 2) = .v (.a (.int .i64 f)) := hg 2 (of_decide_eq_true rfl)
  have r0 := hr 0
  clear hg hr
  rw [co28]
  simp only [Try.f28, Option.getD_some]
  unfold IN
  by_cases hc0 : FD b = true
  case neg =>
    have hc0n : FD b = false := by simpa using hc0
    simp (maxDischargeDepth := 9) only [go_sem, Nat.reduceMul, Nat.reduceAdd, Nat.reduceLeDiff, Int.reduceSub, Int.reduceNeg, Int.reduceLT, Int.reduceLE, Int.reduceEq, *, inside_ans, history_ans, IN, ans_ext]
    repeat' (first | (with_reducible refine condLt (fun h h' => ?_) (fun h h' => ?_)) | (with_reducible refine condLe (fun h h' => ?_) (fun h h' => ?_)) | (with_reducible refine dop_val ?_) | (with_reducible refine YsLt (fun h h' => ?_) (fun h h' => ?_)) | (with_reducible refine YsLe (fun h h' => ?_) (fun h h' => ?_)) | (with_reducible refine condP (fun h => ?_) (fun h => ?_)) | (with_reducible refine condN (fun h => ?_) (fun h => ?_)) | (with_reducible refine condB (fun h => ?_) (fun h => ?_)) | (with_reducible refine condR (fun h => ?_) (fun h => ?_)) | (with_reducible refine YsB (fun h => ?_) (fun h => ?_)) | (with_reducible refine YsC (fun h => ?_) (fun h => ?_)) | (with_reducible refine Ys_ite (fun h => ?_) (fun h => ?_)) | (intro h) | (with_reducible refine draw_look (by kernel_rfl) (by kernel_rfl) ?_) | (simp (maxDischargeDepth := 9) only [go_sem, Nat.reduceMul, Nat.reduceAdd, Nat.reduceLeDiff, Int.reduceSub, Int.reduceNeg, Int.reduceLT, Int.reduceLE, Int.reduceEq, *, inside_ans, history_ans, IN, ans_ext]) | (exfalso; omega))
  by_cases hc1 : (0 : Int) ≤ e
  case neg =>
    skip
    simp (maxDischargeDepth := 9) only [go_sem, Nat.reduceMul, Nat.reduceAdd, Nat.reduceLeDiff, Int.reduceSub, Int.reduceNeg, Int.reduceLT, Int.reduceLE, Int.reduceEq, *, inside_ans, history_ans, IN, ans_ext]
    repeat' (first | (with_reducible refine condLt (fun h h' => ?_) (fun h h' => ?_)) | (with_reducible refine condLe (fun h h' => ?_) (fun h h' => ?_)) | (with_reducible refine dop_val ?_) | (with_reducible refine YsLt (fun h h' => ?_) (fun h h' => ?_)) | (with_reducible refine YsLe (fun h h' => ?_) (fun h h' => ?_)) | (with_reducible refine condP (fun h => ?_) (fun h => ?_)) | (with_reducible refine condN (fun h => ?_) (fun h => ?_)) | (with_reducible refine condB (fun h => ?_) (fun h => ?_)) | (with_reducible refine condR (fun h => ?_) (fun h => ?_)) | (with_reducible refine YsB (fun h => ?_) (fun h => ?_)) | (with_reducible refine YsC (fun h => ?_) (fun h => ?_)) | (with_reducible refine Ys_ite (fun h => ?_) (fun h => ?_)) | (intro h) | (with_reducible refine draw_look (by kernel_rfl) (by kernel_rfl) ?_) | (simp (maxDischargeDepth := 9) only [go_sem, Nat.reduceMul, Nat.reduceAdd, Nat.reduceLeDiff, Int.reduceSub, Int.reduceNeg, Int.reduceLT, Int.reduceLE, Int.reduceEq, *, inside_ans, history_ans, IN, ans_ext]) | (exfalso; omega))
  by_cases hc2 : e < ((asL (fld b 1)).length : Int)
  case neg =>
    skip
    simp (maxDischargeDepth := 9) only [go_sem, Nat.reduceMul, Nat.reduceAdd, Nat.reduceLeDiff, Int.reduceSub, Int.reduceNeg, Int.reduceLT, Int.reduceLE, Int.reduceEq, *, inside_ans, history_ans, IN, ans_ext]
    repeat' (first | (with_reducible refine condLt (fun h h' => ?_) (fun h h' => ?_)) | (with_reducible refine condLe (fun h h' => ?_) (fun h h' => ?_)) | (with_reducible refine dop_val ?_) | (with_reducible refine YsLt (fun h h' => ?_) (fun h h' => ?_)) | (with_reducible refine YsLe (fun h h' => ?_) (fun h h' => ?_)) | (with_reducible refine condP (fun h => ?_) (fun h => ?_)) | (with_reducible refine condN (fun h => ?_) (fun h => ?_)) | (with_reducible refine condB (fun h => ?_) (fun h => ?_)) | (with_reducible refine condR (fun h => ?_) (fun h => ?_)) | (with_reducible refine YsB (fun h => ?_) (fun h => ?_)) | (with_reducible refine YsC (fun h => ?_) (fun h => ?_)) | (with_reducible refine Ys_ite (fun h => ?_) (fun h => ?_)) | (intro h) | (with_reducible refine draw_look (by kernel_rfl) (by kernel_rfl) ?_) | (simp (maxDischargeDepth := 9) only [go_sem, Nat.reduceMul, Nat.reduceAdd, Nat.reduceLeDiff, Int.reduceSub, Int.reduceNeg, Int.reduceLT, Int.reduceLE, Int.reduceEq, *, inside_ans, history_ans, IN, ans_ext]) | (exfalso; omega))
  by_cases hc3 : (0 : Int) ≤ f
  case neg =>
    skip
    simp (maxDischargeDepth := 9) only [go_sem, Nat.reduceMul, Nat.reduceAdd, Nat.reduceLeDiff, Int.reduceSub, Int.reduceNeg, Int.reduceLT, Int.reduceLE, Int.reduceEq, *, inside_ans, history_ans, IN, ans_ext]
    repeat' (first | (with_reducible refine condLt (fun h h' => ?_) (fun h h' => ?_)) | (with_reducible refine condLe (fun h h' => ?_) (fun h h' => ?_)) | (with_reducible refine dop_val ?_) | (with_reducible refine YsLt (fun h h' => ?_) (fun h h' => ?_)) | (with_reducible refine YsLe (fun h h' => ?_) (fun h h' => ?_)) | (with_reducible refine condP (fun h => ?_) (fun h => ?_)) | (with_reducible refine condN (fun h => ?_) (fun h => ?_)) | (with_reducible refine condB (fun h => ?_) (fun h => ?_)) | (with_reducible refine condR (fun h => ?_) (fun h => ?_)) | (with_reducible refine YsB (fun h => ?_) (fun h => ?_)) | (with_reducible refine YsC (fun h => ?_) (fun h => ?_)) | (with_reducible refine Ys_ite (fun h => ?_) (fun h => ?_)) | (intro h) | (with_reducible refine draw_look (by kernel_rfl) (by kernel_rfl) ?_) | (simp (maxDischargeDepth := 9) only [go_sem, Nat.reduceMul, Nat.reduceAdd, Nat.reduceLeDiff, Int.reduceSub, Int.reduceNeg, Int.reduceLT, Int.reduceLE, Int.reduceEq, *, inside_ans, history_ans, IN, ans_ext]) | (exfalso; omega))
  by_cases hc4 : f < ((asL (fld b 1)).length : Int)
  case neg =>
    skip
    simp (maxDischargeDepth := 9) only [go_sem, Nat.reduceMul, Nat.reduceAdd, Nat.reduceLeDiff, Int.reduceSub, Int.reduceNeg, Int.reduceLT, Int.reduceLE, Int.reduceEq, *, inside_ans, history_ans, IN, ans_ext]
    repeat' (first | (with_reducible refine condLt (fun h h' => ?_) (fun h h' => ?_)) | (with_reducible refine condLe (fun h h' => ?_) (fun h h' => ?_)) | (with_reducible refine dop_val ?_) | (with_reducible refine YsLt (fun h h' => ?_) (fun h h' => ?_)) | (with_reducible refine YsLe (fun h h' => ?_) (fun h h' => ?_)) | (with_reducible refine condP (fun h => ?_) (fun h => ?_)) | (with_reducible refine condN (fun h => ?_) (fun h => ?_)) | (with_reducible refine condB (fun h => ?_) (fun h => ?_)) | (with_reducible refine condR (fun h => ?_) (fun h => ?_)) | (with_reducible refine YsB (fun h => ?_) (fun h => ?_)) | (with_reducible refine YsC (fun h => ?_) (fun h => ?_)) | (with_reducible refine Ys_ite (fun h => ?_) (fun h => ?_)) | (intro h) | (with_reducible refine draw_look (by kernel_rfl) (by kernel_rfl) ?_) | (simp (maxDischargeDepth := 9) only [go_sem, Nat.reduceMul, Nat.reduceAdd, Nat.reduceLeDiff, Int.reduceSub, Int.reduceNeg, Int.reduceLT, Int.reduceLE, Int.reduceEq, *, inside_ans, history_ans, IN, ans_ext]) | (exfalso; omega))
  have hcl := hE b p 2 2 (hist b e) (hist b f) hb hc0 hz
  simp (maxDischargeDepth := 9) only [go_sem, Nat.reduceMul, Nat.reduceAdd, Nat.reduceLeDiff, Int.reduceSub, Int.reduceNeg, Int.reduceLT, Int.reduceLE, Int.reduceEq, *, inside_ans, history_ans, IN, ans_ext]
  repeat' (first | (with_reducible refine condLt (fun h h' => ?_) (fun h h' => ?_)) | (with_reducible refine condLe (fun h h' => ?_) (fun h h' => ?_)) | (with_reducible refine dop_val ?_) | (with_reducible refine YsLt (fun h h' => ?_) (fun h h' => ?_)) | (with_reducible refine YsLe (fun h h' => ?_) (fun h h' => ?_)) | (with_reducible refine condP (fun h => ?_) (fun h => ?_)) | (with_reducible refine condN (fun h => ?_) (fun h => ?_)) | (with_reducible refine condB (fun h => ?_) (fun h => ?_)) | (with_reducible refine condR (fun h => ?_) (fun h => ?_)) | (with_reducible refine YsB (fun h => ?_) (fun h => ?_)) | (with_reducible refine YsC (fun h => ?_) (fun h => ?_)) | (with_reducible refine Ys_ite (fun h => ?_) (fun h => ?_)) | (intro h) | (with_reducible refine draw_look (by kernel_rfl) (by kernel_rfl) ?_) | (simp (maxDischargeDepth := 9) only [go_sem, Nat.reduceMul, Nat.reduceAdd, Nat.reduceLeDiff, Int.reduceSub, Int.reduceNeg, Int.reduceLT, Int.reduceLE, Int.reduceEq, *, inside_ans, history_ans, IN, ans_ext]) | (exfalso; omega))
end Go.Proofs.Ytficdonjodadlaa
end
section
set_option linter.unusedSimpArgs false
set_option linter.unusedVariables false
set_option maxRecDepth 100000
namespace Go.Proofs.Ytficdonjodadlaa
open Go.Ev Go.Proofs
theorem add_call {st : St} {call : CallF} {c : Int} {s : ByteArray} {l l2 : List IV} {m2 : Mem} {t : Tmp}
    (r2 : st.row 2 = some (.box false 82 [0] (.a (.own 3)))) (r3 : st.row 3 = some (.arr 2 9 l))
    (ho : st.get (.tmp t) = .v (.a (.str s)))
    (hrun : call 65 [.str s, .ptr 1 [] 82] [none, some (.box true 82 [0] (.a (.own 2))), some (.arr 2 9 l)] = some ([.one (.at (.int .i64 c))], [34], m2))
    (h1 : rowIn m2 1 = some (.box true 82 [0] (.a (.own 2)))) (h2 : rowIn m2 2 = some (.arr 2 9 l2)) :
    ∃ st', st.callee tab call 65 [2] [9] [.tmp t] = some ([.one (.at (.int .i64 c))], [34], st') ∧ (∀ d, st'.get (.tmp d) = (st.get (.tmp d)).map (At.killL [3])) ∧ st'.env.length = st.env.length ∧
      st'.row 2 = some (.box false 82 [0] (.a (.own 3))) ∧ st'.row 3 = some (.arr 2 9 l2) ∧ (∀ j, j ≠ 2 → j ≠ 3 → st'.row j = (st.row j).map (Row.map (At.killL [3]))) := by
  have e1 : st.reach 60 ([2] ++ [Operand.tmp t].flatMap fun o => (st.get o).caps) [] = [2] := by
    simp [St.reach, ho, SV.caps, St.capsAt, r2, V1.caps]
  have e2 : st.pairs (tab.nk 65) [2] = [(2, 1), (3, 2)] := by
    simp [St.pairs, nk65, St.ownAt, r2]
  have e3 : st.handOver (tab.nk 65) [(2, 1), (3, 2)] = [none, some (.box true 82 [0] (.a (.own 2))), some (.arr 2 9 l)] := by
    simp [St.handOver, nk65, setD, r2, r3, Row.tr, At.tr, V1.map, List.lookup]
  have e4 : st.args tab [(2, 1), (3, 2)] [9] [.tmp t] = some [.str s] := by
    simp [St.args, ho, St.arg]
  have e5 : [2].mapM (st.capPtr [(2, 1), (3, 2)]) = some [.ptr 1 [] 82] := by
    simp [St.capPtr, List.lookup, r2]
  have e6 : (nodup (([(2, 1), (3, 2)] : List (Nat × Nat)).map (·.1)) && nodup (([(2, 1), (3, 2)] : List (Nat × Nat)).map (·.2)) && [2].all st.isBox && st.handOk [(2, 1), (3, 2)] && [Operand.tmp t].all (fun o => (st.get o).viewKeys.all fun k => !((([(2, 1), (3, 2)] : List (Nat × Nat)).map (·.1)).contains k))) = true := by
    simp [nodup, St.isBox, r2, r3, St.handOk, ho, SV.viewKeys, At.viewKeys]
  refine ⟨((st.killL [3]).putRow 2 (some (.box false 82 [0] (.a (.own 3))))).putRow 3 (some (.arr 2 9 l2)), ?_, fun d => ?_, ?_, ?_, ?_, fun j h2 h3 => ?_⟩
  · unfold St.callee
    rw [e1, e2]
    unfold St.callee1
    rw [if_pos e6, e4, Option.bind_some, e5, Option.bind_some, e3]
    simp only [List.cons_append, List.nil_append]
    rw [hrun, Option.bind_some]
    simp [St.takeBack, elders, backRows, backRow, h1, h2, r2, V1.map, At.tr, swap, List.lookup]
  · simp only [get_put, get_killL]
  · simp only [len_put, len_killL]
  · simp [St.row_put]
  · simp [St.row_put]
  · rw [St.row_put, if_neg h3, St.row_put, if_neg h2, row_killL, if_neg (by simpa using h3)]
end Go.Proofs.Ytficdonjodadlaa
end
section
set_option linter.unusedSimpArgs false
set_option linter.unusedVariables false
set_option maxRecDepth 100000
set_option maxHeartbeats 4000000
namespace Go.Proofs.Ytficdonjodadlaa
open Go.Ev Go.Proofs
theorem AU_carcs {p : Prop} (h : p := by
  repeat' (first | (with_reducible refine condLt (fun h h' => ?_) (fun h h' => ?_)) | (with_reducible refine condLe (fun h h' => ?_) (fun h h' => ?_)) | (with_reducible refine dop_val ?_) | (with_reducible refine YsLt (fun h h' => ?_) (fun h h' => ?_)) | (with_reducible refine YsLe (fun h h' => ?_) (fun h h' => ?_)) | (with_reducible refine condP (fun h => ?_) (fun h => ?_)) | (with_reducible refine condN (fun h => ?_) (fun h => ?_)) | (with_reducible refine condB (fun h => ?_) (fun h => ?_)) | (with_reducible refine condR (fun h => ?_) (fun h => ?_)) | (with_reducible refine YsB (fun h => ?_) (fun h => ?_)) | (with_reducible refine YsC (fun h => ?_) (fun h => ?_)) | (with_reducible refine Ys_ite (fun h => ?_) (fun h => ?_)) | (intro h) | (with_reducible refine draw_look (by kernel_rfl) (by kernel_rfl) ?_) | (simp (maxDischargeDepth := 9) only [go_sem, Nat.reduceMul, Nat.reduceAdd, Nat.reduceLeDiff, Int.reduceSub, Int.reduceNeg, Int.reduceLT, Int.reduceLE, Int.reduceEq, *, arS]) | (exfalso; omega))) : p := h
theorem carcs_ans (ext : CallF) (k : Nat) (l : IV) (m : Int) (p : Nat) (hk : maxLen + (2) ≤ k) (hv : Ok l) : ans (tab.run ext k) 88 [.iv p 60 l, .int .i64 m] 1 = some ([.one (.at (.int .i64 (AR l m)))], [34]) := by
  obtain ⟨k, rfl⟩ : ∃ k', k = k' + 1 := ⟨k - 1, by omega⟩
  have hk1 : maxLen < k := by omega
  have hk0 : 0 < k := by omega
  refine fn_run (fx := fx88) (m := 46) 48 rfl rfl rfl rfl (fun st hn hg hr => ?_)
  have g0 : st.get (.tmp 0) = .v (.a (.iv p 60 l)) := hg 0 (of_decide_eq_true rfl)
  have g1 : st.get (.tmp 1) = .v (.a (.int .i64 m)) := hg 1 (of_decide_eq_true rfl)
  have r0 := hr 0
  clear hg hr
  rw [co88]
  simp only [Try.f88, Option.getD_some]
  unfold AR
  simp (maxDischargeDepth := 9) only [go_sem, Nat.reduceMul, Nat.reduceAdd, Nat.reduceLeDiff, Int.reduceSub, Int.reduceNeg, Int.reduceLT, Int.reduceLE, Int.reduceEq, *, arS]
  refine gen_st (fun s0 hg hr hn0 => ?_)
  have e0 := hg 0
  have e1 := hg 1
  have e7 := hg 7
  have e8 := hg 8
  have e9 := hg 9
  clear hg hr
  simp only [go_sem, *] at hn0 e0 e1 e7 e8 e9
  have hl := ok_len hv
  refine nr (runs_forN (asL l).length (arS l m) () 48 (fun i a => [(0, s0.get (.tmp 0)), (1, s0.get (.tmp 1)), (7, s0.get (.tmp 7)), (8, s0.get (.tmp 8)), (9, .v (.a (.int .i64 i)))]) (fun i a => []) (fun i a => True) (by omega) ?_ (trivial) ?_ ?_ ?_ ?_)
  · simp (maxDischargeDepth := 9) only [go_sem, Nat.reduceMul, Nat.reduceAdd, Nat.reduceLeDiff, Int.reduceSub, Int.reduceNeg, Int.reduceLT, Int.reduceLE, Int.reduceEq, *, arS]
  · intro i a; simp (maxDischargeDepth := 9) only [go_sem, Nat.reduceMul, Nat.reduceAdd, Nat.reduceLeDiff, Int.reduceSub, Int.reduceNeg, Int.reduceLT, Int.reduceLE, Int.reduceEq, *, arS]
  · intro i a; simp (maxDischargeDepth := 9) only [go_sem, Nat.reduceMul, Nat.reduceAdd, Nat.reduceLeDiff, Int.reduceSub, Int.reduceNeg, Int.reduceLT, Int.reduceLE, Int.reduceEq, *, arS]
  · intro i a s hi hI hS
    clear hn0 e9
    simp only [go_sem] at hS
    obtain ⟨f0, f1, f7, f8, f9, hn⟩ := hS
    have hw := wrap_succ hi (ok_len hv)
    have hwm : 0 < i → IntKind.i64.wrap ((i : Int) - 1) = ((i - 1 : Nat) : Int) := fun h => by
      rw [Go.IntWalk.i64_in _ (by unfold maxLen at hl; omega)]; omega
    have hi1 : i - 1 < (asL l).length := by omega
    refine rn ?_
    simp (maxDischargeDepth := 9) only [go_sem, Nat.reduceMul, Nat.reduceAdd, Nat.reduceLeDiff, Int.reduceSub, Int.reduceNeg, Int.reduceLT, Int.reduceLE, Int.reduceEq, *, arS]
    all_goals exact AU_carcs
  · intro a s hI hf hS
    clear hn0 e9
    simp only [go_sem] at hS
    obtain ⟨f0, f1, f7, f8, f9, hn⟩ := hS
    try simp only [go_sem] at hf
    refine rn ?_
    simp (maxDischargeDepth := 9) only [go_sem, Nat.reduceMul, Nat.reduceAdd, Nat.reduceLeDiff, Int.reduceSub, Int.reduceNeg, Int.reduceLT, Int.reduceLE, Int.reduceEq, *, arS]
    all_goals exact AU_carcs
theorem AU_mvalid {p : Prop} (h : p := by
  repeat' (first | (with_reducible refine condLt (fun h h' => ?_) (fun h h' => ?_)) | (with_reducible refine condLe (fun h h' => ?_) (fun h h' => ?_)) | (with_reducible refine dop_val ?_) | (with_reducible refine YsLt (fun h h' => ?_) (fun h h' => ?_)) | (with_reducible refine YsLe (fun h h' => ?_) (fun h h' => ?_)) | (with_reducible refine condP (fun h => ?_) (fun h => ?_)) | (with_reducible refine condN (fun h => ?_) (fun h => ?_)) | (with_reducible refine condB (fun h => ?_) (fun h => ?_)) | (with_reducible refine condR (fun h => ?_) (fun h => ?_)) | (with_reducible refine YsB (fun h => ?_) (fun h => ?_)) | (with_reducible refine YsC (fun h => ?_) (fun h => ?_)) | (with_reducible refine Ys_ite (fun h => ?_) (fun h => ?_)) | (intro h) | (with_reducible refine draw_look (by kernel_rfl) (by kernel_rfl) ?_) | (simp (maxDischargeDepth := 9) only [go_sem, Nat.reduceMul, Nat.reduceAdd, Nat.reduceLeDiff, Int.reduceSub, Int.reduceNeg, Int.reduceLT, Int.reduceLE, Int.reduceEq, *]) | (exfalso; omega))) : p := h
theorem mvalid_ans (ext : CallF) (k : Nat) (l : IV) (n : Int) (p : Nat) (hk : maxLen + (2) ≤ k) (hv : Ok l) : ans (tab.run ext k) 87 [.iv p 46 l, .int .i64 n] 0 = some ([.one (.at (.bool (VA l n)))], [4]) := by
  obtain ⟨k, rfl⟩ : ∃ k', k = k' + 1 := ⟨k - 1, by omega⟩
  have hk1 : maxLen < k := by omega
  have hk0 : 0 < k := by omega
  refine fn_run (fx := fx87) (m := 22) 24 rfl rfl rfl rfl (fun st hn hg hr => ?_)
  have g0 : st.get (.tmp 0) = .v (.a (.iv p 46 l)) := hg 0 (of_decide_eq_true rfl)
  have g1 : st.get (.tmp 1) = .v (.a (.int .i64 n)) := hg 1 (of_decide_eq_true rfl)
  clear hg hr
  rw [co87]
  simp only [Try.f87, Option.getD_some]
  unfold VA
  simp (maxDischargeDepth := 9) only [go_sem, Nat.reduceMul, Nat.reduceAdd, Nat.reduceLeDiff, Int.reduceSub, Int.reduceNeg, Int.reduceLT, Int.reduceLE, Int.reduceEq, *]
  with_reducible refine condN (fun h => ?_) (fun heq => ?_)
  · simp (maxDischargeDepth := 9) only [go_sem, Nat.reduceMul, Nat.reduceAdd, Nat.reduceLeDiff, Int.reduceSub, Int.reduceNeg, Int.reduceLT, Int.reduceLE, Int.reduceEq, *]
  subst heq
  simp (maxDischargeDepth := 9) only [go_sem, Nat.reduceMul, Nat.reduceAdd, Nat.reduceLeDiff, Int.reduceSub, Int.reduceNeg, Int.reduceLT, Int.reduceLE, Int.reduceEq, *]
  refine gen_st (fun s0 hg hr hn0 => ?_)
  have e11 := hg 11
  have e12 := hg 12
  have e13 := hg 13
  clear hg hr
  simp only [go_sem, *] at hn0 e11 e12 e13
  have hl := ok_len hv
  refine nr (runs_for (asL l) (fun (_ : Unit) x => if asI x < 0 ∨ 1048576 < asI x then .ret false else .next ()) () 24 (fun i a => [(11, s0.get (.tmp 11)), (12, s0.get (.tmp 12)), (13, .v (.a (.int .i64 i)))]) (fun i a => []) (fun i a => True) (by omega) ?_ (trivial) ?_ ?_ ?_ ?_)
  · simp (maxDischargeDepth := 9) only [go_sem, Nat.reduceMul, Nat.reduceAdd, Nat.reduceLeDiff, Int.reduceSub, Int.reduceNeg, Int.reduceLT, Int.reduceLE, Int.reduceEq, *]
  · intro i a; simp (maxDischargeDepth := 9) only [go_sem, Nat.reduceMul, Nat.reduceAdd, Nat.reduceLeDiff, Int.reduceSub, Int.reduceNeg, Int.reduceLT, Int.reduceLE, Int.reduceEq, *]
  · intro i a; simp (maxDischargeDepth := 9) only [go_sem, Nat.reduceMul, Nat.reduceAdd, Nat.reduceLeDiff, Int.reduceSub, Int.reduceNeg, Int.reduceLT, Int.reduceLE, Int.reduceEq, *]
  · intro i x a s hx hi hI hS
    clear hn0 e13
    simp only [go_sem] at hS
    obtain ⟨f11, f12, f13, hn⟩ := hS
    have hw := wrap_succ hi (ok_len hv)
    refine rn ?_
    simp (maxDischargeDepth := 9) only [go_sem, Nat.reduceMul, Nat.reduceAdd, Nat.reduceLeDiff, Int.reduceSub, Int.reduceNeg, Int.reduceLT, Int.reduceLE, Int.reduceEq, *]
    all_goals exact AU_mvalid
  · intro a s hI hf hS
    clear hn0 e13
    simp only [go_sem] at hS
    obtain ⟨f11, f12, f13, hn⟩ := hS
    try simp only [go_sem] at hf
    refine rn ?_
    simp (maxDischargeDepth := 9) only [go_sem, Nat.reduceMul, Nat.reduceAdd, Nat.reduceLeDiff, Int.reduceSub, Int.reduceNeg, Int.reduceLT, Int.reduceLE, Int.reduceEq, *]
    all_goals exact AU_mvalid
theorem cplace_ans (ext : CallF) (k : Nat) (x : IV) (p : Nat) (hk : maxLen + (4) ≤ k) (hv : Ok x) : ans (tab.run ext k) 66 [.iv p 59 x] 1 = some ([.one (.at (.int .i64 (PL x)))], [34]) := by
  obtain ⟨k, rfl⟩ : ∃ k', k = k' + 1 := ⟨k - 1, by omega⟩
  have hk1 : maxLen < k := by omega
  have hk0 : 0 < k := by omega
  have hk_0 : maxLen + (2) ≤ k := by omega
  refine fn_run (fx := fx66) (m := 27) 28 rfl rfl rfl rfl (fun st hn hg hr => ?_)
  have g0 : st.get (.tmp 0) = .v (.a (.iv p 59 x)) := hg 0 (of_decide_eq_true rfl)
  have r0 := hr 0
  clear hg hr
  rw [co66]
  simp only [Try.f66, Option.getD_some]
  unfold PL
  simp (maxDischargeDepth := 9) only [go_sem, Nat.reduceMul, Nat.reduceAdd, Nat.reduceLeDiff, Int.reduceSub, Int.reduceNeg, Int.reduceLT, Int.reduceLE, Int.reduceEq, *, mvalid_ans, VA_one, ok_one]
  repeat' (first | (with_reducible refine condLt (fun h h' => ?_) (fun h h' => ?_)) | (with_reducible refine condLe (fun h h' => ?_) (fun h h' => ?_)) | (with_reducible refine dop_val ?_) | (with_reducible refine YsLt (fun h h' => ?_) (fun h h' => ?_)) | (with_reducible refine YsLe (fun h h' => ?_) (fun h h' => ?_)) | (with_reducible refine condP (fun h => ?_) (fun h => ?_)) | (with_reducible refine condN (fun h => ?_) (fun h => ?_)) | (with_reducible refine condB (fun h => ?_) (fun h => ?_)) | (with_reducible refine condR (fun h => ?_) (fun h => ?_)) | (with_reducible refine YsB (fun h => ?_) (fun h => ?_)) | (with_reducible refine YsC (fun h => ?_) (fun h => ?_)) | (with_reducible refine Ys_ite (fun h => ?_) (fun h => ?_)) | (intro h) | (with_reducible refine draw_look (by kernel_rfl) (by kernel_rfl) ?_) | (simp (maxDischargeDepth := 9) only [go_sem, Nat.reduceMul, Nat.reduceAdd, Nat.reduceLeDiff, Int.reduceSub, Int.reduceNeg, Int.reduceLT, Int.reduceLE, Int.reduceEq, *, mvalid_ans, VA_one, ok_one]) | (exfalso; omega))
theorem AU_ctrans {p : Prop} (h : p := by
  repeat' (first | (with_reducible refine condLt (fun h h' => ?_) (fun h h' => ?_)) | (with_reducible refine condLe (fun h h' => ?_) (fun h h' => ?_)) | (with_reducible refine dop_val ?_) | (with_reducible refine YsLt (fun h h' => ?_) (fun h h' => ?_)) | (with_reducible refine YsLe (fun h h' => ?_) (fun h h' => ?_)) | (with_reducible refine condP (fun h => ?_) (fun h => ?_)) | (with_reducible refine condN (fun h => ?_) (fun h => ?_)) | (with_reducible refine condB (fun h => ?_) (fun h => ?_)) | (with_reducible refine condR (fun h => ?_) (fun h => ?_)) | (with_reducible refine YsB (fun h => ?_) (fun h => ?_)) | (with_reducible refine YsC (fun h => ?_) (fun h => ?_)) | (with_reducible refine Ys_ite (fun h => ?_) (fun h => ?_)) | (intro h) | (with_reducible refine draw_look (by kernel_rfl) (by kernel_rfl) ?_) | (simp (maxDischargeDepth := 9) only [go_sem, Nat.reduceMul, Nat.reduceAdd, Nat.reduceLeDiff, Int.reduceSub, Int.reduceNeg, Int.reduceLT, Int.reduceLE, Int.reduceEq, *, carcs_ans]) | (exfalso; omega))) : p := h
theorem ctrans_ans (ext : CallF) (k : Nat) (x : IV) (m : Int) (p : Nat) (hk : maxLen + (4) ≤ k) (hv : Ok x) : ans (tab.run ext k) 67 [.iv p 62 x, .int .i64 m] 1 = some ([.one (.at (.int .i64 (TR x m)))], [34]) := by
  obtain ⟨k, rfl⟩ : ∃ k', k = k' + 1 := ⟨k - 1, by omega⟩
  have hk1 : maxLen < k := by omega
  have hk0 : 0 < k := by omega
  have hk_0 : maxLen + (2) ≤ k := by omega
  refine fn_run (fx := fx67) (m := 33) 35 rfl rfl rfl rfl (fun st hn hg hr => ?_)
  have g0 : st.get (.tmp 0) = .v (.a (.iv p 62 x)) := hg 0 (of_decide_eq_true rfl)
  have g1 : st.get (.tmp 1) = .v (.a (.int .i64 m)) := hg 1 (of_decide_eq_true rfl)
  have r0 := hr 0
  clear hg hr
  rw [co67]
  simp only [Try.f67, Option.getD_some]
  unfold TR
  rw [tr_fold]
  simp (maxDischargeDepth := 9) only [go_sem, Nat.reduceMul, Nat.reduceAdd, Nat.reduceLeDiff, Int.reduceSub, Int.reduceNeg, Int.reduceLT, Int.reduceLE, Int.reduceEq, *, carcs_ans]
  repeat' (first | (with_reducible refine condLt (fun h h' => ?_) (fun h h' => ?_)) | (with_reducible refine condLe (fun h h' => ?_) (fun h h' => ?_)) | (with_reducible refine dop_val ?_) | (with_reducible refine YsLt (fun h h' => ?_) (fun h h' => ?_)) | (with_reducible refine YsLe (fun h h' => ?_) (fun h h' => ?_)) | (with_reducible refine condP (fun h => ?_) (fun h => ?_)) | (with_reducible refine condN (fun h => ?_) (fun h => ?_)) | (with_reducible refine condB (fun h => ?_) (fun h => ?_)) | (with_reducible refine condR (fun h => ?_) (fun h => ?_)) | (with_reducible refine YsB (fun h => ?_) (fun h => ?_)) | (with_reducible refine YsC (fun h => ?_) (fun h => ?_)) | (with_reducible refine Ys_ite (fun h => ?_) (fun h => ?_)) | (intro h) | (with_reducible refine draw_look (by kernel_rfl) (by kernel_rfl) ?_) | (simp (maxDischargeDepth := 9) only [go_sem, Nat.reduceMul, Nat.reduceAdd, Nat.reduceLeDiff, Int.reduceSub, Int.reduceNeg, Int.reduceLT, Int.reduceLE, Int.reduceEq, *, carcs_ans]) | (exfalso; omega))
  refine gen_st (fun s0 hg hr hn0 => ?_)
  have e1 := hg 1
  have e22 := hg 22
  have e23 := hg 23
  have e24 := hg 24
  have q0 := hr 0
  clear hg hr
  simp only [go_sem, *] at hn0 e1 e22 e23 e24 q0
  refine nr (runs_for [fld x 1, fld x 2, fld x 3] (fun (_ : Unit) y => if AR y m = 0 then .next () else .ret (AR y m)) () 35 (fun i a => [(1, s0.get (.tmp 1)), (22, s0.get (.tmp 22)), (23, s0.get (.tmp 23)), (24, .v (.a (.int .i64 i)))]) (fun i a => [(0, s0.row 0)]) (fun i a => True) (by show 3 < k; unfold maxLen at hk1; omega) ?_ (trivial) ?_ ?_ ?_ ?_)
  · simp (maxDischargeDepth := 9) only [go_sem, Nat.reduceMul, Nat.reduceAdd, Nat.reduceLeDiff, Int.reduceSub, Int.reduceNeg, Int.reduceLT, Int.reduceLE, Int.reduceEq, *, carcs_ans]
  · intro i a; simp (maxDischargeDepth := 9) only [go_sem, Nat.reduceMul, Nat.reduceAdd, Nat.reduceLeDiff, Int.reduceSub, Int.reduceNeg, Int.reduceLT, Int.reduceLE, Int.reduceEq, *, carcs_ans]
  · intro i a; simp (maxDischargeDepth := 9) only [go_sem, Nat.reduceMul, Nat.reduceAdd, Nat.reduceLeDiff, Int.reduceSub, Int.reduceNeg, Int.reduceLT, Int.reduceLE, Int.reduceEq, *, carcs_ans]
  · intro i y a s hx hi hI hS
    clear hn0 e24
    simp only [go_sem] at hS
    obtain ⟨f1, f22, f23, f24, m0, hn⟩ := hS
    have hoy : Ok y := by
      have := List.mem_of_getElem? hx
      simp only [List.mem_cons, List.not_mem_nil, or_false] at this
      rcases this with rfl | rfl | rfl <;> exact ok_fld hv
    have hi3 : i < 3 := hi
    have hw : IntKind.i64.wrap ((i : Int) + 1) = ((i + 1 : Nat) : Int) := by
      rw [Go.IntWalk.i64_in _ (by omega)]; omega
    have hlt : (i : Int) < 3 := by omega
    refine rn ?_
    simp (maxDischargeDepth := 9) only [go_sem, Nat.reduceMul, Nat.reduceAdd, Nat.reduceLeDiff, Int.reduceSub, Int.reduceNeg, Int.reduceLT, Int.reduceLE, Int.reduceEq, *, carcs_ans]
    all_goals exact AU_ctrans
  · intro a s hI hf hS
    clear hn0 e24
    simp only [go_sem] at hS
    obtain ⟨f1, f22, f23, f24, m0, hn⟩ := hS
    try simp only [go_sem] at hf
    refine rn ?_
    simp (maxDischargeDepth := 9) only [go_sem, Nat.reduceMul, Nat.reduceAdd, Nat.reduceLeDiff, Int.reduceSub, Int.reduceNeg, Int.reduceLT, Int.reduceLE, Int.reduceEq, *, carcs_ans]
    all_goals exact AU_ctrans
end Go.Proofs.Ytficdonjodadlaa
end
section
set_option linter.unusedSimpArgs false
set_option linter.unusedVariables false
set_option maxRecDepth 100000
set_option maxHeartbeats 4000000
namespace Go.Proofs.Ytficdonjodadlaa
open Go.Ev Go.Proofs
theorem AU_addn {p : Prop} (h : p := by
  repeat' (first | (with_reducible refine condLt (fun h h' => ?_) (fun h h' => ?_)) | (with_reducible refine condLe (fun h h' => ?_) (fun h h' => ?_)) | (with_reducible refine dop_val ?_) | (with_reducible refine YsLt (fun h h' => ?_) (fun h h' => ?_)) | (with_reducible refine YsLe (fun h h' => ?_) (fun h h' => ?_)) | (with_reducible refine condP (fun h => ?_) (fun h => ?_)) | (with_reducible refine condN (fun h => ?_) (fun h => ?_)) | (with_reducible refine condB (fun h => ?_) (fun h => ?_)) | (with_reducible refine condR (fun h => ?_) (fun h => ?_)) | (with_reducible refine YsB (fun h => ?_) (fun h => ?_)) | (with_reducible refine YsC (fun h => ?_) (fun h => ?_)) | (with_reducible refine Ys_ite (fun h => ?_) (fun h => ?_)) | (intro h) | (with_reducible refine draw_look (by kernel_rfl) (by kernel_rfl) ?_) | (simp (maxDischargeDepth := 9) only [go_sem, Nat.reduceMul, Nat.reduceAdd, Nat.reduceLeDiff, Int.reduceSub, Int.reduceNeg, Int.reduceLT, Int.reduceLE, Int.reduceEq, *, ans_ext]) | (exfalso; omega))) : p := h
theorem add_run (ext : CallF) (hN : ExN ext) (k : Nat) (L : List IV) (s : ByteArray) (hz : L.length ≤ 999999) (hk : maxLen + 3 ≤ k) : ∃ m', tab.run ext k 65 [.str s, .ptr 1 [] 82] [none, some (.box true 82 [0] (.a (.own 2))), some (.arr 2 9 L)] = some ([.one (.at (.int .i64 (AD L s)))], [34], m') ∧ (fun R => R 1 = some (.box true 82 [0] (.a (.own 2))) ∧ R 2 = some (.arr 2 9 (if AD L s = 0 then L ++ [.S s] else L))) (rowIn m') := by
  obtain ⟨k, rfl⟩ : ∃ k', k = k' + 1 := ⟨k - 1, by omega⟩
  have hk0 : 0 < k := by omega
  have hl : L.length ≤ maxLen := by unfold maxLen; omega
  have hz1 : L.length + 1 ≤ 1000000 := by omega
  have hNs := hN s
  refine fn_mem (T := tab) (ext := ext) (k := k) (f := 65) (mem := [none, some (.box true 82 [0] (.a (.own 2))), some (.arr 2 9 L)]) (rs := [.one (.at (.int .i64 (AD L s)))]) (ts := [34]) (fx := fx65) (args := [.str s, .ptr 1 [] 82]) (m := 21) (R := (fun R => R 1 = some (.box true 82 [0] (.a (.own 2))) ∧ R 2 = some (.arr 2 9 (if AD L s = 0 then L ++ [.S s] else L)))) 23 rfl rfl rfl rfl (fun st hn hg hr => ?_)
  have g0 : st.get (.tmp 0) = .v (.a (.str s)) := hg 0 (of_decide_eq_true rfl)
  have g1 : st.get (.tmp 1) = .v (.a (.ptr 1 [] 82)) := hg 1 (of_decide_eq_true rfl)
  have r0 := hr 0
  have r1 := hr 1
  have r2 := hr 2
  clear hg hr
  simp only [go_sem] at r0 r1 r2
  rw [co65]
  simp only [Try.f65, Option.getD_some]
  unfold AD
  by_cases hnm : nmB s = true
  case neg =>
    have hnm2 : nmB s = false := by simpa using hnm
    simp (maxDischargeDepth := 9) only [go_sem, Nat.reduceMul, Nat.reduceAdd, Nat.reduceLeDiff, Int.reduceSub, Int.reduceNeg, Int.reduceLT, Int.reduceLE, Int.reduceEq, *, ans_ext]
  simp (maxDischargeDepth := 9) only [go_sem, Nat.reduceMul, Nat.reduceAdd, Nat.reduceLeDiff, Int.reduceSub, Int.reduceNeg, Int.reduceLT, Int.reduceLE, Int.reduceEq, *, ans_ext]
  refine gen_st (fun s0 hg hr hn0 => ?_)
  have e0 := hg 0
  have e1 := hg 1
  have e9 := hg 9
  have e10 := hg 10
  have e11 := hg 11
  have q1 := hr 1
  have q2 := hr 2
  clear hg hr
  simp only [go_sem, *] at hn0 e0 e1 e9 e10 e11 q1 q2
  refine nr (runs_for L (fun (_ : Unit) x => if (asS x == s) = true then .ret 6 else .next ()) () 23 (fun i a => [(0, s0.get (.tmp 0)), (1, s0.get (.tmp 1)), (9, s0.get (.tmp 9)), (10, s0.get (.tmp 10)), (11, .v (.a (.int .i64 i)))]) (fun i a => [(1, some (.box true 82 [0] (.a (.own 2)))), (2, some (.arr 2 9 L))]) (fun i a => True) (by omega) ?_ (trivial) ?_ ?_ ?_ ?_)
  · simp (maxDischargeDepth := 9) only [go_sem, Nat.reduceMul, Nat.reduceAdd, Nat.reduceLeDiff, Int.reduceSub, Int.reduceNeg, Int.reduceLT, Int.reduceLE, Int.reduceEq, *, ans_ext]
  · intro i a; simp (maxDischargeDepth := 9) only [go_sem, Nat.reduceMul, Nat.reduceAdd, Nat.reduceLeDiff, Int.reduceSub, Int.reduceNeg, Int.reduceLT, Int.reduceLE, Int.reduceEq, *, ans_ext]
  · intro i a; simp (maxDischargeDepth := 9) only [go_sem, Nat.reduceMul, Nat.reduceAdd, Nat.reduceLeDiff, Int.reduceSub, Int.reduceNeg, Int.reduceLT, Int.reduceLE, Int.reduceEq, *, ans_ext]
  · intro i x a s hx hi hI hS
    clear hn0 e11 q1 q2
    simp only [go_sem] at hS
    obtain ⟨f0, f1, f9, f10, f11, m1, m2, hn⟩ := hS
    have hw := wrap_succ hi (hl)
    refine rn ?_
    simp (maxDischargeDepth := 9) only [go_sem, Nat.reduceMul, Nat.reduceAdd, Nat.reduceLeDiff, Int.reduceSub, Int.reduceNeg, Int.reduceLT, Int.reduceLE, Int.reduceEq, *, ans_ext]
    all_goals exact AU_addn
  · intro a s hI hf hS
    clear hn0 e11 q1 q2
    simp only [go_sem] at hS
    obtain ⟨f0, f1, f9, f10, f11, m1, m2, hn⟩ := hS
    try simp only [go_sem] at hf
    refine rn ?_
    simp (maxDischargeDepth := 9) only [go_sem, Nat.reduceMul, Nat.reduceAdd, Nat.reduceLeDiff, Int.reduceSub, Int.reduceNeg, Int.reduceLT, Int.reduceLE, Int.reduceEq, *, ans_ext]
    all_goals exact AU_addn
end Go.Proofs.Ytficdonjodadlaa
end
section
set_option linter.unusedSimpArgs false
set_option linter.unusedVariables false
set_option maxRecDepth 100000
set_option maxHeartbeats 4000000
namespace Go.Proofs.Ytficdonjodadlaa
open Go.Ev Go.Proofs
theorem AU_ncheck {p : Prop} (h : p := by
  repeat' (first | (with_reducible refine condLt (fun h h' => ?_) (fun h h' => ?_)) | (with_reducible refine condLe (fun h h' => ?_) (fun h h' => ?_)) | (with_reducible refine dop_val ?_) | (with_reducible refine YsLt (fun h h' => ?_) (fun h h' => ?_)) | (with_reducible refine YsLe (fun h h' => ?_) (fun h h' => ?_)) | (with_reducible refine condP (fun h => ?_) (fun h => ?_)) | (with_reducible refine condN (fun h => ?_) (fun h => ?_)) | (with_reducible refine condB (fun h => ?_) (fun h => ?_)) | (with_reducible refine condR (fun h => ?_) (fun h => ?_)) | (with_reducible refine YsB (fun h => ?_) (fun h => ?_)) | (with_reducible refine YsC (fun h => ?_) (fun h => ?_)) | (with_reducible refine Ys_ite (fun h => ?_) (fun h => ?_)) | (intro h) | (with_reducible refine draw_look (by kernel_rfl) (by kernel_rfl) ?_) | (simp (maxDischargeDepth := 9) only [go_sem, Nat.reduceMul, Nat.reduceAdd, Nat.reduceLeDiff, Int.reduceSub, Int.reduceNeg, Int.reduceLT, Int.reduceLE, Int.reduceEq, *, cplace_ans, ctrans_ans, ans_ext]) | (exfalso; omega))) : p := h
theorem ncheck_ans (ext : CallF) (k : Nat) (hN : ExN ext) (n : IV) (p : Nat) (hk : maxLen + (8) ≤ k) (hnn : Ok n) : ans (tab.run ext k) 35 [.iv p 25 n] 6 = some ([.one (.at (.iv 2 38 (.A [.I (NC n).1, .I (NC n).2])))], [38]) := by
  obtain ⟨k, rfl⟩ : ∃ k', k = k' + 1 := ⟨k - 1, by omega⟩
  have hk1 : maxLen < k := by omega
  have hk0 : 0 < k := by omega
  have hk_0 : maxLen + (4) ≤ k := by omega
  refine fn_run (fx := fx35) (m := 85) 86 rfl rfl rfl rfl (fun st hn hg hr => ?_)
  have g0 : st.get (.tmp 0) = .v (.a (.iv p 25 n)) := hg 0 (of_decide_eq_true rfl)
  have r0 := hr 0
  have r1 := hr 1
  have r2 := hr 2
  have r3 := hr 3
  have r4 := hr 4
  have r5 := hr 5
  clear hg hr
  rw [co35]
  simp only [Try.f35, Option.getD_some]
  have hNs := hN (asS (fld n 0))
  unfold NC
  by_cases hnm : nmB (asS (fld n 0)) = true
  case neg =>
    have hnm2 : nmB (asS (fld n 0)) = false := by simpa using hnm
    simp (maxDischargeDepth := 9) only [go_sem, Nat.reduceMul, Nat.reduceAdd, Nat.reduceLeDiff, Int.reduceSub, Int.reduceNeg, Int.reduceLT, Int.reduceLE, Int.reduceEq, *, cplace_ans, ctrans_ans, ans_ext]
  simp (maxDischargeDepth := 9) only [go_sem, Nat.reduceMul, Nat.reduceAdd, Nat.reduceLeDiff, Int.reduceSub, Int.reduceNeg, Int.reduceLT, Int.reduceLE, Int.reduceEq, *, cplace_ans, ctrans_ans, ans_ext]
  repeat' (first | (with_reducible refine condLt (fun h h' => ?_) (fun h h' => ?_)) | (with_reducible refine condLe (fun h h' => ?_) (fun h h' => ?_)) | (with_reducible refine dop_val ?_) | (with_reducible refine YsLt (fun h h' => ?_) (fun h h' => ?_)) | (with_reducible refine YsLe (fun h h' => ?_) (fun h h' => ?_)) | (with_reducible refine condP (fun h => ?_) (fun h => ?_)) | (with_reducible refine condN (fun h => ?_) (fun h => ?_)) | (with_reducible refine condB (fun h => ?_) (fun h => ?_)) | (with_reducible refine condR (fun h => ?_) (fun h => ?_)) | (with_reducible refine YsB (fun h => ?_) (fun h => ?_)) | (with_reducible refine YsC (fun h => ?_) (fun h => ?_)) | (with_reducible refine Ys_ite (fun h => ?_) (fun h => ?_)) | (intro h) | (with_reducible refine draw_look (by kernel_rfl) (by kernel_rfl) ?_) | (simp (maxDischargeDepth := 9) only [go_sem, Nat.reduceMul, Nat.reduceAdd, Nat.reduceLeDiff, Int.reduceSub, Int.reduceNeg, Int.reduceLT, Int.reduceLE, Int.reduceEq, *, cplace_ans, ctrans_ans, ans_ext]) | (exfalso; omega))
  unfold NC1
  refine gen_st (fun s0 hg hr hn0 => ?_)
  have e1 := hg 1
  have e2 := hg 2
  have e4 := hg 4
  have e35 := hg 35
  have e36 := hg 36
  have e37 := hg 37
  have q0 := hr 0
  have q1 := hr 1
  have q2 := hr 2
  have q3 := hr 3
  clear hg hr
  simp only [go_sem, *] at hn0 e1 e2 e4 e35 e36 e37 q0 q1 q2 q3
  have hl1 := ok_len (ok_fld (j := 1) hnn)
  have hl2 := ok_len (ok_fld (j := 2) hnn)
  refine nr (runs_forN (asL (fld n 1)).length (ckP n) () 86 (fun i a => [(1, s0.get (.tmp 1)), (2, s0.get (.tmp 2)), (4, s0.get (.tmp 4)), (35, s0.get (.tmp 35)), (36, s0.get (.tmp 36)), (37, .v (.a (.int .i64 (i : Nat))))]) (fun i a => [(0, s0.row 0), (1, some (.box false 38 [] (.a (.iv 2 38 (.A [.I 0, .I 0]))))), (2, some (.box false 82 [0] (.a (.own 3)))), (3, some (.arr 2 9 (nms (fld n 1) i)))]) (fun i a => True) (by omega) ?_ (trivial) ?_ ?_ ?_ ?_)
  · simp (maxDischargeDepth := 9) only [go_sem, Nat.reduceMul, Nat.reduceAdd, Nat.reduceLeDiff, Int.reduceSub, Int.reduceNeg, Int.reduceLT, Int.reduceLE, Int.reduceEq, *, cplace_ans, ctrans_ans, ans_ext]
  · intro i a; simp (maxDischargeDepth := 9) only [go_sem, Nat.reduceMul, Nat.reduceAdd, Nat.reduceLeDiff, Int.reduceSub, Int.reduceNeg, Int.reduceLT, Int.reduceLE, Int.reduceEq, *, cplace_ans, ctrans_ans, ans_ext]
  · intro i a; simp (maxDischargeDepth := 9) only [go_sem, Nat.reduceMul, Nat.reduceAdd, Nat.reduceLeDiff, Int.reduceSub, Int.reduceNeg, Int.reduceLT, Int.reduceLE, Int.reduceEq, *, cplace_ans, ctrans_ans, ans_ext]
  · intro i a s hi hI hS
    clear hn0 e37 q2 q1 q3
    simp only [go_sem] at hS
    obtain ⟨f1, f2, f4, f35, f36, f37, m0, m1, m2, m3, hn⟩ := hS
    have hw := wrap_succ hi (hl1)
    obtain ⟨m2, hrun, hR1, hR2⟩ := add_run ext hN k (nms (fld n 1) i) (asS (fld ((asL (fld n 1)).getD i .N) 0)) (by simp only [List.length_append, nms_len]; omega) (by omega)
    refine rn ?_
    simp (maxDischargeDepth := 9) only [go_sem, Nat.reduceMul, Nat.reduceAdd, Nat.reduceLeDiff, Int.reduceSub, Int.reduceNeg, Int.reduceLT, Int.reduceLE, Int.reduceEq, *, cplace_ans, ctrans_ans, ans_ext]
    unfold ckP plS
    refine Ys_call (add_call ?_ ?_ ?_ hrun hR1 hR2) ?_
    all_goals (try (simp (maxDischargeDepth := 9) only [go_sem, Nat.reduceMul, Nat.reduceAdd, Nat.reduceLeDiff, Int.reduceSub, Int.reduceNeg, Int.reduceLT, Int.reduceLE, Int.reduceEq, *, cplace_ans, ctrans_ans, ans_ext]; done))
    rintro st2 ⟨hg2, hn2, hq2, hq3, hqo⟩
    by_cases hc : AD (nms (fld n 1) i) (asS (fld ((asL (fld n 1)).getD i .N) 0)) = 0
    · simp (maxDischargeDepth := 9) only [go_sem, Nat.reduceMul, Nat.reduceAdd, Nat.reduceLeDiff, Int.reduceSub, Int.reduceNeg, Int.reduceLT, Int.reduceLE, Int.reduceEq, *, cplace_ans, ctrans_ans, ans_ext]
      repeat' (first | (with_reducible refine condLt (fun h h' => ?_) (fun h h' => ?_)) | (with_reducible refine condLe (fun h h' => ?_) (fun h h' => ?_)) | (with_reducible refine dop_val ?_) | (with_reducible refine YsLt (fun h h' => ?_) (fun h h' => ?_)) | (with_reducible refine YsLe (fun h h' => ?_) (fun h h' => ?_)) | (with_reducible refine condP (fun h => ?_) (fun h => ?_)) | (with_reducible refine condN (fun h => ?_) (fun h => ?_)) | (with_reducible refine condB (fun h => ?_) (fun h => ?_)) | (with_reducible refine condR (fun h => ?_) (fun h => ?_)) | (with_reducible refine YsB (fun h => ?_) (fun h => ?_)) | (with_reducible refine YsC (fun h => ?_) (fun h => ?_)) | (with_reducible refine Ys_ite (fun h => ?_) (fun h => ?_)) | (intro h) | (with_reducible refine draw_look (by kernel_rfl) (by kernel_rfl) ?_) | (simp (maxDischargeDepth := 9) only [go_sem, Nat.reduceMul, Nat.reduceAdd, Nat.reduceLeDiff, Int.reduceSub, Int.reduceNeg, Int.reduceLT, Int.reduceLE, Int.reduceEq, *, cplace_ans, ctrans_ans, ans_ext]) | (exfalso; omega))
    · simp (maxDischargeDepth := 9) only [go_sem, Nat.reduceMul, Nat.reduceAdd, Nat.reduceLeDiff, Int.reduceSub, Int.reduceNeg, Int.reduceLT, Int.reduceLE, Int.reduceEq, *, cplace_ans, ctrans_ans, ans_ext]
      repeat' (first | (with_reducible refine condLt (fun h h' => ?_) (fun h h' => ?_)) | (with_reducible refine condLe (fun h h' => ?_) (fun h h' => ?_)) | (with_reducible refine dop_val ?_) | (with_reducible refine YsLt (fun h h' => ?_) (fun h h' => ?_)) | (with_reducible refine YsLe (fun h h' => ?_) (fun h h' => ?_)) | (with_reducible refine condP (fun h => ?_) (fun h => ?_)) | (with_reducible refine condN (fun h => ?_) (fun h => ?_)) | (with_reducible refine condB (fun h => ?_) (fun h => ?_)) | (with_reducible refine condR (fun h => ?_) (fun h => ?_)) | (with_reducible refine YsB (fun h => ?_) (fun h => ?_)) | (with_reducible refine YsC (fun h => ?_) (fun h => ?_)) | (with_reducible refine Ys_ite (fun h => ?_) (fun h => ?_)) | (intro h) | (with_reducible refine draw_look (by kernel_rfl) (by kernel_rfl) ?_) | (simp (maxDischargeDepth := 9) only [go_sem, Nat.reduceMul, Nat.reduceAdd, Nat.reduceLeDiff, Int.reduceSub, Int.reduceNeg, Int.reduceLT, Int.reduceLE, Int.reduceEq, *, cplace_ans, ctrans_ans, ans_ext]) | (exfalso; omega))
  · intro a s hI hf hS
    clear hn0 e37 q2 q1 q3
    simp only [go_sem] at hS
    obtain ⟨f1, f2, f4, f35, f36, f37, m0, m1, m2, m3, hn⟩ := hS
    try simp only [go_sem] at hf
    unfold NC2
    refine rn ?_
    simp (maxDischargeDepth := 9) only [go_sem, Nat.reduceMul, Nat.reduceAdd, Nat.reduceLeDiff, Int.reduceSub, Int.reduceNeg, Int.reduceLT, Int.reduceLE, Int.reduceEq, *, cplace_ans, ctrans_ans, ans_ext]
    refine gen_st (fun s0 hg hr hn0 => ?_)
    have e1 := hg 1
    have e2 := hg 2
    have e4 := hg 4
    have e57 := hg 57
    have e58 := hg 58
    have e59 := hg 59
    have q0 := hr 0
    have q1 := hr 1
    have q2 := hr 2
    have q3 := hr 3
    clear hg hr
    simp only [go_sem, *] at hn0 e1 e2 e4 e57 e58 e59 q0 q1 q2 q3
    refine nr (runs_forN (asL (fld n 2)).length (ckT n) () 86 (fun i a => [(1, s0.get (.tmp 1)), (2, s0.get (.tmp 2)), (4, s0.get (.tmp 4)), (57, s0.get (.tmp 57)), (58, s0.get (.tmp 58)), (59, .v (.a (.int .i64 (i : Nat))))]) (fun i a => [(0, s0.row 0), (1, some (.box false 38 [] (.a (.iv 2 38 (.A [.I 0, .I 0]))))), (2, some (.box false 82 [0] (.a (.own 3)))), (3, some (.arr 2 9 (nms (fld n 1) (asL (fld n 1)).length ++ nms (fld n 2) i)))]) (fun i a => True) (by omega) ?_ (trivial) ?_ ?_ ?_ ?_)
    · simp (maxDischargeDepth := 9) only [go_sem, Nat.reduceMul, Nat.reduceAdd, Nat.reduceLeDiff, Int.reduceSub, Int.reduceNeg, Int.reduceLT, Int.reduceLE, Int.reduceEq, *, cplace_ans, ctrans_ans, ans_ext]
    · intro i a; simp (maxDischargeDepth := 9) only [go_sem, Nat.reduceMul, Nat.reduceAdd, Nat.reduceLeDiff, Int.reduceSub, Int.reduceNeg, Int.reduceLT, Int.reduceLE, Int.reduceEq, *, cplace_ans, ctrans_ans, ans_ext]
    · intro i a; simp (maxDischargeDepth := 9) only [go_sem, Nat.reduceMul, Nat.reduceAdd, Nat.reduceLeDiff, Int.reduceSub, Int.reduceNeg, Int.reduceLT, Int.reduceLE, Int.reduceEq, *, cplace_ans, ctrans_ans, ans_ext]
    · intro i a s hi hI hS
      clear hn0 e59 q2 q1 q3
      simp only [go_sem] at hS
      obtain ⟨f1, f2, f4, f57, f58, f59, m0, m1, m2, m3, hn⟩ := hS
      have hw := wrap_succ hi (hl2)
      obtain ⟨m2, hrun, hR1, hR2⟩ := add_run ext hN k (nms (fld n 1) (asL (fld n 1)).length ++ nms (fld n 2) i) (asS (fld ((asL (fld n 2)).getD i .N) 0)) (by simp only [List.length_append, nms_len]; omega) (by omega)
      have hwa : IntKind.i64.wrap (((asL (fld n 1)).length : Int) + (i : Int)) = ((asL (fld n 1)).length : Int) + (i : Int) := Go.IntWalk.i64_in _ (by omega)
      refine rn ?_
      simp (maxDischargeDepth := 9) only [go_sem, Nat.reduceMul, Nat.reduceAdd, Nat.reduceLeDiff, Int.reduceSub, Int.reduceNeg, Int.reduceLT, Int.reduceLE, Int.reduceEq, *, cplace_ans, ctrans_ans, ans_ext]
      unfold ckT trS
      refine Ys_call (add_call ?_ ?_ ?_ hrun hR1 hR2) ?_
      all_goals (try (simp (maxDischargeDepth := 9) only [go_sem, Nat.reduceMul, Nat.reduceAdd, Nat.reduceLeDiff, Int.reduceSub, Int.reduceNeg, Int.reduceLT, Int.reduceLE, Int.reduceEq, *, cplace_ans, ctrans_ans, ans_ext]; done))
      rintro st2 ⟨hg2, hn2, hq2, hq3, hqo⟩
      by_cases hc : AD (nms (fld n 1) (asL (fld n 1)).length ++ nms (fld n 2) i) (asS (fld ((asL (fld n 2)).getD i .N) 0)) = 0
      · simp (maxDischargeDepth := 9) only [go_sem, Nat.reduceMul, Nat.reduceAdd, Nat.reduceLeDiff, Int.reduceSub, Int.reduceNeg, Int.reduceLT, Int.reduceLE, Int.reduceEq, *, cplace_ans, ctrans_ans, ans_ext]
        repeat' (first | (with_reducible refine condLt (fun h h' => ?_) (fun h h' => ?_)) | (with_reducible refine condLe (fun h h' => ?_) (fun h h' => ?_)) | (with_reducible refine dop_val ?_) | (with_reducible refine YsLt (fun h h' => ?_) (fun h h' => ?_)) | (with_reducible refine YsLe (fun h h' => ?_) (fun h h' => ?_)) | (with_reducible refine condP (fun h => ?_) (fun h => ?_)) | (with_reducible refine condN (fun h => ?_) (fun h => ?_)) | (with_reducible refine condB (fun h => ?_) (fun h => ?_)) | (with_reducible refine condR (fun h => ?_) (fun h => ?_)) | (with_reducible refine YsB (fun h => ?_) (fun h => ?_)) | (with_reducible refine YsC (fun h => ?_) (fun h => ?_)) | (with_reducible refine Ys_ite (fun h => ?_) (fun h => ?_)) | (intro h) | (with_reducible refine draw_look (by kernel_rfl) (by kernel_rfl) ?_) | (simp (maxDischargeDepth := 9) only [go_sem, Nat.reduceMul, Nat.reduceAdd, Nat.reduceLeDiff, Int.reduceSub, Int.reduceNeg, Int.reduceLT, Int.reduceLE, Int.reduceEq, *, cplace_ans, ctrans_ans, ans_ext]) | (exfalso; omega))
      · simp (maxDischargeDepth := 9) only [go_sem, Nat.reduceMul, Nat.reduceAdd, Nat.reduceLeDiff, Int.reduceSub, Int.reduceNeg, Int.reduceLT, Int.reduceLE, Int.reduceEq, *, cplace_ans, ctrans_ans, ans_ext]
        repeat' (first | (with_reducible refine condLt (fun h h' => ?_) (fun h h' => ?_)) | (with_reducible refine condLe (fun h h' => ?_) (fun h h' => ?_)) | (with_reducible refine dop_val ?_) | (with_reducible refine YsLt (fun h h' => ?_) (fun h h' => ?_)) | (with_reducible refine YsLe (fun h h' => ?_) (fun h h' => ?_)) | (with_reducible refine condP (fun h => ?_) (fun h => ?_)) | (with_reducible refine condN (fun h => ?_) (fun h => ?_)) | (with_reducible refine condB (fun h => ?_) (fun h => ?_)) | (with_reducible refine condR (fun h => ?_) (fun h => ?_)) | (with_reducible refine YsB (fun h => ?_) (fun h => ?_)) | (with_reducible refine YsC (fun h => ?_) (fun h => ?_)) | (with_reducible refine Ys_ite (fun h => ?_) (fun h => ?_)) | (intro h) | (with_reducible refine draw_look (by kernel_rfl) (by kernel_rfl) ?_) | (simp (maxDischargeDepth := 9) only [go_sem, Nat.reduceMul, Nat.reduceAdd, Nat.reduceLeDiff, Int.reduceSub, Int.reduceNeg, Int.reduceLT, Int.reduceLE, Int.reduceEq, *, cplace_ans, ctrans_ans, ans_ext]) | (exfalso; omega))
    · intro a s hI hf hS
      clear hn0 e59 q2 q1 q3
      simp only [go_sem] at hS
      obtain ⟨f1, f2, f4, f57, f58, f59, m0, m1, m2, m3, hn⟩ := hS
      try simp only [go_sem] at hf
      refine rn ?_
      simp (maxDischargeDepth := 9) only [go_sem, Nat.reduceMul, Nat.reduceAdd, Nat.reduceLeDiff, Int.reduceSub, Int.reduceNeg, Int.reduceLT, Int.reduceLE, Int.reduceEq, *, cplace_ans, ctrans_ans, ans_ext]
      all_goals exact AU_ncheck
end Go.Proofs.Ytficdonjodadlaa
end
section
set_option linter.unusedSimpArgs false
set_option linter.unusedVariables false
set_option maxRecDepth 100000
set_option maxHeartbeats 4000000
namespace Go.Proofs.Ytficdonjodadlaa
open Go.Ev Go.Proofs
theorem AU_rconsumed {p : Prop} (h : p := by
  repeat' (first | (with_reducible refine condLt (fun h h' => ?_) (fun h h' => ?_)) | (with_reducible refine condLe (fun h h' => ?_) (fun h h' => ?_)) | (with_reducible refine dop_val ?_) | (with_reducible refine YsLt (fun h h' => ?_) (fun h h' => ?_)) | (with_reducible refine YsLe (fun h h' => ?_) (fun h h' => ?_)) | (with_reducible refine condP (fun h => ?_) (fun h => ?_)) | (with_reducible refine condN (fun h => ?_) (fun h => ?_)) | (with_reducible refine condB (fun h => ?_) (fun h => ?_)) | (with_reducible refine condR (fun h => ?_) (fun h => ?_)) | (with_reducible refine YsB (fun h => ?_) (fun h => ?_)) | (with_reducible refine YsC (fun h => ?_) (fun h => ?_)) | (with_reducible refine Ys_ite (fun h => ?_) (fun h => ?_)) | (intro h) | (with_reducible refine draw_look (by kernel_rfl) (by kernel_rfl) ?_) | (simp (maxDischargeDepth := 9) only [go_sem, Nat.reduceMul, Nat.reduceAdd, Nat.reduceLeDiff, Int.reduceSub, Int.reduceNeg, Int.reduceLT, Int.reduceLE, Int.reduceEq, *, past_ans, rhas_ans]) | (exfalso; omega))) : p := h
theorem rconsumed_ans (ext : CallF) (k : Nat) (b : IV) (c e : Int) (p : Nat) (hk : maxLen + (6) ≤ k) (hb : Ok b) (hfd : FD b = true) (he : e < ((asL (fld b 1)).length : Int)) (hz : (asL (fld b 1)).length ≤ 1000000) : ans (tab.run ext k) 83 [.iv p 29 b, .int .i64 c, .int .i64 e] 1 = some ([.one (.at (.bool (CNf b (hist b e) c)))], [4]) := by
  obtain ⟨k, rfl⟩ : ∃ k', k = k' + 1 := ⟨k - 1, by omega⟩
  have hk1 : maxLen < k := by omega
  have hk0 : 0 < k := by omega
  have hk_0 : maxLen + (2) ≤ k := by omega
  refine fn_run (fx := fx83) (m := 29) 32 rfl rfl rfl rfl (fun st hn hg hr => ?_)
  have g0 : st.get (.tmp 0) = .v (.a (.iv p 29 b)) := hg 0 (of_decide_eq_true rfl)
  have g1 : st.get (.tmp 1) = .v (.a (.int .i64 c)) := hg 1 (of_decide_eq_true rfl)
  have g2 : st.get (.tmp 2) = .v (.a (.int .i64 e)) := hg 2 (of_decide_eq_true rfl)
  have r0 := hr 0
  clear hg hr
  rw [co83]
  simp only [Try.f83, Option.getD_some]
  unfold CNf
  have hl1 := ok_len (ok_fld (j := 1) hb)
  generalize hX : hist b e = X
  simp (maxDischargeDepth := 9) only [go_sem, Nat.reduceMul, Nat.reduceAdd, Nat.reduceLeDiff, Int.reduceSub, Int.reduceNeg, Int.reduceLT, Int.reduceLE, Int.reduceEq, *, past_ans, rhas_ans]
  refine gen_st (fun s0 hg hr hn0 => ?_)
  have e1 := hg 1
  have e3 := hg 3
  have e7 := hg 7
  have e8 := hg 8
  have q0 := hr 0
  clear hg hr
  simp only [go_sem, *] at hn0 e1 e3 e7 e8 q0
  refine nr (runs_forN (asL (fld b 1)).length (fun (_ : Unit) i => if (X i && (asL (fld ((asL (fld b 1)).getD i .N) 1)).any fun x => decide (asI x = c)) = true then .ret true else .next ()) () 32 (fun i a => [(1, s0.get (.tmp 1)), (3, s0.get (.tmp 3)), (7, s0.get (.tmp 7)), (8, .v (.a (.int .i64 i)))]) (fun i a => [(0, s0.row 0)]) (fun i a => True) (by omega) ?_ (trivial) ?_ ?_ ?_ ?_)
  · simp (maxDischargeDepth := 9) only [go_sem, Nat.reduceMul, Nat.reduceAdd, Nat.reduceLeDiff, Int.reduceSub, Int.reduceNeg, Int.reduceLT, Int.reduceLE, Int.reduceEq, *, past_ans, rhas_ans]
  · intro i a; simp (maxDischargeDepth := 9) only [go_sem, Nat.reduceMul, Nat.reduceAdd, Nat.reduceLeDiff, Int.reduceSub, Int.reduceNeg, Int.reduceLT, Int.reduceLE, Int.reduceEq, *, past_ans, rhas_ans]
  · intro i a; simp (maxDischargeDepth := 9) only [go_sem, Nat.reduceMul, Nat.reduceAdd, Nat.reduceLeDiff, Int.reduceSub, Int.reduceNeg, Int.reduceLT, Int.reduceLE, Int.reduceEq, *, past_ans, rhas_ans]
  · intro i a s hi hI hS
    clear hn0 e8
    simp only [go_sem] at hS
    obtain ⟨f1, f3, f7, f8, m0, hn⟩ := hS
    have hw := wrap_succ hi (hl1)
    refine rn ?_
    simp (maxDischargeDepth := 9) only [go_sem, Nat.reduceMul, Nat.reduceAdd, Nat.reduceLeDiff, Int.reduceSub, Int.reduceNeg, Int.reduceLT, Int.reduceLE, Int.reduceEq, *, past_ans, rhas_ans]
    all_goals exact AU_rconsumed
  · intro a s hI hf hS
    clear hn0 e8
    simp only [go_sem] at hS
    obtain ⟨f1, f3, f7, f8, m0, hn⟩ := hS
    try simp only [go_sem] at hf
    refine rn ?_
    simp (maxDischargeDepth := 9) only [go_sem, Nat.reduceMul, Nat.reduceAdd, Nat.reduceLeDiff, Int.reduceSub, Int.reduceNeg, Int.reduceLT, Int.reduceLE, Int.reduceEq, *, past_ans, rhas_ans]
    all_goals exact AU_rconsumed
theorem together_ans (ext : CallF) (k : Nat) (b : IV) (c d : Int) (p : Nat) (hk : maxLen + (10) ≤ k) (hb : Ok b) (hfd : FD b = true) (hc0 : 0 ≤ c) (hc1 : c < ((asL (fld b 0)).length : Int)) (hd0 : 0 ≤ d) (hd1 : d < ((asL (fld b 0)).length : Int)) (hz : (asL (fld b 1)).length ≤ 1000000) : ans (tab.run ext k) 57 [.iv p 29 b, .int .i64 c, .int .i64 d] 1 = some ([.one (.at (.bool (TG b c d)))], [4]) := by
  obtain ⟨k, rfl⟩ : ∃ k', k = k' + 1 := ⟨k - 1, by omega⟩
  have hk1 : maxLen < k := by omega
  have hk0 : 0 < k := by omega
  have hk_0 : maxLen + (6) ≤ k := by omega
  refine fn_run (fx := fx57) (m := 46) 49 rfl rfl rfl rfl (fun st hn hg hr => ?_)
  have g0 : st.get (.tmp 0) = .v (.a (.iv p 29 b)) := hg 0 (of_decide_eq_true rfl)
  have g1 : st.get (.tmp 1) = .v (.a (.int .i64 c)) := hg 1 (of_decide_eq_true rfl)
  have g2 : st.get (.tmp 2) = .v (.a (.int .i64 d)) := hg 2 (of_decide_eq_true rfl)
  have r0 := hr 0
  clear hg hr
  rw [co57]
  simp only [Try.f57, Option.getD_some]
  have hfc := FD_frm hfd (c := c) hc0 hc1
  have hfd2 := FD_frm hfd (c := d) hd0 hd1
  obtain ⟨hfc0, hfc1⟩ := hfc
  obtain ⟨hfe0, hfe1⟩ := hfd2
  simp only [frm, nEv] at hfc0 hfc1 hfe0 hfe1
  unfold TG frm
  simp (maxDischargeDepth := 9) only [go_sem, Nat.reduceMul, Nat.reduceAdd, Nat.reduceLeDiff, Int.reduceSub, Int.reduceNeg, Int.reduceLT, Int.reduceLE, Int.reduceEq, *, rconsumed_ans, rclash_ans, CLf_neg1, CLf_neg2]
  repeat' (first | (with_reducible refine condLt (fun h h' => ?_) (fun h h' => ?_)) | (with_reducible refine condLe (fun h h' => ?_) (fun h h' => ?_)) | (with_reducible refine dop_val ?_) | (with_reducible refine YsLt (fun h h' => ?_) (fun h h' => ?_)) | (with_reducible refine YsLe (fun h h' => ?_) (fun h h' => ?_)) | (with_reducible refine condP (fun h => ?_) (fun h => ?_)) | (with_reducible refine condN (fun h => ?_) (fun h => ?_)) | (with_reducible refine condB (fun h => ?_) (fun h => ?_)) | (with_reducible refine condR (fun h => ?_) (fun h => ?_)) | (with_reducible refine YsB (fun h => ?_) (fun h => ?_)) | (with_reducible refine YsC (fun h => ?_) (fun h => ?_)) | (with_reducible refine Ys_ite (fun h => ?_) (fun h => ?_)) | (intro h) | (with_reducible refine draw_look (by kernel_rfl) (by kernel_rfl) ?_) | (simp (maxDischargeDepth := 9) only [go_sem, Nat.reduceMul, Nat.reduceAdd, Nat.reduceLeDiff, Int.reduceSub, Int.reduceNeg, Int.reduceLT, Int.reduceLE, Int.reduceEq, *, rconsumed_ans, rclash_ans, CLf_neg1, CLf_neg2]) | (exfalso; omega))
theorem concurrent_ans (ext : CallF) (k : Nat) (hE : ExC ext) (hU : ExU ext) (b : IV) (c d : Int) (p : Nat) (hk : maxLen + (D0 + 20) ≤ k) (hb : Ok b) (hp : p ≠ 0) (hfd : FD b = true) (hc0 : 0 ≤ c) (hc1 : c < ((asL (fld b 0)).length : Int)) (hd0 : 0 ≤ d) (hd1 : d < ((asL (fld b 0)).length : Int)) (hz : (asL (fld b 1)).length ≤ 1000000) : ans (tab.run ext k) 55 [.iv p 29 b, .int .i64 c, .int .i64 d] 1 = some ([.one (.at (.bool (TG b c d)))], [4]) := by
  obtain ⟨k, rfl⟩ : ∃ k', k = k' + 1 := ⟨k - 1, by omega⟩
  have hk1 : maxLen < k := by omega
  have hk0 : 0 < k := by omega
  have hk_0 : maxLen + (D0 + 10) ≤ k := by omega
  refine fn_run (fx := fx55) (m := 44) 47 rfl rfl rfl rfl (fun st hn hg hr => ?_)
  have g0 : st.get (.tmp 0) = .v (.a (.iv p 29 b)) := hg 0 (of_decide_eq_true rfl)
  have g1 : st.get (.tmp 1) = .v (.a (.int .i64 c)) := hg 1 (of_decide_eq_true rfl)
  have g2 : st.get (.tmp 2) = .v (.a (.int .i64 d)) := hg 2 (of_decide_eq_true rfl)
  have r0 := hr 0
  clear hg hr
  rw [co55]
  simp only [Try.f55, Option.getD_some]
  have hfc := FD_frm hfd (c := c) hc0 hc1
  have hfd2 := FD_frm hfd (c := d) hd0 hd1
  obtain ⟨hfc0, hfc1⟩ := hfc
  obtain ⟨hfe0, hfe1⟩ := hfd2
  simp only [frm, nEv] at hfc0 hfc1 hfe0 hfe1
  unfold TG frm
  have hcl := hE b p 2 2 (hist b (asI (fld (el (asL (fld b 0)) c) 1))) (hist b (asI (fld (el (asL (fld b 0)) d) 1))) hb hfd hz
  have hcu := hU b p 2 (hist b (asI (fld (el (asL (fld b 0)) c) 1))) d hb hfd hz
  have hcv := hU b p 2 (hist b (asI (fld (el (asL (fld b 0)) d) 1))) c hb hfd hz
  simp (maxDischargeDepth := 9) only [go_sem, Nat.reduceMul, Nat.reduceAdd, Nat.reduceLeDiff, Int.reduceSub, Int.reduceNeg, Int.reduceLT, Int.reduceLE, Int.reduceEq, *, history_ans, ans_ext]
  repeat' (first | (with_reducible refine condLt (fun h h' => ?_) (fun h h' => ?_)) | (with_reducible refine condLe (fun h h' => ?_) (fun h h' => ?_)) | (with_reducible refine dop_val ?_) | (with_reducible refine YsLt (fun h h' => ?_) (fun h h' => ?_)) | (with_reducible refine YsLe (fun h h' => ?_) (fun h h' => ?_)) | (with_reducible refine condP (fun h => ?_) (fun h => ?_)) | (with_reducible refine condN (fun h => ?_) (fun h => ?_)) | (with_reducible refine condB (fun h => ?_) (fun h => ?_)) | (with_reducible refine condR (fun h => ?_) (fun h => ?_)) | (with_reducible refine YsB (fun h => ?_) (fun h => ?_)) | (with_reducible refine YsC (fun h => ?_) (fun h => ?_)) | (with_reducible refine Ys_ite (fun h => ?_) (fun h => ?_)) | (intro h) | (with_reducible refine draw_look (by kernel_rfl) (by kernel_rfl) ?_) | (simp (maxDischargeDepth := 9) only [go_sem, Nat.reduceMul, Nat.reduceAdd, Nat.reduceLeDiff, Int.reduceSub, Int.reduceNeg, Int.reduceLT, Int.reduceLE, Int.reduceEq, *, history_ans, ans_ext]) | (exfalso; omega))
end Go.Proofs.Ytficdonjodadlaa
end
section
set_option linter.unusedSimpArgs false
set_option linter.unusedVariables false
set_option maxRecDepth 100000
set_option maxHeartbeats 4000000
namespace Go.Proofs.Ytficdonjodadlaa
open Go.Ev Go.Proofs
theorem AU_rcoset {p : Prop} (h : p := by
  repeat' (first | (with_reducible refine condLt (fun h h' => ?_) (fun h h' => ?_)) | (with_reducible refine condLe (fun h h' => ?_) (fun h h' => ?_)) | (with_reducible refine dop_val ?_) | (with_reducible refine YsLt (fun h h' => ?_) (fun h h' => ?_)) | (with_reducible refine YsLe (fun h h' => ?_) (fun h h' => ?_)) | (with_reducible refine condP (fun h => ?_) (fun h => ?_)) | (with_reducible refine condN (fun h => ?_) (fun h => ?_)) | (with_reducible refine condB (fun h => ?_) (fun h => ?_)) | (with_reducible refine condR (fun h => ?_) (fun h => ?_)) | (with_reducible refine YsB (fun h => ?_) (fun h => ?_)) | (with_reducible refine YsC (fun h => ?_) (fun h => ?_)) | (with_reducible refine Ys_ite (fun h => ?_) (fun h => ?_)) | (intro h) | (with_reducible refine draw_look (by kernel_rfl) (by kernel_rfl) ?_) | (simp (maxDischargeDepth := 9) only [go_sem, Nat.reduceMul, Nat.reduceAdd, Nat.reduceLeDiff, Int.reduceSub, Int.reduceNeg, Int.reduceLT, Int.reduceLE, Int.reduceEq, *, rfounded_ans, together_ans]) | (exfalso; omega))) : p := h
theorem rcoset_ans (ext : CallF) (k : Nat) (b l : IV) (p q : Nat) (hk : maxLen + (14) ≤ k) (hb : Ok b) (hv : Ok l) (hz : (asL (fld b 1)).length ≤ 1000000) : ans (tab.run ext k) 27 [.iv p 29 b, .iv q 46 l] 1 = some ([.one (.at (.bool (CS b l)))], [4]) := by
  obtain ⟨k, rfl⟩ : ∃ k', k = k' + 1 := ⟨k - 1, by omega⟩
  have hk1 : maxLen < k := by omega
  have hk0 : 0 < k := by omega
  have hk_0 : maxLen + (10) ≤ k := by omega
  have hk_1 : maxLen + (2) ≤ k := by omega
  refine fn_run (fx := fx27) (m := 52) 54 rfl rfl rfl rfl (fun st hn hg hr => ?_)
  have g0 : st.get (.tmp 0) = .v (.a (.iv p 29 b)) := hg 0 (of_decide_eq_true rfl)
  have g1 : st.get (.tmp 1) = .v (.a (.iv q 46 l)) := hg 1 (of_decide_eq_true rfl)
  have r0 := hr 0
  clear hg hr
  rw [co27]
  simp only [Try.f27, Option.getD_some]
  unfold CS
  have hl := ok_len hv
  by_cases hfd : FD b = true
  case neg =>
    have hfdn : FD b = false := by simpa using hfd
    simp (maxDischargeDepth := 9) only [go_sem, Nat.reduceMul, Nat.reduceAdd, Nat.reduceLeDiff, Int.reduceSub, Int.reduceNeg, Int.reduceLT, Int.reduceLE, Int.reduceEq, *, rfounded_ans, together_ans]
  simp (maxDischargeDepth := 9) only [go_sem, Nat.reduceMul, Nat.reduceAdd, Nat.reduceLeDiff, Int.reduceSub, Int.reduceNeg, Int.reduceLT, Int.reduceLE, Int.reduceEq, *, rfounded_ans, together_ans]
  refine gen_st (fun s0 hg hr hn0 => ?_)
  have e1 := hg 1
  have e2 := hg 2
  have e5 := hg 5
  have q0 := hr 0
  clear hg hr
  simp only [go_sem, *] at hn0 e1 e2 e5 q0
  refine nr (runs_for (asL l) (fun (_ : Unit) x => if asI x < 0 ∨ ((asL (fld b 0)).length : Int) ≤ asI x then .ret false else .next ()) () 54 (fun i a => [(1, s0.get (.tmp 1)), (2, s0.get (.tmp 2)), (5, .v (.a (.int .i64 i)))]) (fun i a => [(0, s0.row 0)]) (fun i a => True) (by omega) ?_ (trivial) ?_ ?_ ?_ ?_)
  · simp (maxDischargeDepth := 9) only [go_sem, Nat.reduceMul, Nat.reduceAdd, Nat.reduceLeDiff, Int.reduceSub, Int.reduceNeg, Int.reduceLT, Int.reduceLE, Int.reduceEq, *, rfounded_ans, together_ans]
  · intro i a; simp (maxDischargeDepth := 9) only [go_sem, Nat.reduceMul, Nat.reduceAdd, Nat.reduceLeDiff, Int.reduceSub, Int.reduceNeg, Int.reduceLT, Int.reduceLE, Int.reduceEq, *, rfounded_ans, together_ans]
  · intro i a; simp (maxDischargeDepth := 9) only [go_sem, Nat.reduceMul, Nat.reduceAdd, Nat.reduceLeDiff, Int.reduceSub, Int.reduceNeg, Int.reduceLT, Int.reduceLE, Int.reduceEq, *, rfounded_ans, together_ans]
  · intro i x a s hx hi hI hS
    clear hn0 e5
    simp only [go_sem] at hS
    obtain ⟨f1, f2, f5, m0, hn⟩ := hS
    have hw := wrap_succ hi (hl)
    refine rn ?_
    simp (maxDischargeDepth := 9) only [go_sem, Nat.reduceMul, Nat.reduceAdd, Nat.reduceLeDiff, Int.reduceSub, Int.reduceNeg, Int.reduceLT, Int.reduceLE, Int.reduceEq, *, rfounded_ans, together_ans]
    all_goals exact AU_rcoset
  · intro a s hI hf hS
    clear hn0 e5
    simp only [go_sem] at hS
    obtain ⟨f1, f2, f5, m0, hn⟩ := hS
    try simp only [go_sem] at hf
    refine rn ?_
    simp (maxDischargeDepth := 9) only [go_sem, Nat.reduceMul, Nat.reduceAdd, Nat.reduceLeDiff, Int.reduceSub, Int.reduceNeg, Int.reduceLT, Int.reduceLE, Int.reduceEq, *, rfounded_ans, together_ans]
    refine gen_st (fun s0 hg hr hn0 => ?_)
    have e1 := hg 1
    have e2 := hg 2
    have e6 := hg 6
    have q0 := hr 0
    clear hg hr
    simp only [go_sem, *] at hn0 e1 e2 e6 q0
    refine nr (runs_forN (asL l).length (fun (_ : Unit) i => if ((List.range i).any fun k => !TG b (asI ((asL l).getD i .N)) (asI ((asL l).getD k .N))) = true then .ret false else .next ()) () 54 (fun i a => [(1, s0.get (.tmp 1)), (2, s0.get (.tmp 2)), (6, .v (.a (.int .i64 i)))]) (fun i a => [(0, s0.row 0)]) (fun i a => True) (by omega) ?_ (trivial) ?_ ?_ ?_ ?_)
    · simp (maxDischargeDepth := 9) only [go_sem, Nat.reduceMul, Nat.reduceAdd, Nat.reduceLeDiff, Int.reduceSub, Int.reduceNeg, Int.reduceLT, Int.reduceLE, Int.reduceEq, *, rfounded_ans, together_ans]
    · intro i a; simp (maxDischargeDepth := 9) only [go_sem, Nat.reduceMul, Nat.reduceAdd, Nat.reduceLeDiff, Int.reduceSub, Int.reduceNeg, Int.reduceLT, Int.reduceLE, Int.reduceEq, *, rfounded_ans, together_ans]
    · intro i a; simp (maxDischargeDepth := 9) only [go_sem, Nat.reduceMul, Nat.reduceAdd, Nat.reduceLeDiff, Int.reduceSub, Int.reduceNeg, Int.reduceLT, Int.reduceLE, Int.reduceEq, *, rfounded_ans, together_ans]
    · intro i a s hi hI hS
      clear hn0 e6
      simp only [go_sem] at hS
      obtain ⟨f1, f2, f6, m0, hn⟩ := hS
      have hw := wrap_succ hi (hl)
      have hio := hi
      have hil : i ≤ (asL l).length := by omega
      obtain ⟨hx0, hx1⟩ := any_in hf (i := i) hi
      refine rn ?_
      simp (maxDischargeDepth := 9) only [go_sem, Nat.reduceMul, Nat.reduceAdd, Nat.reduceLeDiff, Int.reduceSub, Int.reduceNeg, Int.reduceLT, Int.reduceLE, Int.reduceEq, *, rfounded_ans, together_ans]
      refine gen_st (fun s0 hg hr hn0 => ?_)
      have e1 := hg 1
      have e2 := hg 2
      have e6 := hg 6
      have e32 := hg 32
      have e33 := hg 33
      have e34 := hg 34
      have e35 := hg 35
      have e7 := hg 7
      have q0 := hr 0
      clear hg hr
      simp only [go_sem, *] at hn0 e1 e2 e6 e32 e33 e34 e35 e7 q0
      refine nr (runs_forN i (fun (_ : Unit) k2 => if TG b (asI ((asL l).getD i .N)) (asI ((asL l).getD k2 .N)) = true then .next () else .ret false) () 54 (fun k2 a => [(1, s0.get (.tmp 1)), (2, s0.get (.tmp 2)), (6, s0.get (.tmp 6)), (32, s0.get (.tmp 32)), (33, s0.get (.tmp 33)), (34, s0.get (.tmp 34)), (35, s0.get (.tmp 35)), (7, .v (.a (.int .i64 (k2 : Nat))))]) (fun k2 a => [(0, s0.row 0)]) (fun k2 a => True) (by omega) ?_ (trivial) ?_ ?_ ?_ ?_)
      · simp (maxDischargeDepth := 9) only [go_sem, Nat.reduceMul, Nat.reduceAdd, Nat.reduceLeDiff, Int.reduceSub, Int.reduceNeg, Int.reduceLT, Int.reduceLE, Int.reduceEq, *, rfounded_ans, together_ans]
      · intro i a; simp (maxDischargeDepth := 9) only [go_sem, Nat.reduceMul, Nat.reduceAdd, Nat.reduceLeDiff, Int.reduceSub, Int.reduceNeg, Int.reduceLT, Int.reduceLE, Int.reduceEq, *, rfounded_ans, together_ans]
      · intro i a; simp (maxDischargeDepth := 9) only [go_sem, Nat.reduceMul, Nat.reduceAdd, Nat.reduceLeDiff, Int.reduceSub, Int.reduceNeg, Int.reduceLT, Int.reduceLE, Int.reduceEq, *, rfounded_ans, together_ans]
      · intro k2 a s hi hI hS
        clear hn0 e7
        simp only [go_sem] at hS
        obtain ⟨f1, f2, f6, f32, f33, f34, f35, f7, m0, hn⟩ := hS
        have hw := wrap_succ hi (by omega)
        have hk2 : k2 < (asL l).length := by omega
        obtain ⟨hy0, hy1⟩ := any_in hf (i := k2) hk2
        refine rn ?_
        simp (maxDischargeDepth := 9) only [go_sem, Nat.reduceMul, Nat.reduceAdd, Nat.reduceLeDiff, Int.reduceSub, Int.reduceNeg, Int.reduceLT, Int.reduceLE, Int.reduceEq, *, rfounded_ans, together_ans]
        all_goals exact AU_rcoset
      · intro a s hI hf hS
        clear hn0 e7
        simp only [go_sem] at hS
        obtain ⟨f1, f2, f6, f32, f33, f34, f35, f7, m0, hn⟩ := hS
        try simp only [go_sem] at hf
        refine rn ?_
        simp (maxDischargeDepth := 9) only [go_sem, Nat.reduceMul, Nat.reduceAdd, Nat.reduceLeDiff, Int.reduceSub, Int.reduceNeg, Int.reduceLT, Int.reduceLE, Int.reduceEq, *, rfounded_ans, together_ans]
        all_goals exact AU_rcoset
    · intro a s hI hf hS
      clear hn0 e6
      simp only [go_sem] at hS
      obtain ⟨f1, f2, f6, m0, hn⟩ := hS
      try simp only [go_sem] at hf
      refine rn ?_
      simp (maxDischargeDepth := 9) only [go_sem, Nat.reduceMul, Nat.reduceAdd, Nat.reduceLeDiff, Int.reduceSub, Int.reduceNeg, Int.reduceLT, Int.reduceLE, Int.reduceEq, *, rfounded_ans, together_ans]
      all_goals exact AU_rcoset
theorem AU_coset {p : Prop} (h : p := by
  repeat' (first | (with_reducible refine condLt (fun h h' => ?_) (fun h h' => ?_)) | (with_reducible refine condLe (fun h h' => ?_) (fun h h' => ?_)) | (with_reducible refine dop_val ?_) | (with_reducible refine YsLt (fun h h' => ?_) (fun h h' => ?_)) | (with_reducible refine YsLe (fun h h' => ?_) (fun h h' => ?_)) | (with_reducible refine condP (fun h => ?_) (fun h => ?_)) | (with_reducible refine condN (fun h => ?_) (fun h => ?_)) | (with_reducible refine condB (fun h => ?_) (fun h => ?_)) | (with_reducible refine condR (fun h => ?_) (fun h => ?_)) | (with_reducible refine YsB (fun h => ?_) (fun h => ?_)) | (with_reducible refine YsC (fun h => ?_) (fun h => ?_)) | (with_reducible refine Ys_ite (fun h => ?_) (fun h => ?_)) | (intro h) | (with_reducible refine draw_look (by kernel_rfl) (by kernel_rfl) ?_) | (simp (maxDischargeDepth := 9) only [go_sem, Nat.reduceMul, Nat.reduceAdd, Nat.reduceLeDiff, Int.reduceSub, Int.reduceNeg, Int.reduceLT, Int.reduceLE, Int.reduceEq, *, founded_ans, concurrent_ans]) | (exfalso; omega))) : p := h
theorem coset_ans (ext : CallF) (k : Nat) (hE : ExC ext) (hU : ExU ext) (b l : IV) (p q : Nat) (hk : maxLen + (D0 + 24) ≤ k) (hb : Ok b) (hp : p ≠ 0) (hv : Ok l) (hz : (asL (fld b 1)).length ≤ 1000000) : ans (tab.run ext k) 26 [.iv p 29 b, .iv q 46 l] 1 = some ([.one (.at (.bool (CS b l)))], [4]) := by
  obtain ⟨k, rfl⟩ : ∃ k', k = k' + 1 := ⟨k - 1, by omega⟩
  have hk1 : maxLen < k := by omega
  have hk0 : 0 < k := by omega
  have hk_0 : maxLen + (2) ≤ k := by omega
  have hk_1 : maxLen + (D0 + 20) ≤ k := by omega
  refine fn_run (fx := fx26) (m := 50) 52 rfl rfl rfl rfl (fun st hn hg hr => ?_)
  have g0 : st.get (.tmp 0) = .v (.a (.iv p 29 b)) := hg 0 (of_decide_eq_true rfl)
  have g1 : st.get (.tmp 1) = .v (.a (.iv q 46 l)) := hg 1 (of_decide_eq_true rfl)
  have r0 := hr 0
  clear hg hr
  rw [co26]
  simp only [Try.f26, Option.getD_some]
  unfold CS
  have hl := ok_len hv
  by_cases hfd : FD b = true
  case neg =>
    have hfdn : FD b = false := by simpa using hfd
    simp (maxDischargeDepth := 9) only [go_sem, Nat.reduceMul, Nat.reduceAdd, Nat.reduceLeDiff, Int.reduceSub, Int.reduceNeg, Int.reduceLT, Int.reduceLE, Int.reduceEq, *, founded_ans, concurrent_ans]
  simp (maxDischargeDepth := 9) only [go_sem, Nat.reduceMul, Nat.reduceAdd, Nat.reduceLeDiff, Int.reduceSub, Int.reduceNeg, Int.reduceLT, Int.reduceLE, Int.reduceEq, *, founded_ans, concurrent_ans]
  refine gen_st (fun s0 hg hr hn0 => ?_)
  have e1 := hg 1
  have e2 := hg 2
  have e14 := hg 14
  have e15 := hg 15
  have e16 := hg 16
  have q0 := hr 0
  clear hg hr
  simp only [go_sem, *] at hn0 e1 e2 e14 e15 e16 q0
  refine nr (runs_for (asL l) (fun (_ : Unit) x => if asI x < 0 ∨ ((asL (fld b 0)).length : Int) ≤ asI x then .ret false else .next ()) () 52 (fun i a => [(1, s0.get (.tmp 1)), (2, s0.get (.tmp 2)), (14, s0.get (.tmp 14)), (15, s0.get (.tmp 15)), (16, .v (.a (.int .i64 i)))]) (fun i a => [(0, s0.row 0)]) (fun i a => True) (by omega) ?_ (trivial) ?_ ?_ ?_ ?_)
  · simp (maxDischargeDepth := 9) only [go_sem, Nat.reduceMul, Nat.reduceAdd, Nat.reduceLeDiff, Int.reduceSub, Int.reduceNeg, Int.reduceLT, Int.reduceLE, Int.reduceEq, *, founded_ans, concurrent_ans]
  · intro i a; simp (maxDischargeDepth := 9) only [go_sem, Nat.reduceMul, Nat.reduceAdd, Nat.reduceLeDiff, Int.reduceSub, Int.reduceNeg, Int.reduceLT, Int.reduceLE, Int.reduceEq, *, founded_ans, concurrent_ans]
  · intro i a; simp (maxDischargeDepth := 9) only [go_sem, Nat.reduceMul, Nat.reduceAdd, Nat.reduceLeDiff, Int.reduceSub, Int.reduceNeg, Int.reduceLT, Int.reduceLE, Int.reduceEq, *, founded_ans, concurrent_ans]
  · intro i x a s hx hi hI hS
    clear hn0 e16
    simp only [go_sem] at hS
    obtain ⟨f1, f2, f14, f15, f16, m0, hn⟩ := hS
    have hw := wrap_succ hi (hl)
    refine rn ?_
    simp (maxDischargeDepth := 9) only [go_sem, Nat.reduceMul, Nat.reduceAdd, Nat.reduceLeDiff, Int.reduceSub, Int.reduceNeg, Int.reduceLT, Int.reduceLE, Int.reduceEq, *, founded_ans, concurrent_ans]
    all_goals exact AU_coset
  · intro a s hI hf hS
    clear hn0 e16
    simp only [go_sem] at hS
    obtain ⟨f1, f2, f14, f15, f16, m0, hn⟩ := hS
    try simp only [go_sem] at hf
    refine rn ?_
    simp (maxDischargeDepth := 9) only [go_sem, Nat.reduceMul, Nat.reduceAdd, Nat.reduceLeDiff, Int.reduceSub, Int.reduceNeg, Int.reduceLT, Int.reduceLE, Int.reduceEq, *, founded_ans, concurrent_ans]
    refine gen_st (fun s0 hg hr hn0 => ?_)
    have e1 := hg 1
    have e2 := hg 2
    have e30 := hg 30
    have e31 := hg 31
    have e32 := hg 32
    have q0 := hr 0
    clear hg hr
    simp only [go_sem, *] at hn0 e1 e2 e30 e31 e32 q0
    refine nr (runs_forN (asL l).length (fun (_ : Unit) i => if ((List.range i).any fun k => !TG b (asI ((asL l).getD i .N)) (asI ((asL l).getD k .N))) = true then .ret false else .next ()) () 52 (fun i a => [(1, s0.get (.tmp 1)), (2, s0.get (.tmp 2)), (30, s0.get (.tmp 30)), (31, s0.get (.tmp 31)), (32, .v (.a (.int .i64 i)))]) (fun i a => [(0, s0.row 0)]) (fun i a => True) (by omega) ?_ (trivial) ?_ ?_ ?_ ?_)
    · simp (maxDischargeDepth := 9) only [go_sem, Nat.reduceMul, Nat.reduceAdd, Nat.reduceLeDiff, Int.reduceSub, Int.reduceNeg, Int.reduceLT, Int.reduceLE, Int.reduceEq, *, founded_ans, concurrent_ans]
    · intro i a; simp (maxDischargeDepth := 9) only [go_sem, Nat.reduceMul, Nat.reduceAdd, Nat.reduceLeDiff, Int.reduceSub, Int.reduceNeg, Int.reduceLT, Int.reduceLE, Int.reduceEq, *, founded_ans, concurrent_ans]
    · intro i a; simp (maxDischargeDepth := 9) only [go_sem, Nat.reduceMul, Nat.reduceAdd, Nat.reduceLeDiff, Int.reduceSub, Int.reduceNeg, Int.reduceLT, Int.reduceLE, Int.reduceEq, *, founded_ans, concurrent_ans]
    · intro i a s hi hI hS
      clear hn0 e32
      simp only [go_sem] at hS
      obtain ⟨f1, f2, f30, f31, f32, m0, hn⟩ := hS
      have hw := wrap_succ hi (hl)
      have hio := hi
      have hil : i ≤ (asL l).length := by omega
      obtain ⟨hx0, hx1⟩ := any_in hf (i := i) hi
      refine rn ?_
      simp (maxDischargeDepth := 9) only [go_sem, Nat.reduceMul, Nat.reduceAdd, Nat.reduceLeDiff, Int.reduceSub, Int.reduceNeg, Int.reduceLT, Int.reduceLE, Int.reduceEq, *, founded_ans, concurrent_ans]
      refine gen_st (fun s0 hg hr hn0 => ?_)
      have e1 := hg 1
      have e2 := hg 2
      have e7 := hg 7
      have e8 := hg 8
      have e30 := hg 30
      have e31 := hg 31
      have e32 := hg 32
      have e33 := hg 33
      have e34 := hg 34
      have e35 := hg 35
      have e36 := hg 36
      have e37 := hg 37
      have e38 := hg 38
      have e39 := hg 39
      have e40 := hg 40
      have e41 := hg 41
      have q0 := hr 0
      clear hg hr
      simp only [go_sem, *] at hn0 e1 e2 e7 e8 e30 e31 e32 e33 e34 e35 e36 e37 e38 e39 e40 e41 q0
      refine nr (runs_forN i (fun (_ : Unit) k2 => if TG b (asI ((asL l).getD i .N)) (asI ((asL l).getD k2 .N)) = true then .next () else .ret false) () 52 (fun k2 a => [(1, s0.get (.tmp 1)), (2, s0.get (.tmp 2)), (7, s0.get (.tmp 7)), (8, s0.get (.tmp 8)), (30, s0.get (.tmp 30)), (31, s0.get (.tmp 31)), (32, s0.get (.tmp 32)), (33, s0.get (.tmp 33)), (34, s0.get (.tmp 34)), (35, s0.get (.tmp 35)), (36, s0.get (.tmp 36)), (37, s0.get (.tmp 37)), (38, s0.get (.tmp 38)), (39, s0.get (.tmp 39)), (40, s0.get (.tmp 40)), (41, .v (.a (.int .i64 (k2 : Nat))))]) (fun k2 a => [(0, s0.row 0)]) (fun k2 a => True) (by omega) ?_ (trivial) ?_ ?_ ?_ ?_)
      · simp (maxDischargeDepth := 9) only [go_sem, Nat.reduceMul, Nat.reduceAdd, Nat.reduceLeDiff, Int.reduceSub, Int.reduceNeg, Int.reduceLT, Int.reduceLE, Int.reduceEq, *, founded_ans, concurrent_ans]
      · intro i a; simp (maxDischargeDepth := 9) only [go_sem, Nat.reduceMul, Nat.reduceAdd, Nat.reduceLeDiff, Int.reduceSub, Int.reduceNeg, Int.reduceLT, Int.reduceLE, Int.reduceEq, *, founded_ans, concurrent_ans]
      · intro i a; simp (maxDischargeDepth := 9) only [go_sem, Nat.reduceMul, Nat.reduceAdd, Nat.reduceLeDiff, Int.reduceSub, Int.reduceNeg, Int.reduceLT, Int.reduceLE, Int.reduceEq, *, founded_ans, concurrent_ans]
      · intro k2 a s hi hI hS
        clear hn0 e41
        simp only [go_sem] at hS
        obtain ⟨f1, f2, f7, f8, f30, f31, f32, f33, f34, f35, f36, f37, f38, f39, f40, f41, m0, hn⟩ := hS
        have hw := wrap_succ hi (by omega)
        have hk2 : k2 < (asL l).length := by omega
        obtain ⟨hy0, hy1⟩ := any_in hf (i := k2) hk2
        refine rn ?_
        simp (maxDischargeDepth := 9) only [go_sem, Nat.reduceMul, Nat.reduceAdd, Nat.reduceLeDiff, Int.reduceSub, Int.reduceNeg, Int.reduceLT, Int.reduceLE, Int.reduceEq, *, founded_ans, concurrent_ans]
        all_goals exact AU_coset
      · intro a s hI hf hS
        clear hn0 e41
        simp only [go_sem] at hS
        obtain ⟨f1, f2, f7, f8, f30, f31, f32, f33, f34, f35, f36, f37, f38, f39, f40, f41, m0, hn⟩ := hS
        try simp only [go_sem] at hf
        refine rn ?_
        simp (maxDischargeDepth := 9) only [go_sem, Nat.reduceMul, Nat.reduceAdd, Nat.reduceLeDiff, Int.reduceSub, Int.reduceNeg, Int.reduceLT, Int.reduceLE, Int.reduceEq, *, founded_ans, concurrent_ans]
        all_goals exact AU_coset
    · intro a s hI hf hS
      clear hn0 e32
      simp only [go_sem] at hS
      obtain ⟨f1, f2, f30, f31, f32, m0, hn⟩ := hS
      try simp only [go_sem] at hf
      refine rn ?_
      simp (maxDischargeDepth := 9) only [go_sem, Nat.reduceMul, Nat.reduceAdd, Nat.reduceLeDiff, Int.reduceSub, Int.reduceNeg, Int.reduceLT, Int.reduceLE, Int.reduceEq, *, founded_ans, concurrent_ans]
      all_goals exact AU_coset
end Go.Proofs.Ytficdonjodadlaa
end
section
set_option linter.unusedSimpArgs false
set_option linter.unusedVariables false
set_option maxRecDepth 100000
set_option maxHeartbeats 4000000
namespace Go.Proofs.Ytficdonjodadlaa
open Go.Ev Go.Proofs
theorem valid_ans (ext : CallF) (k : Nat) (hN : ExN ext) (n : IV) (p : Nat) (hk : maxLen + (12) ≤ k) (hnn : Ok n) : ans (tab.run ext k) 68 [.iv p 25 n] 1 = some ([.one (.at (.bool (VN n)))], [4]) := by
  obtain ⟨k, rfl⟩ : ∃ k', k = k' + 1 := ⟨k - 1, by omega⟩
  have hk1 : maxLen < k := by omega
  have hk0 : 0 < k := by omega
  have hk_0 : maxLen + (8) ≤ k := by omega
  refine fn_run (fx := fx68) (m := 6) 7 rfl rfl rfl rfl (fun st hn hg hr => ?_)
  have g0 : st.get (.tmp 0) = .v (.a (.iv p 25 n)) := hg 0 (of_decide_eq_true rfl)
  have r0 := hr 0
  clear hg hr
  rw [co68]
  simp only [Try.f68, Option.getD_some]
  repeat' (first | (with_reducible refine condLt (fun h h' => ?_) (fun h h' => ?_)) | (with_reducible refine condLe (fun h h' => ?_) (fun h h' => ?_)) | (with_reducible refine dop_val ?_) | (with_reducible refine YsLt (fun h h' => ?_) (fun h h' => ?_)) | (with_reducible refine YsLe (fun h h' => ?_) (fun h h' => ?_)) | (with_reducible refine condP (fun h => ?_) (fun h => ?_)) | (with_reducible refine condN (fun h => ?_) (fun h => ?_)) | (with_reducible refine condB (fun h => ?_) (fun h => ?_)) | (with_reducible refine condR (fun h => ?_) (fun h => ?_)) | (with_reducible refine YsB (fun h => ?_) (fun h => ?_)) | (with_reducible refine YsC (fun h => ?_) (fun h => ?_)) | (with_reducible refine Ys_ite (fun h => ?_) (fun h => ?_)) | (intro h) | (with_reducible refine draw_look (by kernel_rfl) (by kernel_rfl) ?_) | (simp (maxDischargeDepth := 9) only [go_sem, Nat.reduceMul, Nat.reduceAdd, Nat.reduceLeDiff, Int.reduceSub, Int.reduceNeg, Int.reduceLT, Int.reduceLE, Int.reduceEq, *, ncheck_ans, VN]) | (exfalso; omega))
theorem AU_plain {p : Prop} (h : p := by
  repeat' (first | (with_reducible refine condLt (fun h h' => ?_) (fun h h' => ?_)) | (with_reducible refine condLe (fun h h' => ?_) (fun h h' => ?_)) | (with_reducible refine dop_val ?_) | (with_reducible refine YsLt (fun h h' => ?_) (fun h h' => ?_)) | (with_reducible refine YsLe (fun h h' => ?_) (fun h h' => ?_)) | (with_reducible refine condP (fun h => ?_) (fun h => ?_)) | (with_reducible refine condN (fun h => ?_) (fun h => ?_)) | (with_reducible refine condB (fun h => ?_) (fun h => ?_)) | (with_reducible refine condR (fun h => ?_) (fun h => ?_)) | (with_reducible refine YsB (fun h => ?_) (fun h => ?_)) | (with_reducible refine YsC (fun h => ?_) (fun h => ?_)) | (with_reducible refine Ys_ite (fun h => ?_) (fun h => ?_)) | (intro h) | (with_reducible refine draw_look (by kernel_rfl) (by kernel_rfl) ?_) | (simp (maxDischargeDepth := 9) only [go_sem, Nat.reduceMul, Nat.reduceAdd, Nat.reduceLeDiff, Int.reduceSub, Int.reduceNeg, Int.reduceLT, Int.reduceLE, Int.reduceEq, *, valid_ans]) | (exfalso; omega))) : p := h
theorem plain_ans (ext : CallF) (k : Nat) (hN : ExN ext) (n : IV) (p : Nat) (hk : maxLen + (16) ≤ k) (hnn : Ok n) : ans (tab.run ext k) 36 [.iv p 25 n] 3 = some ([.one (.at (.bool (PN n)))], [4]) := by
  obtain ⟨k, rfl⟩ : ∃ k', k = k' + 1 := ⟨k - 1, by omega⟩
  have hk1 : maxLen < k := by omega
  have hk0 : 0 < k := by omega
  have hk_0 : maxLen + (12) ≤ k := by omega
  refine fn_run (fx := fx36) (m := 36) 37 rfl rfl rfl rfl (fun st hn hg hr => ?_)
  have g0 : st.get (.tmp 0) = .v (.a (.iv p 25 n)) := hg 0 (of_decide_eq_true rfl)
  have r0 := hr 0
  have r1 := hr 1
  have r2 := hr 2
  clear hg hr
  rw [co36]
  simp only [Try.f36, Option.getD_some]
  unfold PN
  have hl1 := ok_len (ok_fld (j := 1) hnn)
  have hl2 := ok_len (ok_fld (j := 2) hnn)
  simp (maxDischargeDepth := 9) only [go_sem, Nat.reduceMul, Nat.reduceAdd, Nat.reduceLeDiff, Int.reduceSub, Int.reduceNeg, Int.reduceLT, Int.reduceLE, Int.reduceEq, *, valid_ans]
  refine gen_st (fun s0 hg hr hn0 => ?_)
  have e1 := hg 1
  have e8 := hg 8
  have e9 := hg 9
  have e10 := hg 10
  have q0 := hr 0
  clear hg hr
  simp only [go_sem, *] at hn0 e1 e8 e9 e10 q0
  refine nr (runs_for (asL (fld n 2)) (fun (_ : Unit) x => if (0 : Int) < ((asL (fld x 3)).length : Int) ∨ ¬asI (fld x 4) = 0 then .ret false else .next ()) () 37 (fun i a => [(1, s0.get (.tmp 1)), (8, s0.get (.tmp 8)), (9, s0.get (.tmp 9)), (10, .v (.a (.int .i64 i)))]) (fun i a => [(0, s0.row 0)]) (fun i a => True) (by omega) ?_ (trivial) ?_ ?_ ?_ ?_)
  · simp (maxDischargeDepth := 9) only [go_sem, Nat.reduceMul, Nat.reduceAdd, Nat.reduceLeDiff, Int.reduceSub, Int.reduceNeg, Int.reduceLT, Int.reduceLE, Int.reduceEq, *, valid_ans]
  · intro i a; simp (maxDischargeDepth := 9) only [go_sem, Nat.reduceMul, Nat.reduceAdd, Nat.reduceLeDiff, Int.reduceSub, Int.reduceNeg, Int.reduceLT, Int.reduceLE, Int.reduceEq, *, valid_ans]
  · intro i a; simp (maxDischargeDepth := 9) only [go_sem, Nat.reduceMul, Nat.reduceAdd, Nat.reduceLeDiff, Int.reduceSub, Int.reduceNeg, Int.reduceLT, Int.reduceLE, Int.reduceEq, *, valid_ans]
  · intro i x a s hx hi hI hS
    clear hn0 e10
    simp only [go_sem] at hS
    obtain ⟨f1, f8, f9, f10, m0, hn⟩ := hS
    have hw := wrap_succ hi (hl2)
    refine rn ?_
    simp (maxDischargeDepth := 9) only [go_sem, Nat.reduceMul, Nat.reduceAdd, Nat.reduceLeDiff, Int.reduceSub, Int.reduceNeg, Int.reduceLT, Int.reduceLE, Int.reduceEq, *, valid_ans]
    all_goals exact AU_plain
  · intro a s hI hf hS
    clear hn0 e10
    simp only [go_sem] at hS
    obtain ⟨f1, f8, f9, f10, m0, hn⟩ := hS
    try simp only [go_sem] at hf
    refine rn ?_
    simp (maxDischargeDepth := 9) only [go_sem, Nat.reduceMul, Nat.reduceAdd, Nat.reduceLeDiff, Int.reduceSub, Int.reduceNeg, Int.reduceLT, Int.reduceLE, Int.reduceEq, *, valid_ans]
    refine gen_st (fun s0 hg hr hn0 => ?_)
    have e1 := hg 1
    have e25 := hg 25
    have e26 := hg 26
    have e27 := hg 27
    have q0 := hr 0
    clear hg hr
    simp only [go_sem, *] at hn0 e1 e25 e26 e27 q0
    refine nr (runs_for (asL (fld n 1)) (fun (_ : Unit) x => if asI (fld x 2) = 0 then .next () else .ret false) () 37 (fun i a => [(1, s0.get (.tmp 1)), (25, s0.get (.tmp 25)), (26, s0.get (.tmp 26)), (27, .v (.a (.int .i64 i)))]) (fun i a => [(0, s0.row 0)]) (fun i a => True) (by omega) ?_ (trivial) ?_ ?_ ?_ ?_)
    · simp (maxDischargeDepth := 9) only [go_sem, Nat.reduceMul, Nat.reduceAdd, Nat.reduceLeDiff, Int.reduceSub, Int.reduceNeg, Int.reduceLT, Int.reduceLE, Int.reduceEq, *, valid_ans]
    · intro i a; simp (maxDischargeDepth := 9) only [go_sem, Nat.reduceMul, Nat.reduceAdd, Nat.reduceLeDiff, Int.reduceSub, Int.reduceNeg, Int.reduceLT, Int.reduceLE, Int.reduceEq, *, valid_ans]
    · intro i a; simp (maxDischargeDepth := 9) only [go_sem, Nat.reduceMul, Nat.reduceAdd, Nat.reduceLeDiff, Int.reduceSub, Int.reduceNeg, Int.reduceLT, Int.reduceLE, Int.reduceEq, *, valid_ans]
    · intro i x a s hx hi hI hS
      clear hn0 e27
      simp only [go_sem] at hS
      obtain ⟨f1, f25, f26, f27, m0, hn⟩ := hS
      have hw := wrap_succ hi (hl1)
      refine rn ?_
      simp (maxDischargeDepth := 9) only [go_sem, Nat.reduceMul, Nat.reduceAdd, Nat.reduceLeDiff, Int.reduceSub, Int.reduceNeg, Int.reduceLT, Int.reduceLE, Int.reduceEq, *, valid_ans]
      all_goals exact AU_plain
    · intro a s hI hf hS
      clear hn0 e27
      simp only [go_sem] at hS
      obtain ⟨f1, f25, f26, f27, m0, hn⟩ := hS
      try simp only [go_sem] at hf
      refine rn ?_
      simp (maxDischargeDepth := 9) only [go_sem, Nat.reduceMul, Nat.reduceAdd, Nat.reduceLeDiff, Int.reduceSub, Int.reduceNeg, Int.reduceLT, Int.reduceLE, Int.reduceEq, *, valid_ans]
      all_goals exact AU_plain
theorem AU_ordinary {p : Prop} (h : p := by
  repeat' (first | (with_reducible refine condLt (fun h h' => ?_) (fun h h' => ?_)) | (with_reducible refine condLe (fun h h' => ?_) (fun h h' => ?_)) | (with_reducible refine dop_val ?_) | (with_reducible refine YsLt (fun h h' => ?_) (fun h h' => ?_)) | (with_reducible refine YsLe (fun h h' => ?_) (fun h h' => ?_)) | (with_reducible refine condP (fun h => ?_) (fun h => ?_)) | (with_reducible refine condN (fun h => ?_) (fun h => ?_)) | (with_reducible refine condB (fun h => ?_) (fun h => ?_)) | (with_reducible refine condR (fun h => ?_) (fun h => ?_)) | (with_reducible refine YsB (fun h => ?_) (fun h => ?_)) | (with_reducible refine YsC (fun h => ?_) (fun h => ?_)) | (with_reducible refine Ys_ite (fun h => ?_) (fun h => ?_)) | (intro h) | (with_reducible refine draw_look (by kernel_rfl) (by kernel_rfl) ?_) | (simp (maxDischargeDepth := 9) only [go_sem, Nat.reduceMul, Nat.reduceAdd, Nat.reduceLeDiff, Int.reduceSub, Int.reduceNeg, Int.reduceLT, Int.reduceLE, Int.reduceEq, *, valid_ans]) | (exfalso; omega))) : p := h
theorem ordinary_ans (ext : CallF) (k : Nat) (hN : ExN ext) (n : IV) (p : Nat) (hk : maxLen + (16) ≤ k) (hnn : Ok n) : ans (tab.run ext k) 37 [.iv p 25 n] 3 = some ([.one (.at (.bool (ON n)))], [4]) := by
  obtain ⟨k, rfl⟩ : ∃ k', k = k' + 1 := ⟨k - 1, by omega⟩
  have hk1 : maxLen < k := by omega
  have hk0 : 0 < k := by omega
  have hk_0 : maxLen + (12) ≤ k := by omega
  refine fn_run (fx := fx37) (m := 39) 40 rfl rfl rfl rfl (fun st hn hg hr => ?_)
  have g0 : st.get (.tmp 0) = .v (.a (.iv p 25 n)) := hg 0 (of_decide_eq_true rfl)
  have r0 := hr 0
  have r1 := hr 1
  have r2 := hr 2
  clear hg hr
  rw [co37]
  simp only [Try.f37, Option.getD_some]
  unfold ON
  have hl1 := ok_len (ok_fld (j := 1) hnn)
  have hl2 := ok_len (ok_fld (j := 2) hnn)
  simp (maxDischargeDepth := 9) only [go_sem, Nat.reduceMul, Nat.reduceAdd, Nat.reduceLeDiff, Int.reduceSub, Int.reduceNeg, Int.reduceLT, Int.reduceLE, Int.reduceEq, *, valid_ans]
  refine gen_st (fun s0 hg hr hn0 => ?_)
  have e1 := hg 1
  have e10 := hg 10
  have e11 := hg 11
  have e12 := hg 12
  have q0 := hr 0
  clear hg hr
  simp only [go_sem, *] at hn0 e1 e10 e11 e12 q0
  refine nr (runs_for (asL (fld n 2)) (fun (_ : Unit) x => if ([fld x 1, fld x 2].any fun y => (asL y).any fun z => !decide (asI (fld z 1) = 1)) = true then .ret false else .next ()) () 40 (fun i a => [(1, s0.get (.tmp 1)), (10, s0.get (.tmp 10)), (11, s0.get (.tmp 11)), (12, .v (.a (.int .i64 i)))]) (fun i a => [(0, s0.row 0)]) (fun i a => True) (by omega) ?_ (trivial) ?_ ?_ ?_ ?_)
  · simp (maxDischargeDepth := 9) only [go_sem, Nat.reduceMul, Nat.reduceAdd, Nat.reduceLeDiff, Int.reduceSub, Int.reduceNeg, Int.reduceLT, Int.reduceLE, Int.reduceEq, *, valid_ans]
  · intro i a; simp (maxDischargeDepth := 9) only [go_sem, Nat.reduceMul, Nat.reduceAdd, Nat.reduceLeDiff, Int.reduceSub, Int.reduceNeg, Int.reduceLT, Int.reduceLE, Int.reduceEq, *, valid_ans]
  · intro i a; simp (maxDischargeDepth := 9) only [go_sem, Nat.reduceMul, Nat.reduceAdd, Nat.reduceLeDiff, Int.reduceSub, Int.reduceNeg, Int.reduceLT, Int.reduceLE, Int.reduceEq, *, valid_ans]
  · intro i x a s hx hi hI hS
    clear hn0 e12
    simp only [go_sem] at hS
    obtain ⟨f1, f10, f11, f12, m0, hn⟩ := hS
    have hw := wrap_succ hi (hl2)
    have hox : Ok x := ok_get (ok_fld hnn) hx
    refine rn ?_
    simp (maxDischargeDepth := 9) only [go_sem, Nat.reduceMul, Nat.reduceAdd, Nat.reduceLeDiff, Int.reduceSub, Int.reduceNeg, Int.reduceLT, Int.reduceLE, Int.reduceEq, *, valid_ans]
    refine gen_st (fun s0 hg hr hn0 => ?_)
    have e1 := hg 1
    have e4 := hg 4
    have e10 := hg 10
    have e11 := hg 11
    have e12 := hg 12
    have e13 := hg 13
    have e14 := hg 14
    have e15 := hg 15
    have e16 := hg 16
    have e17 := hg 17
    have e18 := hg 18
    have e19 := hg 19
    have e20 := hg 20
    have e21 := hg 21
    have e22 := hg 22
    have q0 := hr 0
    have q1 := hr 1
    clear hg hr
    simp only [go_sem, *] at hn0 e1 e4 e10 e11 e12 e13 e14 e15 e16 e17 e18 e19 e20 e21 e22 q0 q1
    refine nr (runs_for [fld x 1, fld x 2] (fun (_ : Unit) y => if ((asL y).any fun z => !decide (asI (fld z 1) = 1)) = true then .ret false else .next ()) () 40 (fun j a => [(1, s0.get (.tmp 1)), (4, s0.get (.tmp 4)), (10, s0.get (.tmp 10)), (11, s0.get (.tmp 11)), (12, s0.get (.tmp 12)), (13, s0.get (.tmp 13)), (14, s0.get (.tmp 14)), (15, s0.get (.tmp 15)), (16, s0.get (.tmp 16)), (17, s0.get (.tmp 17)), (18, s0.get (.tmp 18)), (19, s0.get (.tmp 19)), (20, s0.get (.tmp 20)), (21, s0.get (.tmp 21)), (22, .v (.a (.int .i64 j)))]) (fun j a => [(0, s0.row 0), (1, s0.row 1)]) (fun j a => True) (by show 2 < k; unfold maxLen at hk1; omega) ?_ (trivial) ?_ ?_ ?_ ?_)
    · simp (maxDischargeDepth := 9) only [go_sem, Nat.reduceMul, Nat.reduceAdd, Nat.reduceLeDiff, Int.reduceSub, Int.reduceNeg, Int.reduceLT, Int.reduceLE, Int.reduceEq, *, valid_ans]
    · intro i a; simp (maxDischargeDepth := 9) only [go_sem, Nat.reduceMul, Nat.reduceAdd, Nat.reduceLeDiff, Int.reduceSub, Int.reduceNeg, Int.reduceLT, Int.reduceLE, Int.reduceEq, *, valid_ans]
    · intro i a; simp (maxDischargeDepth := 9) only [go_sem, Nat.reduceMul, Nat.reduceAdd, Nat.reduceLeDiff, Int.reduceSub, Int.reduceNeg, Int.reduceLT, Int.reduceLE, Int.reduceEq, *, valid_ans]
    · intro j y a s hx hi hI hS
      clear hn0 e22
      simp only [go_sem] at hS
      obtain ⟨f1, f4, f10, f11, f12, f13, f14, f15, f16, f17, f18, f19, f20, f21, f22, m0, m1, hn⟩ := hS
      have hoy : Ok y := by
        have := List.mem_of_getElem? hx
        simp only [List.mem_cons, List.not_mem_nil, or_false] at this
        rcases this with rfl | rfl <;> exact ok_fld hox
      have hi3 : j < 2 := hi
      have hw : IntKind.i64.wrap ((j : Int) + 1) = ((j + 1 : Nat) : Int) := by
        rw [Go.IntWalk.i64_in _ (by omega)]; omega
      have hlt : (j : Int) < 2 := by omega
      have hly := ok_len hoy
      refine rn ?_
      simp (maxDischargeDepth := 9) only [go_sem, Nat.reduceMul, Nat.reduceAdd, Nat.reduceLeDiff, Int.reduceSub, Int.reduceNeg, Int.reduceLT, Int.reduceLE, Int.reduceEq, *, valid_ans]
      refine gen_st (fun s0 hg hr hn0 => ?_)
      have e1 := hg 1
      have e4 := hg 4
      have e6 := hg 6
      have e10 := hg 10
      have e11 := hg 11
      have e12 := hg 12
      have e13 := hg 13
      have e14 := hg 14
      have e15 := hg 15
      have e16 := hg 16
      have e17 := hg 17
      have e18 := hg 18
      have e19 := hg 19
      have e20 := hg 20
      have e21 := hg 21
      have e22 := hg 22
      have e23 := hg 23
      have e24 := hg 24
      have e25 := hg 25
      have e26 := hg 26
      have e27 := hg 27
      have e28 := hg 28
      have q0 := hr 0
      have q1 := hr 1
      clear hg hr
      simp only [go_sem, *] at hn0 e1 e4 e6 e10 e11 e12 e13 e14 e15 e16 e17 e18 e19 e20 e21 e22 e23 e24 e25 e26 e27 e28 q0 q1
      refine nr (runs_for (asL y) (fun (_ : Unit) z => if asI (fld z 1) = 1 then .next () else .ret false) () 40 (fun m a => [(1, s0.get (.tmp 1)), (4, s0.get (.tmp 4)), (6, s0.get (.tmp 6)), (10, s0.get (.tmp 10)), (11, s0.get (.tmp 11)), (12, s0.get (.tmp 12)), (13, s0.get (.tmp 13)), (14, s0.get (.tmp 14)), (15, s0.get (.tmp 15)), (16, s0.get (.tmp 16)), (17, s0.get (.tmp 17)), (18, s0.get (.tmp 18)), (19, s0.get (.tmp 19)), (20, s0.get (.tmp 20)), (21, s0.get (.tmp 21)), (22, s0.get (.tmp 22)), (23, s0.get (.tmp 23)), (24, s0.get (.tmp 24)), (25, s0.get (.tmp 25)), (26, s0.get (.tmp 26)), (27, s0.get (.tmp 27)), (28, .v (.a (.int .i64 (m : Nat))))]) (fun m a => [(0, s0.row 0), (1, s0.row 1)]) (fun m a => True) (by omega) ?_ (trivial) ?_ ?_ ?_ ?_)
      · simp (maxDischargeDepth := 9) only [go_sem, Nat.reduceMul, Nat.reduceAdd, Nat.reduceLeDiff, Int.reduceSub, Int.reduceNeg, Int.reduceLT, Int.reduceLE, Int.reduceEq, *, valid_ans]
      · intro i a; simp (maxDischargeDepth := 9) only [go_sem, Nat.reduceMul, Nat.reduceAdd, Nat.reduceLeDiff, Int.reduceSub, Int.reduceNeg, Int.reduceLT, Int.reduceLE, Int.reduceEq, *, valid_ans]
      · intro i a; simp (maxDischargeDepth := 9) only [go_sem, Nat.reduceMul, Nat.reduceAdd, Nat.reduceLeDiff, Int.reduceSub, Int.reduceNeg, Int.reduceLT, Int.reduceLE, Int.reduceEq, *, valid_ans]
      · intro m z a s hx hi hI hS
        clear hn0 e28
        simp only [go_sem] at hS
        obtain ⟨f1, f4, f6, f10, f11, f12, f13, f14, f15, f16, f17, f18, f19, f20, f21, f22, f23, f24, f25, f26, f27, f28, m0, m1, hn⟩ := hS
        have hw := wrap_succ hi (hly)
        refine rn ?_
        simp (maxDischargeDepth := 9) only [go_sem, Nat.reduceMul, Nat.reduceAdd, Nat.reduceLeDiff, Int.reduceSub, Int.reduceNeg, Int.reduceLT, Int.reduceLE, Int.reduceEq, *, valid_ans]
        all_goals exact AU_ordinary
      · intro a s hI hf hS
        clear hn0 e28
        simp only [go_sem] at hS
        obtain ⟨f1, f4, f6, f10, f11, f12, f13, f14, f15, f16, f17, f18, f19, f20, f21, f22, f23, f24, f25, f26, f27, f28, m0, m1, hn⟩ := hS
        try simp only [go_sem] at hf
        refine rn ?_
        simp (maxDischargeDepth := 9) only [go_sem, Nat.reduceMul, Nat.reduceAdd, Nat.reduceLeDiff, Int.reduceSub, Int.reduceNeg, Int.reduceLT, Int.reduceLE, Int.reduceEq, *, valid_ans]
        all_goals exact AU_ordinary
    · intro a s hI hf hS
      clear hn0 e22
      simp only [go_sem] at hS
      obtain ⟨f1, f4, f10, f11, f12, f13, f14, f15, f16, f17, f18, f19, f20, f21, f22, m0, m1, hn⟩ := hS
      try simp only [go_sem] at hf
      refine rn ?_
      simp (maxDischargeDepth := 9) only [go_sem, Nat.reduceMul, Nat.reduceAdd, Nat.reduceLeDiff, Int.reduceSub, Int.reduceNeg, Int.reduceLT, Int.reduceLE, Int.reduceEq, *, valid_ans]
      all_goals exact AU_ordinary
  · intro a s hI hf hS
    clear hn0 e12
    simp only [go_sem] at hS
    obtain ⟨f1, f10, f11, f12, m0, hn⟩ := hS
    try simp only [go_sem] at hf
    refine rn ?_
    simp (maxDischargeDepth := 9) only [go_sem, Nat.reduceMul, Nat.reduceAdd, Nat.reduceLeDiff, Int.reduceSub, Int.reduceNeg, Int.reduceLT, Int.reduceLE, Int.reduceEq, *, valid_ans]
    all_goals exact AU_ordinary
end Go.Proofs.Ytficdonjodadlaa
end
section
set_option linter.unusedVariables false
namespace Go.Ev
def inR (c : Bool) (l : List IV) : R1 := if c = true then .at (.iv 2 46 (.L l)) else .own 2 3 []
theorem inR_t {l : List IV} : inR true l = .at (.iv 2 46 (.L l)) := (rfl)
theorem inR_f {l : List IV} : inR false l = .own 2 3 [] := (rfl)
attribute [go_sem] inR_t inR_f
def tIn (n : IV) (t : Int) : Bool := VN n && decide (0 ≤ t) && decide (t < ((asL (fld n 2)).length : Int))
end Go.Ev
end
section
set_option linter.unusedSimpArgs false
set_option linter.unusedVariables false
set_option maxRecDepth 100000
set_option maxHeartbeats 4000000
namespace Go.Proofs.Ytficdonjodadlaa
open Go.Ev Go.Proofs
theorem AU_lsame2 {p : Prop} (h : p := by
  repeat' (first | (with_reducible refine condLt (fun h h' => ?_) (fun h h' => ?_)) | (with_reducible refine condLe (fun h h' => ?_) (fun h h' => ?_)) | (with_reducible refine dop_val ?_) | (with_reducible refine YsLt (fun h h' => ?_) (fun h h' => ?_)) | (with_reducible refine YsLe (fun h h' => ?_) (fun h h' => ?_)) | (with_reducible refine condP (fun h => ?_) (fun h => ?_)) | (with_reducible refine condN (fun h => ?_) (fun h => ?_)) | (with_reducible refine condB (fun h => ?_) (fun h => ?_)) | (with_reducible refine condR (fun h => ?_) (fun h => ?_)) | (with_reducible refine YsB (fun h => ?_) (fun h => ?_)) | (with_reducible refine YsC (fun h => ?_) (fun h => ?_)) | (with_reducible refine Ys_ite (fun h => ?_) (fun h => ?_)) | (intro h) | (with_reducible refine draw_look (by kernel_rfl) (by kernel_rfl) ?_) | (simp (maxDischargeDepth := 9) only [go_sem, Nat.reduceMul, Nat.reduceAdd, Nat.reduceLeDiff, Int.reduceSub, Int.reduceNeg, Int.reduceLT, Int.reduceLE, Int.reduceEq, *]) | (exfalso; omega))) : p := h
theorem lsame2_ans (ext : CallF) (k : Nat) (v u : IV) (p q : Nat) (hk : maxLen + (2) ≤ k) (hv : Ok v) : ans (tab.run ext k) 79 [.iv p 46 v, .iv q 46 u] 0 = some ([.one (.at (.bool (SM v u)))], [4]) := by
  obtain ⟨k, rfl⟩ : ∃ k', k = k' + 1 := ⟨k - 1, by omega⟩
  have hk1 : maxLen < k := by omega
  have hk0 : 0 < k := by omega
  refine fn_run (fx := fx79) (m := 24) 26 rfl rfl rfl rfl (fun st hn hg hr => ?_)
  have g0 : st.get (.tmp 0) = .v (.a (.iv p 46 v)) := hg 0 (of_decide_eq_true rfl)
  have g1 : st.get (.tmp 1) = .v (.a (.iv q 46 u)) := hg 1 (of_decide_eq_true rfl)
  clear hg hr
  rw [co79]
  simp only [Try.f79, Option.getD_some]
  unfold SM
  simp (maxDischargeDepth := 9) only [go_sem, Nat.reduceMul, Nat.reduceAdd, Nat.reduceLeDiff, Int.reduceSub, Int.reduceNeg, Int.reduceLT, Int.reduceLE, Int.reduceEq, *]
  refine condN (fun h => ?_) (fun heq => ?_)
  · simp (maxDischargeDepth := 9) only [go_sem, Nat.reduceMul, Nat.reduceAdd, Nat.reduceLeDiff, Int.reduceSub, Int.reduceNeg, Int.reduceLT, Int.reduceLE, Int.reduceEq, *]
  have heq2 : (asL u).length = (asL v).length := by simpa using Eq.symm heq
  clear heq
  simp (maxDischargeDepth := 9) only [go_sem, Nat.reduceMul, Nat.reduceAdd, Nat.reduceLeDiff, Int.reduceSub, Int.reduceNeg, Int.reduceLT, Int.reduceLE, Int.reduceEq, *]
  refine gen_st (fun s0 hg hr hn0 => ?_)
  have e1 := hg 1
  have e12 := hg 12
  have e13 := hg 13
  have e14 := hg 14
  clear hg hr
  simp only [go_sem, *] at hn0 e1 e12 e13 e14
  have hl := ok_len hv
  have hcm : (List.range (asL v).length).any (fun i => !decide (asI ((asL v).getD i .N) = asI ((asL u).getD i .N))) = (List.range (asL v).length).any (fun i => !decide (asI ((asL u).getD i .N) = asI ((asL v).getD i .N))) := by congr 1; funext i; congr 1; rw [decide_eq_decide]; exact ⟨Eq.symm, Eq.symm⟩
  rw [hcm]
  clear hcm
  refine nr (runs_forN (asL v).length (fun (_ : Unit) i => if asI ((asL u).getD i .N) = asI ((asL v).getD i .N) then .next () else .ret false) () 26 (fun i a => [(1, s0.get (.tmp 1)), (12, s0.get (.tmp 12)), (13, s0.get (.tmp 13)), (14, .v (.a (.int .i64 i)))]) (fun i a => []) (fun i a => True) (by omega) ?_ (trivial) ?_ ?_ ?_ ?_)
  · simp (maxDischargeDepth := 9) only [go_sem, Nat.reduceMul, Nat.reduceAdd, Nat.reduceLeDiff, Int.reduceSub, Int.reduceNeg, Int.reduceLT, Int.reduceLE, Int.reduceEq, *]
  · intro i a; simp (maxDischargeDepth := 9) only [go_sem, Nat.reduceMul, Nat.reduceAdd, Nat.reduceLeDiff, Int.reduceSub, Int.reduceNeg, Int.reduceLT, Int.reduceLE, Int.reduceEq, *]
  · intro i a; simp (maxDischargeDepth := 9) only [go_sem, Nat.reduceMul, Nat.reduceAdd, Nat.reduceLeDiff, Int.reduceSub, Int.reduceNeg, Int.reduceLT, Int.reduceLE, Int.reduceEq, *]
  · intro i a s hi hI hS
    clear hn0 e14
    simp only [go_sem] at hS
    obtain ⟨f1, f12, f13, f14, hn⟩ := hS
    have hw := wrap_succ hi (ok_len hv)
    refine rn ?_
    simp (maxDischargeDepth := 9) only [go_sem, Nat.reduceMul, Nat.reduceAdd, Nat.reduceLeDiff, Int.reduceSub, Int.reduceNeg, Int.reduceLT, Int.reduceLE, Int.reduceEq, *]
    all_goals exact AU_lsame2
  · intro a s hI hf hS
    clear hn0 e14
    simp only [go_sem] at hS
    obtain ⟨f1, f12, f13, f14, hn⟩ := hS
    try simp only [go_sem] at hf
    refine rn ?_
    simp (maxDischargeDepth := 9) only [go_sem, Nat.reduceMul, Nat.reduceAdd, Nat.reduceLeDiff, Int.reduceSub, Int.reduceNeg, Int.reduceLT, Int.reduceLE, Int.reduceEq, *]
    all_goals exact AU_lsame2
theorem AU_known {p : Prop} (h : p := by
  repeat' (first | (with_reducible refine condLt (fun h h' => ?_) (fun h h' => ?_)) | (with_reducible refine condLe (fun h h' => ?_) (fun h h' => ?_)) | (with_reducible refine dop_val ?_) | (with_reducible refine YsLt (fun h h' => ?_) (fun h h' => ?_)) | (with_reducible refine YsLe (fun h h' => ?_) (fun h h' => ?_)) | (with_reducible refine condP (fun h => ?_) (fun h => ?_)) | (with_reducible refine condN (fun h => ?_) (fun h => ?_)) | (with_reducible refine condB (fun h => ?_) (fun h => ?_)) | (with_reducible refine condR (fun h => ?_) (fun h => ?_)) | (with_reducible refine YsB (fun h => ?_) (fun h => ?_)) | (with_reducible refine YsC (fun h => ?_) (fun h => ?_)) | (with_reducible refine Ys_ite (fun h => ?_) (fun h => ?_)) | (intro h) | (with_reducible refine draw_look (by kernel_rfl) (by kernel_rfl) ?_) | (simp (maxDischargeDepth := 9) only [go_sem, Nat.reduceMul, Nat.reduceAdd, Nat.reduceLeDiff, Int.reduceSub, Int.reduceNeg, Int.reduceLT, Int.reduceLE, Int.reduceEq, *, lsame2_ans]) | (exfalso; omega))) : p := h
theorem known_ans (ext : CallF) (k : Nat) (b l : IV) (t : Int) (p q : Nat) (hk : maxLen + (6) ≤ k) (hb : Ok b) : ans (tab.run ext k) 48 [.iv p 29 b, .int .i64 t, .iv q 46 l] 2 = some ([.one (.at (.bool (KN b t l)))], [4]) := by
  obtain ⟨k, rfl⟩ : ∃ k', k = k' + 1 := ⟨k - 1, by omega⟩
  have hk1 : maxLen < k := by omega
  have hk0 : 0 < k := by omega
  have hk_0 : maxLen + (2) ≤ k := by omega
  refine fn_run (fx := fx48) (m := 24) 27 rfl rfl rfl rfl (fun st hn hg hr => ?_)
  have g0 : st.get (.tmp 0) = .v (.a (.iv p 29 b)) := hg 0 (of_decide_eq_true rfl)
  have g1 : st.get (.tmp 1) = .v (.a (.int .i64 t)) := hg 1 (of_decide_eq_true rfl)
  have g2 : st.get (.tmp 2) = .v (.a (.iv q 46 l)) := hg 2 (of_decide_eq_true rfl)
  have r0 := hr 0
  have r1 := hr 1
  clear hg hr
  rw [co48]
  simp only [Try.f48, Option.getD_some]
  unfold KN
  simp (maxDischargeDepth := 9) only [go_sem, Nat.reduceMul, Nat.reduceAdd, Nat.reduceLeDiff, Int.reduceSub, Int.reduceNeg, Int.reduceLT, Int.reduceLE, Int.reduceEq, *, lsame2_ans]
  refine gen_st (fun s0 hg hr hn0 => ?_)
  have e1 := hg 1
  have e2 := hg 2
  have e10 := hg 10
  have e11 := hg 11
  have e12 := hg 12
  have q0 := hr 0
  clear hg hr
  simp only [go_sem, *] at hn0 e1 e2 e10 e11 e12 q0
  have hl1 := ok_len (ok_fld (j := 1) hb)
  refine nr (runs_for (asL (fld b 1)) (fun (_ : Unit) x => if (decide (asI (fld x 0) = t) && SM (fld x 1) l) = true then .ret true else .next ()) () 27 (fun i a => [(1, s0.get (.tmp 1)), (2, s0.get (.tmp 2)), (10, s0.get (.tmp 10)), (11, s0.get (.tmp 11)), (12, .v (.a (.int .i64 i)))]) (fun i a => [(0, s0.row 0)]) (fun i a => True) (by omega) ?_ (trivial) ?_ ?_ ?_ ?_)
  · simp (maxDischargeDepth := 9) only [go_sem, Nat.reduceMul, Nat.reduceAdd, Nat.reduceLeDiff, Int.reduceSub, Int.reduceNeg, Int.reduceLT, Int.reduceLE, Int.reduceEq, *, lsame2_ans]
  · intro i a; simp (maxDischargeDepth := 9) only [go_sem, Nat.reduceMul, Nat.reduceAdd, Nat.reduceLeDiff, Int.reduceSub, Int.reduceNeg, Int.reduceLT, Int.reduceLE, Int.reduceEq, *, lsame2_ans]
  · intro i a; simp (maxDischargeDepth := 9) only [go_sem, Nat.reduceMul, Nat.reduceAdd, Nat.reduceLeDiff, Int.reduceSub, Int.reduceNeg, Int.reduceLT, Int.reduceLE, Int.reduceEq, *, lsame2_ans]
  · intro i x a s hx hi hI hS
    clear hn0 e12
    simp only [go_sem] at hS
    obtain ⟨f1, f2, f10, f11, f12, m0, hn⟩ := hS
    have hw := wrap_succ hi (hl1)
    have hox : Ok x := ok_get (ok_fld hb) hx
    refine rn ?_
    simp (maxDischargeDepth := 9) only [go_sem, Nat.reduceMul, Nat.reduceAdd, Nat.reduceLeDiff, Int.reduceSub, Int.reduceNeg, Int.reduceLT, Int.reduceLE, Int.reduceEq, *, lsame2_ans]
    all_goals exact AU_known
  · intro a s hI hf hS
    clear hn0 e12
    simp only [go_sem] at hS
    obtain ⟨f1, f2, f10, f11, f12, m0, hn⟩ := hS
    try simp only [go_sem] at hf
    refine rn ?_
    simp (maxDischargeDepth := 9) only [go_sem, Nat.reduceMul, Nat.reduceAdd, Nat.reduceLeDiff, Int.reduceSub, Int.reduceNeg, Int.reduceLT, Int.reduceLE, Int.reduceEq, *, lsame2_ans]
    all_goals exact AU_known
theorem AU_targets {p : Prop} (h : p := by
  repeat' (first | (with_reducible refine condLt (fun h h' => ?_) (fun h h' => ?_)) | (with_reducible refine condLe (fun h h' => ?_) (fun h h' => ?_)) | (with_reducible refine dop_val ?_) | (with_reducible refine YsLt (fun h h' => ?_) (fun h h' => ?_)) | (with_reducible refine YsLe (fun h h' => ?_) (fun h h' => ?_)) | (with_reducible refine condP (fun h => ?_) (fun h => ?_)) | (with_reducible refine condN (fun h => ?_) (fun h => ?_)) | (with_reducible refine condB (fun h => ?_) (fun h => ?_)) | (with_reducible refine condR (fun h => ?_) (fun h => ?_)) | (with_reducible refine YsB (fun h => ?_) (fun h => ?_)) | (with_reducible refine YsC (fun h => ?_) (fun h => ?_)) | (with_reducible refine Ys_ite (fun h => ?_) (fun h => ?_)) | (intro h) | (with_reducible refine draw_look (by kernel_rfl) (by kernel_rfl) ?_) | (simp (maxDischargeDepth := 9) only [go_sem, Nat.reduceMul, Nat.reduceAdd, Nat.reduceLeDiff, Int.reduceSub, Int.reduceNeg, Int.reduceLT, Int.reduceLE, Int.reduceEq, *]) | (exfalso; omega))) : p := h
theorem targets_ans (ext : CallF) (k : Nat) (l : IV) (p : Nat) (hk : maxLen + (2) ≤ k) (hv : Ok l) (hz : (asL l).length ≤ 100000) : ans (tab.run ext k) 78 [.iv p 60 l] 3 = some ([.one (.own 2 3 (tgs l (asL l).length))], [46]) := by
  obtain ⟨k, rfl⟩ : ∃ k', k = k' + 1 := ⟨k - 1, by omega⟩
  have hk1 : maxLen < k := by omega
  have hk0 : 0 < k := by omega
  refine fn_run (fx := fx78) (m := 18) 19 rfl rfl rfl rfl (fun st hn hg hr => ?_)
  have g0 : st.get (.tmp 0) = .v (.a (.iv p 60 l)) := hg 0 (of_decide_eq_true rfl)
  have r0 := hr 0
  have r1 := hr 1
  have r2 := hr 2
  clear hg hr
  rw [co78]
  simp only [Try.f78, Option.getD_some]
  simp (maxDischargeDepth := 9) only [go_sem, Nat.reduceMul, Nat.reduceAdd, Nat.reduceLeDiff, Int.reduceSub, Int.reduceNeg, Int.reduceLT, Int.reduceLE, Int.reduceEq, *]
  refine gen_st (fun s0 hg hr hn0 => ?_)
  have e2 := hg 2
  have e6 := hg 6
  have e7 := hg 7
  have e8 := hg 8
  have e3 := hg 3
  have q1 := hr 1
  clear hg hr
  simp only [go_sem, *] at hn0 e2 e6 e7 e8 e3 q1
  have hl := ok_len hv
  refine nr (runs_forN (asL l).length (fun (_ : Unit) _ => Stp.next (ρ := Unit) ()) () 19 (fun i a => [(2, s0.get (.tmp 2)), (6, s0.get (.tmp 6)), (7, s0.get (.tmp 7)), (3, .v (.a (.own 1))), (8, .v (.a (.int .i64 (i : Nat))))]) (fun i a => [(1, some (.arr 2 3 (tgs l i)))]) (fun i a => True) (by omega) ?_ (trivial) ?_ ?_ ?_ ?_)
  · simp (maxDischargeDepth := 9) only [go_sem, Nat.reduceMul, Nat.reduceAdd, Nat.reduceLeDiff, Int.reduceSub, Int.reduceNeg, Int.reduceLT, Int.reduceLE, Int.reduceEq, *]
  · intro i a; simp (maxDischargeDepth := 9) only [go_sem, Nat.reduceMul, Nat.reduceAdd, Nat.reduceLeDiff, Int.reduceSub, Int.reduceNeg, Int.reduceLT, Int.reduceLE, Int.reduceEq, *]
  · intro i a; simp (maxDischargeDepth := 9) only [go_sem, Nat.reduceMul, Nat.reduceAdd, Nat.reduceLeDiff, Int.reduceSub, Int.reduceNeg, Int.reduceLT, Int.reduceLE, Int.reduceEq, *]
  · intro i a s hi hI hS
    clear hn0 e8 e3 q1
    simp only [go_sem] at hS
    obtain ⟨f2, f6, f7, f3, f8, m1, hn⟩ := hS
    have hw := wrap_succ hi (ok_len hv)
    have htl : (tgs l i).length + 1 ≤ 1000000 := by rw [tgs_len]; omega
    refine rn ?_
    simp (maxDischargeDepth := 9) only [go_sem, Nat.reduceMul, Nat.reduceAdd, Nat.reduceLeDiff, Int.reduceSub, Int.reduceNeg, Int.reduceLT, Int.reduceLE, Int.reduceEq, *]
    all_goals exact AU_targets
  · intro a s hI hf hS
    clear hn0 e8 e3 q1
    simp only [go_sem] at hS
    obtain ⟨f2, f6, f7, f3, f8, m1, hn⟩ := hS
    try simp only [go_sem] at hf
    refine rn ?_
    simp (maxDischargeDepth := 9) only [go_sem, Nat.reduceMul, Nat.reduceAdd, Nat.reduceLeDiff, Int.reduceSub, Int.reduceNeg, Int.reduceLT, Int.reduceLE, Int.reduceEq, *]
    all_goals exact AU_targets
end Go.Proofs.Ytficdonjodadlaa
end
section
set_option linter.unusedVariables false
set_option linter.unusedSimpArgs false
namespace Go.Ev
section
variable {T : Tab} {fx : Fx} {call : CallF} {k cur : Nat} {st st' : St} {Q : Ex → St → Prop}
theorem eff_valW {o : Oper} {v : SV} {W : List Nat} (h3 : ((st.keysOf o).any fun x => W.contains x) = false) (h1 : T.val fx call o st = some v) : T.eff fx call W o st = some (v, none) := by
  unfold Tab.eff
  split
  · rename_i hop; rw [Tab.val] at h1; simp only [hop] at h1; split at h1 <;> cases h1
  · rename_i hop; rw [Tab.val] at h1; simp only [hop] at h1; split at h1 <;> cases h1
  · rw [h3]; simp only [Bool.false_eq_true, if_false, h1, Option.map_some]
theorem dop_valW {ops : Array Oper} {W : List Nat} {b : Bool} {o : Oper} {R : St → Prop} {t : Tg R} (h3 : ((st.keysOf o).any fun x => W.contains x) = false) (h : Ys (gv T fx call ops o st) (fun v => R (st.set o.dst v)) .mk) : Ys (T.dop fx call ops W b o st) R t := by
  obtain ⟨v, h1, h2⟩ := Ys_out h
  refine Ys_in ⟨_, ?_, h2⟩
  unfold gv at h1
  unfold Tab.dop
  have keep : (b = true → T.one fx call ops o st = some (st.set o.dst v)) → ((match o.guard with
      | none => (T.eff fx call W o st).map (st.apply o.dst)
      | some (j, c) => (yieldOf ops st j).bind fun y => if y = some c then (T.eff fx call W o st).map (st.apply o.dst) else some (st.set o.dst (.tup []))) = some (st.set o.dst v)) → (if b = true then T.one fx call ops o st else (match o.guard with
      | none => (T.eff fx call W o st).map (st.apply o.dst)
      | some (j, c) => (yieldOf ops st j).bind fun y => if y = some c then (T.eff fx call W o st).map (st.apply o.dst) else some (st.set o.dst (.tup [])))) = some (st.set o.dst v) := by
    intro e1 e2; by_cases hb : b = true
    · rw [if_pos hb]; exact e1 hb
    · rw [if_neg hb]; exact e2
  refine keep (fun _ => ?_) ?_
  · unfold Tab.one
    cases hg : o.guard with
    | none => rw [hg] at h1; exact val_step h1
    | some jb =>
      obtain ⟨j, c⟩ := jb
      rw [hg] at h1
      simp only at h1 ⊢
      rw [Option.bind_eq_some_iff] at h1
      obtain ⟨y, hy, h4⟩ := h1
      rw [hy, Option.bind_some]
      split at h4
      · rename_i e; rw [if_pos e]; exact val_step h4
      · rename_i e; rw [if_neg e]; cases h4; rfl
  · cases hg : o.guard with
    | none => rw [hg] at h1; simp only at h1 ⊢; rw [eff_valW h3 h1]; rfl
    | some jb =>
      obtain ⟨j, c⟩ := jb
      rw [hg] at h1
      simp only at h1 ⊢
      rw [Option.bind_eq_some_iff] at h1
      obtain ⟨y, hy, h4⟩ := h1
      rw [hy, Option.bind_some]
      split at h4
      · rename_i e; rw [if_pos e, eff_valW h3 h4]; rfl
      · rename_i e; rw [if_neg e]; cases h4; rfl
theorem dop_eff {ops : Array Oper} {W : List Nat} {b : Bool} {o : Oper} {R : St → Prop} {t : Tg R} (hb : b = false) (hg : o.guard = none) (h : Ys (T.eff fx call W o st) (fun e => R (st.apply o.dst e)) .mk) : Ys (T.dop fx call ops W b o st) R t := by
  obtain ⟨v, h1, h2⟩ := Ys_out h
  refine Ys_in ⟨_, ?_, h2⟩
  unfold Tab.dop
  rw [if_neg (by rw [hb]; simp)]
  simp only [hg, h1, Option.map_some]
theorem draw_with {id : Nat} {ops : Array Oper} {t : Tg Q} (W : List Nat) (h : drawOk fx ops = true) (hW : drawW fx ops = W) (h2 : Ys (T.dops fx call ops W (drawPlan ops) st) (Q .normal) .mk) : Rn T fx call k cur (.region id ops true) st Q t := by rw [Runs_Draw h, hW]; exact h2
theorem apply_some {d : Option Tmp} {v : SV} {k : Nat} {r : Row} : st.apply d (v, some (k, r)) = (st.putRow k (some r)).set d v := (rfl)
theorem apply_none {d : Option Tmp} {v : SV} : st.apply d (v, none) = st.set d v := (rfl)
attribute [go_sem] apply_some apply_none
end
end Go.Ev
end
section
set_option linter.unusedVariables false
set_option linter.unusedSimpArgs false
namespace Go.Ev
section
variable {T : Tab} {fx : Fx} {call : CallF} {k cur : Nat} {st st' : St} {Q : Ex → St → Prop}
def St.push (st : St) (v : SV) : St := { st with env := st.env ++ [v] }
def St.pop (st : St) (n : Nat) : St := { st with env := st.env.take n }
theorem get_push_lt {v : SV} {t : Nat} (h : t < st.env.length) : (st.push v).get (.tmp t) = st.get (.tmp t) := by
  simp [St.push, St.get, List.getD, List.getElem?_append_left h]
theorem get_push_eq {v : SV} {n : Nat} (h : st.env.length = n) : (st.push v).get (.tmp n) = v := by subst h; simp [St.push, St.get, List.getD]
theorem len_push {v : SV} : (st.push v).env.length = st.env.length + 1 := by simp [St.push]
theorem row_push {v : SV} {j : Nat} : (st.push v).row j = st.row j := (rfl)
theorem get_pop {t n : Nat} (h : t < n) : (st.pop n).get (.tmp t) = st.get (.tmp t) := by
  simp [St.pop, St.get, List.getD, List.getElem?_take, h]
theorem len_pop {n : Nat} (h : n ≤ st.env.length) : (st.pop n).env.length = n := by simp [St.pop]; omega
theorem row_pop {n j : Nat} : (st.pop n).row j = st.row j := (rfl)
def gAt (v : SV) (j : Nat) : At := match v with | .v (.g _ l) => l.getD j .U | _ => .U
theorem gAt_g {t : TypeId} {l : List At} {j : Nat} : gAt (.v (.g t l)) j = l.getD j .U := (rfl)
theorem fieldOf_gAt {n j : Nat} : st.fieldOf n j = gAt (st.get (.tmp n)) j := by
  simp only [St.fieldOf, gAt, St.get]
  cases st.env.getD n U with
  | v x => cases x <;> rfl
  | tup l => rfl
def gSet (v : SV) (j : Nat) (x : At) : SV := match v with | .v (.g t l) => .v (.g t (l.set j x)) | v => v
theorem gSet_g {t : TypeId} {l : List At} {j : Nat} {x : At} : gSet (.v (.g t l)) j x = .v (.g t (l.set j x)) := (rfl)
theorem setField_eq {n j : Nat} {x : At} (h : n < st.env.length) : st.setField n j x = st.set (some n) (gSet (st.get (.tmp n)) j x) := by
  have e : st.env.getD n U = st.env[n] := by simp [List.getD, h]
  simp only [St.setField, gSet, St.get, St.set]
  split
  · rename_i hh; rw [hh]
  · rename_i hne
    have : (match st.env.getD n U with | .v (.g t l) => SV.v (.g t (l.set j x)) | v => v) = st.env.getD n U := by
      split
      · rename_i t l hh; exact absurd hh (hne t l)
      · rfl
    rw [this, e, List.set_getElem_self]
theorem setBoxG_eq {t : TypeId} {fs : List (TypeId × Nat)} {own : List Nat} {v : V1} {j : Nat} : St.setBoxG T st j t fs own v = if v.isTy t = true then (St.settle T st.env.length own fs 0 (st.push (.v (.g t (T.fields t v))))).bind fun st1 => (v1 ((St.adopt T st.env.length j own fs 0 st1).get (.tmp st.env.length))).bind fun c => ((St.adopt T st.env.length j own fs 0 st1).pop st.env.length).rebox j c else none := by
  unfold St.setBoxG
  split
  · congr 1; funext st1
    simp only [St.get]
    cases (St.adopt T st.env.length j own fs 0 st1).env.getD st.env.length U with
    | v x => simp only [v1, Option.bind_some]; rfl
    | tup l => rfl
  · rfl
theorem isTy_iv {p : Nat} {t t' : TypeId} {v : IV} : V1.isTy t (.a (.iv p t' v)) = decide (t' = t) := (rfl)
theorem isTy_g {t t' : TypeId} {l : List At} : V1.isTy t (.g t' l) = decide (t' = t) := (rfl)
theorem fields_iv {p : Nat} {t t' : TypeId} {v : IV} : T.fields t (.a (.iv p t' v)) = match T.ty t with | .agg fs => (List.range fs.length).map fun j => T.mk1 p (fs.getD j (0, 0)).1 (fld v j) | _ => [] := (rfl)
theorem fields_g {t t' : TypeId} {l : List At} : T.fields t (.g t' l) = l := (rfl)
attribute [go_sem] get_push_lt get_push_eq len_push row_push get_pop len_pop row_pop gAt_g fieldOf_gAt gSet_g setField_eq setBoxG_eq isTy_iv isTy_g fields_iv fields_g St.settle St.adopt St.adopt1 St.putField List.range_zero List.cons_append Nat.lt_irrefl List.getD_cons_zero List.getD_cons_succ List.set_cons_zero List.set_cons_succ At.isOwn
end
end Go.Ev
end
section
set_option linter.unusedVariables false
namespace Go.Ev
def ics (n : IV) (i : Nat) : List IV := ((List.range i).filter fun k => decide (asI (fld ((asL (fld n 1)).getD k .N) 1) = 1)).map fun (k : Nat) => .A [.I (k : Int), .I (-1)]
theorem ics_zero {n : IV} : ics n 0 = [] := (rfl)
theorem ics_succ {n : IV} {i : Nat} : ics n (i + 1) = if asI (fld ((asL (fld n 1)).getD i .N) 1) = 1 then ics n i ++ [.A [.I (i : Int), .I (-1)]] else ics n i := by
  unfold ics; rw [List.range_succ, List.filter_append, List.map_append]
  by_cases h : asI (fld ((asL (fld n 1)).getD i .N) 1) = 1
  · rw [if_pos h, List.filter_cons_of_pos (by simpa using h)]; rfl
  · rw [if_neg h, List.filter_cons_of_neg (by simpa using h), List.filter_nil, List.map_nil, List.append_nil]
theorem ics_len {n : IV} {i : Nat} : (ics n i).length ≤ i := by
  unfold ics; rw [List.length_map]; exact Nat.le_trans (List.length_filter_le _ _) (by simp)
attribute [go_sem] Int.natCast_eq_zero
attribute [go_sem] ics_zero ics_succ
def IE (n : IV) : Int := if (NC n).1 = 0 then (if PN n = true then (if ON n = true then (if ((asL (fld n 2)).any fun x => decide ((asL (fld x 1)).length = 0)) = true then 12 else if ((List.range (asL (fld n 1)).length).any fun i => decide ((1 : Int) < asI (fld ((asL (fld n 1)).getD i .N) 1))) = true then 18 else 0) else 12) else 12) else (NC n).1
def ibR (n : IV) : RV := if IE n = 0 then .g 29 [.at (.iv 2 26 (.L (ics n (asL (fld n 1)).length))), .at (.iv 2 27 .N)] else .one (.at (.iv 2 29 (.A [.N, .N])))
theorem outV_g {T : Tab} {st : St} {t t' : TypeId} {l : List At} : T.outV st t (.g t' l) = if t = t' then (T.outL st (aggOf T t) l).bind fun (st, rs) => some (st, .g t rs) else none := (rfl)
attribute [go_sem] outV_g Tab.outL
end Go.Ev
end
section
set_option linter.unusedSimpArgs false
set_option linter.unusedVariables false
set_option maxRecDepth 100000
set_option maxHeartbeats 4000000
namespace Go.Proofs.Ytficdonjodadlaa
open Go.Ev Go.Proofs
theorem inputs_ans (ext : CallF) (k : Nat) (hN : ExN ext) (n : IV) (t : Int) (p : Nat) (hk : maxLen + (20) ≤ k) (hnn : Ok n) (hs : (asL (fld (el (asL (fld n 2)) t) 1)).length ≤ 100000) : ans (tab.run ext k) 47 [.iv p 25 n, .int .i64 t] 1 = some ([.one (inR (tIn n t) (tgs (fld (el (asL (fld n 2)) t) 1) (asL (fld (el (asL (fld n 2)) t) 1)).length))], [46]) := by
  obtain ⟨k, rfl⟩ : ∃ k', k = k' + 1 := ⟨k - 1, by omega⟩
  have hk1 : maxLen < k := by omega
  have hk0 : 0 < k := by omega
  have hk_0 : maxLen + (12) ≤ k := by omega
  have hk_1 : maxLen + (2) ≤ k := by omega
  refine fn_run (fx := fx47) (m := 24) 26 rfl rfl rfl rfl (fun st hn hg hr => ?_)
  have g0 : st.get (.tmp 0) = .v (.a (.iv p 25 n)) := hg 0 (of_decide_eq_true rfl)
  have g1 : st.get (.tmp 1) = .v (.a (.int .i64 t)) := hg 1 (of_decide_eq_true rfl)
  have r0 := hr 0
  clear hg hr
  rw [co47]
  simp only [Try.f47, Option.getD_some]
  unfold tIn
  by_cases hc0 : VN n = true
  case neg =>
    have hc0n : VN n = false := by simpa using hc0
    simp (maxDischargeDepth := 9) only [go_sem, Nat.reduceMul, Nat.reduceAdd, Nat.reduceLeDiff, Int.reduceSub, Int.reduceNeg, Int.reduceLT, Int.reduceLE, Int.reduceEq, *, valid_ans, targets_ans]
    repeat' (first | (with_reducible refine condLt (fun h h' => ?_) (fun h h' => ?_)) | (with_reducible refine condLe (fun h h' => ?_) (fun h h' => ?_)) | (with_reducible refine dop_val ?_) | (with_reducible refine YsLt (fun h h' => ?_) (fun h h' => ?_)) | (with_reducible refine YsLe (fun h h' => ?_) (fun h h' => ?_)) | (with_reducible refine condP (fun h => ?_) (fun h => ?_)) | (with_reducible refine condN (fun h => ?_) (fun h => ?_)) | (with_reducible refine condB (fun h => ?_) (fun h => ?_)) | (with_reducible refine condR (fun h => ?_) (fun h => ?_)) | (with_reducible refine YsB (fun h => ?_) (fun h => ?_)) | (with_reducible refine YsC (fun h => ?_) (fun h => ?_)) | (with_reducible refine Ys_ite (fun h => ?_) (fun h => ?_)) | (intro h) | (with_reducible refine draw_look (by kernel_rfl) (by kernel_rfl) ?_) | (simp (maxDischargeDepth := 9) only [go_sem, Nat.reduceMul, Nat.reduceAdd, Nat.reduceLeDiff, Int.reduceSub, Int.reduceNeg, Int.reduceLT, Int.reduceLE, Int.reduceEq, *, valid_ans, targets_ans]) | (exfalso; omega))
  by_cases hc1 : (0 : Int) ≤ t
  case neg =>
    skip
    simp (maxDischargeDepth := 9) only [go_sem, Nat.reduceMul, Nat.reduceAdd, Nat.reduceLeDiff, Int.reduceSub, Int.reduceNeg, Int.reduceLT, Int.reduceLE, Int.reduceEq, *, valid_ans, targets_ans]
    repeat' (first | (with_reducible refine condLt (fun h h' => ?_) (fun h h' => ?_)) | (with_reducible refine condLe (fun h h' => ?_) (fun h h' => ?_)) | (with_reducible refine dop_val ?_) | (with_reducible refine YsLt (fun h h' => ?_) (fun h h' => ?_)) | (with_reducible refine YsLe (fun h h' => ?_) (fun h h' => ?_)) | (with_reducible refine condP (fun h => ?_) (fun h => ?_)) | (with_reducible refine condN (fun h => ?_) (fun h => ?_)) | (with_reducible refine condB (fun h => ?_) (fun h => ?_)) | (with_reducible refine condR (fun h => ?_) (fun h => ?_)) | (with_reducible refine YsB (fun h => ?_) (fun h => ?_)) | (with_reducible refine YsC (fun h => ?_) (fun h => ?_)) | (with_reducible refine Ys_ite (fun h => ?_) (fun h => ?_)) | (intro h) | (with_reducible refine draw_look (by kernel_rfl) (by kernel_rfl) ?_) | (simp (maxDischargeDepth := 9) only [go_sem, Nat.reduceMul, Nat.reduceAdd, Nat.reduceLeDiff, Int.reduceSub, Int.reduceNeg, Int.reduceLT, Int.reduceLE, Int.reduceEq, *, valid_ans, targets_ans]) | (exfalso; omega))
  by_cases hc2 : t < ((asL (fld n 2)).length : Int)
  case neg =>
    skip
    simp (maxDischargeDepth := 9) only [go_sem, Nat.reduceMul, Nat.reduceAdd, Nat.reduceLeDiff, Int.reduceSub, Int.reduceNeg, Int.reduceLT, Int.reduceLE, Int.reduceEq, *, valid_ans, targets_ans]
    repeat' (first | (with_reducible refine condLt (fun h h' => ?_) (fun h h' => ?_)) | (with_reducible refine condLe (fun h h' => ?_) (fun h h' => ?_)) | (with_reducible refine dop_val ?_) | (with_reducible refine YsLt (fun h h' => ?_) (fun h h' => ?_)) | (with_reducible refine YsLe (fun h h' => ?_) (fun h h' => ?_)) | (with_reducible refine condP (fun h => ?_) (fun h => ?_)) | (with_reducible refine condN (fun h => ?_) (fun h => ?_)) | (with_reducible refine condB (fun h => ?_) (fun h => ?_)) | (with_reducible refine condR (fun h => ?_) (fun h => ?_)) | (with_reducible refine YsB (fun h => ?_) (fun h => ?_)) | (with_reducible refine YsC (fun h => ?_) (fun h => ?_)) | (with_reducible refine Ys_ite (fun h => ?_) (fun h => ?_)) | (intro h) | (with_reducible refine draw_look (by kernel_rfl) (by kernel_rfl) ?_) | (simp (maxDischargeDepth := 9) only [go_sem, Nat.reduceMul, Nat.reduceAdd, Nat.reduceLeDiff, Int.reduceSub, Int.reduceNeg, Int.reduceLT, Int.reduceLE, Int.reduceEq, *, valid_ans, targets_ans]) | (exfalso; omega))
  simp (maxDischargeDepth := 9) only [go_sem, Nat.reduceMul, Nat.reduceAdd, Nat.reduceLeDiff, Int.reduceSub, Int.reduceNeg, Int.reduceLT, Int.reduceLE, Int.reduceEq, *, valid_ans, targets_ans]
  repeat' (first | (with_reducible refine condLt (fun h h' => ?_) (fun h h' => ?_)) | (with_reducible refine condLe (fun h h' => ?_) (fun h h' => ?_)) | (with_reducible refine dop_val ?_) | (with_reducible refine YsLt (fun h h' => ?_) (fun h h' => ?_)) | (with_reducible refine YsLe (fun h h' => ?_) (fun h h' => ?_)) | (with_reducible refine condP (fun h => ?_) (fun h => ?_)) | (with_reducible refine condN (fun h => ?_) (fun h => ?_)) | (with_reducible refine condB (fun h => ?_) (fun h => ?_)) | (with_reducible refine condR (fun h => ?_) (fun h => ?_)) | (with_reducible refine YsB (fun h => ?_) (fun h => ?_)) | (with_reducible refine YsC (fun h => ?_) (fun h => ?_)) | (with_reducible refine Ys_ite (fun h => ?_) (fun h => ?_)) | (intro h) | (with_reducible refine draw_look (by kernel_rfl) (by kernel_rfl) ?_) | (simp (maxDischargeDepth := 9) only [go_sem, Nat.reduceMul, Nat.reduceAdd, Nat.reduceLeDiff, Int.reduceSub, Int.reduceNeg, Int.reduceLT, Int.reduceLE, Int.reduceEq, *, valid_ans, targets_ans]) | (exfalso; omega))
theorem outputs_ans (ext : CallF) (k : Nat) (hN : ExN ext) (n : IV) (t : Int) (p : Nat) (hk : maxLen + (20) ≤ k) (hnn : Ok n) (hs : (asL (fld (el (asL (fld n 2)) t) 2)).length ≤ 100000) : ans (tab.run ext k) 52 [.iv p 25 n, .int .i64 t] 1 = some ([.one (inR (tIn n t) (tgs (fld (el (asL (fld n 2)) t) 2) (asL (fld (el (asL (fld n 2)) t) 2)).length))], [46]) := by
  obtain ⟨k, rfl⟩ : ∃ k', k = k' + 1 := ⟨k - 1, by omega⟩
  have hk1 : maxLen < k := by omega
  have hk0 : 0 < k := by omega
  have hk_0 : maxLen + (12) ≤ k := by omega
  have hk_1 : maxLen + (2) ≤ k := by omega
  refine fn_run (fx := fx52) (m := 24) 26 rfl rfl rfl rfl (fun st hn hg hr => ?_)
  have g0 : st.get (.tmp 0) = .v (.a (.iv p 25 n)) := hg 0 (of_decide_eq_true rfl)
  have g1 : st.get (.tmp 1) = .v (.a (.int .i64 t)) := hg 1 (of_decide_eq_true rfl)
  have r0 := hr 0
  clear hg hr
  rw [co52]
  simp only [Try.f52, Option.getD_some]
  unfold tIn
  by_cases hc0 : VN n = true
  case neg =>
    have hc0n : VN n = false := by simpa using hc0
    simp (maxDischargeDepth := 9) only [go_sem, Nat.reduceMul, Nat.reduceAdd, Nat.reduceLeDiff, Int.reduceSub, Int.reduceNeg, Int.reduceLT, Int.reduceLE, Int.reduceEq, *, valid_ans, targets_ans]
    repeat' (first | (with_reducible refine condLt (fun h h' => ?_) (fun h h' => ?_)) | (with_reducible refine condLe (fun h h' => ?_) (fun h h' => ?_)) | (with_reducible refine dop_val ?_) | (with_reducible refine YsLt (fun h h' => ?_) (fun h h' => ?_)) | (with_reducible refine YsLe (fun h h' => ?_) (fun h h' => ?_)) | (with_reducible refine condP (fun h => ?_) (fun h => ?_)) | (with_reducible refine condN (fun h => ?_) (fun h => ?_)) | (with_reducible refine condB (fun h => ?_) (fun h => ?_)) | (with_reducible refine condR (fun h => ?_) (fun h => ?_)) | (with_reducible refine YsB (fun h => ?_) (fun h => ?_)) | (with_reducible refine YsC (fun h => ?_) (fun h => ?_)) | (with_reducible refine Ys_ite (fun h => ?_) (fun h => ?_)) | (intro h) | (with_reducible refine draw_look (by kernel_rfl) (by kernel_rfl) ?_) | (simp (maxDischargeDepth := 9) only [go_sem, Nat.reduceMul, Nat.reduceAdd, Nat.reduceLeDiff, Int.reduceSub, Int.reduceNeg, Int.reduceLT, Int.reduceLE, Int.reduceEq, *, valid_ans, targets_ans]) | (exfalso; omega))
  by_cases hc1 : (0 : Int) ≤ t
  case neg =>
    skip
    simp (maxDischargeDepth := 9) only [go_sem, Nat.reduceMul, Nat.reduceAdd, Nat.reduceLeDiff, Int.reduceSub, Int.reduceNeg, Int.reduceLT, Int.reduceLE, Int.reduceEq, *, valid_ans, targets_ans]
    repeat' (first | (with_reducible refine condLt (fun h h' => ?_) (fun h h' => ?_)) | (with_reducible refine condLe (fun h h' => ?_) (fun h h' => ?_)) | (with_reducible refine dop_val ?_) | (with_reducible refine YsLt (fun h h' => ?_) (fun h h' => ?_)) | (with_reducible refine YsLe (fun h h' => ?_) (fun h h' => ?_)) | (with_reducible refine condP (fun h => ?_) (fun h => ?_)) | (with_reducible refine condN (fun h => ?_) (fun h => ?_)) | (with_reducible refine condB (fun h => ?_) (fun h => ?_)) | (with_reducible refine condR (fun h => ?_) (fun h => ?_)) | (with_reducible refine YsB (fun h => ?_) (fun h => ?_)) | (with_reducible refine YsC (fun h => ?_) (fun h => ?_)) | (with_reducible refine Ys_ite (fun h => ?_) (fun h => ?_)) | (intro h) | (with_reducible refine draw_look (by kernel_rfl) (by kernel_rfl) ?_) | (simp (maxDischargeDepth := 9) only [go_sem, Nat.reduceMul, Nat.reduceAdd, Nat.reduceLeDiff, Int.reduceSub, Int.reduceNeg, Int.reduceLT, Int.reduceLE, Int.reduceEq, *, valid_ans, targets_ans]) | (exfalso; omega))
  by_cases hc2 : t < ((asL (fld n 2)).length : Int)
  case neg =>
    skip
    simp (maxDischargeDepth := 9) only [go_sem, Nat.reduceMul, Nat.reduceAdd, Nat.reduceLeDiff, Int.reduceSub, Int.reduceNeg, Int.reduceLT, Int.reduceLE, Int.reduceEq, *, valid_ans, targets_ans]
    repeat' (first | (with_reducible refine condLt (fun h h' => ?_) (fun h h' => ?_)) | (with_reducible refine condLe (fun h h' => ?_) (fun h h' => ?_)) | (with_reducible refine dop_val ?_) | (with_reducible refine YsLt (fun h h' => ?_) (fun h h' => ?_)) | (with_reducible refine YsLe (fun h h' => ?_) (fun h h' => ?_)) | (with_reducible refine condP (fun h => ?_) (fun h => ?_)) | (with_reducible refine condN (fun h => ?_) (fun h => ?_)) | (with_reducible refine condB (fun h => ?_) (fun h => ?_)) | (with_reducible refine condR (fun h => ?_) (fun h => ?_)) | (with_reducible refine YsB (fun h => ?_) (fun h => ?_)) | (with_reducible refine YsC (fun h => ?_) (fun h => ?_)) | (with_reducible refine Ys_ite (fun h => ?_) (fun h => ?_)) | (intro h) | (with_reducible refine draw_look (by kernel_rfl) (by kernel_rfl) ?_) | (simp (maxDischargeDepth := 9) only [go_sem, Nat.reduceMul, Nat.reduceAdd, Nat.reduceLeDiff, Int.reduceSub, Int.reduceNeg, Int.reduceLT, Int.reduceLE, Int.reduceEq, *, valid_ans, targets_ans]) | (exfalso; omega))
  simp (maxDischargeDepth := 9) only [go_sem, Nat.reduceMul, Nat.reduceAdd, Nat.reduceLeDiff, Int.reduceSub, Int.reduceNeg, Int.reduceLT, Int.reduceLE, Int.reduceEq, *, valid_ans, targets_ans]
  repeat' (first | (with_reducible refine condLt (fun h h' => ?_) (fun h h' => ?_)) | (with_reducible refine condLe (fun h h' => ?_) (fun h h' => ?_)) | (with_reducible refine dop_val ?_) | (with_reducible refine YsLt (fun h h' => ?_) (fun h h' => ?_)) | (with_reducible refine YsLe (fun h h' => ?_) (fun h h' => ?_)) | (with_reducible refine condP (fun h => ?_) (fun h => ?_)) | (with_reducible refine condN (fun h => ?_) (fun h => ?_)) | (with_reducible refine condB (fun h => ?_) (fun h => ?_)) | (with_reducible refine condR (fun h => ?_) (fun h => ?_)) | (with_reducible refine YsB (fun h => ?_) (fun h => ?_)) | (with_reducible refine YsC (fun h => ?_) (fun h => ?_)) | (with_reducible refine Ys_ite (fun h => ?_) (fun h => ?_)) | (intro h) | (with_reducible refine draw_look (by kernel_rfl) (by kernel_rfl) ?_) | (simp (maxDischargeDepth := 9) only [go_sem, Nat.reduceMul, Nat.reduceAdd, Nat.reduceLeDiff, Int.reduceSub, Int.reduceNeg, Int.reduceLT, Int.reduceLE, Int.reduceEq, *, valid_ans, targets_ans]) | (exfalso; omega))
end Go.Proofs.Ytficdonjodadlaa
end
