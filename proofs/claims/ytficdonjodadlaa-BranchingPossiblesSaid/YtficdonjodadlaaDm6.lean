/- Part 6 of a proof: Dm. Words and walks that a program printed for this claim stand here without what the claim does not use. -/
import Derived.KernelRfl
import Derived.Test.YtficdonjodadlaaDm3
import Derived.Test.YtficdonjodadlaaDm4
import Derived.Test.YtficdonjodadlaaDm5
set_option linter.unusedSimpArgs false
set_option linter.unusedVariables false
section
set_option linter.unusedVariables false
set_option linter.unusedSimpArgs false
namespace Go.Ev
section
variable {T : Tab} {fx : Fx} {call : CallF} {st : St}
theorem place_g2 {k d : Nat} {t p p2 e e2 : Nat} {l l2 : List IV} {a b : TypeId × Nat} (ht : aggOf T t = [a, b]) (hd : d < st.env.length) :
    st.placeV T (some ⟨k, [0, 1]⟩) (some d) t (.g t [.own p e l, .own p2 e2 l2]) = some ((((st.newRow (k + 1) (.arr p e l)).newRow (k + 2) (.arr p2 e2 l2))).set (some d) (.v (.g t [.own (k + 1), .own (k + 2)]))) := by
  obtain ⟨env, mem⟩ := st
  simp only at hd
  simp only [St.placeV, hd, and_self, if_true, ht]
  obtain ⟨a1, a2⟩ := a
  obtain ⟨b1, b2⟩ := b
  have h1 : ∀ (E : List SV) (M : List (Option Row)) v, d < E.length → (St.set ⟨E, M⟩ (some d) (.v (.g t v))).env.getD d U = .v (.g t v) := by
    intro E M v h; simp [St.set, List.getD, h]
  simp only [St.placeF, List.length_cons, List.length_nil, List.replicate]
  simp only [List.mem_cons, List.not_mem_nil, or_false, true_or, or_true, if_true, Nat.zero_add, Nat.add_zero]
  congr 1
  simp [St.setField, St.newRow, St.kill, St.map, St.putRow, St.set, List.getD, hd, List.map_set, SV.map, V1.map, At.kill]
end
end Go.Ev
end
section
set_option linter.unusedVariables false
namespace Go.Proofs.Ytficdonjodadlaa
open Go.Ev Go.Proofs
theorem place29 {st : St} {k d : Nat} {p p2 e e2 : Nat} {l l2 : List IV} (hd : d < st.env.length) :
    st.placeV tab (some ⟨k, [0, 1]⟩) (some d) 29 (.g 29 [.own p e l, .own p2 e2 l2]) = some ((((st.newRow (k + 1) (.arr p e l)).newRow (k + 2) (.arr p2 e2 l2))).set (some d) (.v (.g 29 [.own (k + 1), .own (k + 2)]))) := place_g2 rfl hd
attribute [go_sem] place29
end Go.Proofs.Ytficdonjodadlaa
end
section
set_option linter.unusedSimpArgs false
set_option linter.unusedVariables false
set_option maxRecDepth 100000
set_option maxHeartbeats 4000000
namespace Go.Proofs.Ytficdonjodadlaa
open Go.Ev Go.Proofs
theorem CP_len {n b e : IV} (h : CP n b e = 0) : (asL (fld e 1)).length = (insL n e).length := by
  unfold CP at h
  split at h
  · assumption
  · cases h
theorem AU_add {p : Prop} (h : p := by
  repeat' (first | (with_reducible refine condLt (fun h h' => ?_) (fun h h' => ?_)) | (with_reducible refine condLe (fun h h' => ?_) (fun h h' => ?_)) | (with_reducible refine dop_val ?_) | (with_reducible refine YsLt (fun h h' => ?_) (fun h h' => ?_)) | (with_reducible refine YsLe (fun h h' => ?_) (fun h h' => ?_)) | (with_reducible refine condP (fun h => ?_) (fun h => ?_)) | (with_reducible refine condN (fun h => ?_) (fun h => ?_)) | (with_reducible refine condB (fun h => ?_) (fun h => ?_)) | (with_reducible refine condR (fun h => ?_) (fun h => ?_)) | (with_reducible refine YsB (fun h => ?_) (fun h => ?_)) | (with_reducible refine YsC (fun h => ?_) (fun h => ?_)) | (with_reducible refine Ys_ite (fun h => ?_) (fun h => ?_)) | (intro h) | (with_reducible refine draw_look (by kernel_rfl) (by kernel_rfl) ?_) | (simp (maxDischargeDepth := 9) only [go_sem, Nat.reduceMul, Nat.reduceAdd, Nat.reduceLeDiff, Int.reduceSub, Int.reduceNeg, Int.reduceLT, Int.reduceLE, Int.reduceEq, *, check_ans, cpre_ans, clone_ans, outputs_ans, cls_len, ocs_len, pss_len, tgs_len, pvx, aC, aV, St.freezeL, Tab.ivL, Nat.le_refl]) | (exfalso; omega))) : p := h
theorem add_ans (ext : CallF) (k : Nat) (hN : ExN ext) (hE : ExC ext) (hU : ExU ext) (n b l : IV) (t : Int) (p q r : Nat) (hk : maxLen + (D0 + 52) ≤ k) (hnn : Ok n) (hb : Ok b) (hv : Ok l) (ht2 : t < 18446744073709551616) (hq : q ≠ 0) (hq2 : q ≤ 2) (hr : r ≠ 0) (hr2 : r ≤ 2) (hz : (asL (fld b 1)).length ≤ 1000000) (hzc : (asL (fld b 0)).length ≤ 100000) (hzp : (asL (fld n 1)).length ≤ 1000) (hig : IE n = 0 → NG n) (hpp : ∀ x ∈ (asL (fld b 1)), (∃ l, x = .A l) ∧ (asL (fld x 1)).length ≤ 100000 ∧ (asL (fld x 2)).length ≤ 100000) : ans (tab.run ext k) 22 [.iv p 25 n, .iv q 29 b, .int .i64 t, .iv r 46 l] 25 = some ([aR n b t l q r, .one (.at (.int .i64 (aE n b t l)))], [29, 34]) := by
  obtain ⟨k, rfl⟩ : ∃ k', k = k' + 1 := ⟨k - 1, by omega⟩
  have hk1 : maxLen < k := by omega
  have hk0 : 0 < k := by omega
  have hk_0 : maxLen + (20) ≤ k := by omega
  have hk_1 : maxLen + (4) ≤ k := by omega
  have hk_2 : maxLen + (D0 + 40) ≤ k := by omega
  have hk_3 : maxLen + (D0 + 48) ≤ k := by omega
  refine fn_run (fx := fx22) (m := 85) 89 rfl rfl rfl rfl (fun st hn hg hr => ?_)
  have g0 : st.get (.tmp 0) = .v (.a (.iv p 25 n)) := hg 0 (of_decide_eq_true rfl)
  have g1 : st.get (.tmp 1) = .v (.a (.iv q 29 b)) := hg 1 (of_decide_eq_true rfl)
  have g2 : st.get (.tmp 2) = .v (.a (.int .i64 t)) := hg 2 (of_decide_eq_true rfl)
  have g3 : st.get (.tmp 3) = .v (.a (.iv r 46 l)) := hg 3 (of_decide_eq_true rfl)
  have r0 := hr 0
  have r1 := hr 1
  have r2 := hr 2
  have r3 := hr 3
  have r4 := hr 4
  have r5 := hr 5
  have r6 := hr 6
  have r7 := hr 7
  have r8 := hr 8
  have r9 := hr 9
  have r10 := hr 10
  have r11 := hr 11
  have r12 := hr 12
  have r13 := hr 13
  have r14 := hr 14
  have r15 := hr 15
  have r16 := hr 16
  have r17 := hr 17
  have r18 := hr 18
  have r19 := hr 19
  have r20 := hr 20
  have r21 := hr 21
  have r22 := hr 22
  have r23 := hr 23
  have r24 := hr 24
  clear hg hr
  rw [co22]
  simp only [Try.f22, Option.getD_some]
  have hl0 := ok_len (ok_fld (j := 0) hb)
  have hl1 := ok_len (ok_fld (j := 1) hb)
  have hzc2 : (asL (fld b 0)).length ≤ 1000000 := by omega
  have hpv := fun i => pv_ne (q := q) (i := i) hq
  have hpa := mn_2 hq2
  have hps := fun i => pv_succ (q := q) (i := i) hq2
  have hqq := Nat.le_refl q
  have hck := check_ans ext k hN hE hU n b p q (by omega) hnn hb hq hz hzc2 hzp hig
  by_cases h1 : (CK n b).1 = 0
  case neg =>
    have ha : aE n b t l = (CK n b).1 := by unfold aE; rw [if_neg h1]
    have har := aR_no (q := q) (r := r) (n := n) (b := b) (t := t) (l := l) (by rw [ha]; exact h1)
    simp (maxDischargeDepth := 9) only [go_sem, Nat.reduceMul, Nat.reduceAdd, Nat.reduceLeDiff, Int.reduceSub, Int.reduceNeg, Int.reduceLT, Int.reduceLE, Int.reduceEq, *, check_ans, cpre_ans, clone_ans, outputs_ans, cls_len, ocs_len, pss_len, tgs_len, pvx, aC, aV, St.freezeL, Tab.ivL, Nat.le_refl, nE_eq]
    with_reducible refine draw_with [2] (by kernel_rfl) (by kernel_rfl) ?_
    simp (maxDischargeDepth := 9) only [go_sem, Nat.reduceMul, Nat.reduceAdd, Nat.reduceLeDiff, Int.reduceSub, Int.reduceNeg, Int.reduceLT, Int.reduceLE, Int.reduceEq, *, check_ans, cpre_ans, clone_ans, outputs_ans, cls_len, ocs_len, pss_len, tgs_len, pvx, aC, aV, St.freezeL, Tab.ivL, Nat.le_refl, nE_eq]
    with_reducible refine dop_valW ?_ ?_
    · simp only [St.keysOf, Op.operands, List.flatMap_cons, List.flatMap_nil, SV.keys, V1.keys, At.keys, go_sem, *]
      try rfl
    simp (maxDischargeDepth := 9) only [go_sem, Nat.reduceMul, Nat.reduceAdd, Nat.reduceLeDiff, Int.reduceSub, Int.reduceNeg, Int.reduceLT, Int.reduceLE, Int.reduceEq, *, check_ans, cpre_ans, clone_ans, outputs_ans, cls_len, ocs_len, pss_len, tgs_len, pvx, aC, aV, St.freezeL, Tab.ivL, Nat.le_refl]
    with_reducible refine dop_valW ?_ ?_
    · simp only [St.keysOf, Op.operands, List.flatMap_cons, List.flatMap_nil, SV.keys, V1.keys, At.keys, go_sem, *]
      try rfl
    simp (maxDischargeDepth := 9) only [go_sem, Nat.reduceMul, Nat.reduceAdd, Nat.reduceLeDiff, Int.reduceSub, Int.reduceNeg, Int.reduceLT, Int.reduceLE, Int.reduceEq, *, check_ans, cpre_ans, clone_ans, outputs_ans, cls_len, ocs_len, pss_len, tgs_len, pvx, aC, aV, St.freezeL, Tab.ivL, Nat.le_refl]
    with_reducible refine dop_valW ?_ ?_
    · simp only [St.keysOf, Op.operands, List.flatMap_cons, List.flatMap_nil, SV.keys, V1.keys, At.keys, go_sem, *]
      try rfl
    simp (maxDischargeDepth := 9) only [go_sem, Nat.reduceMul, Nat.reduceAdd, Nat.reduceLeDiff, Int.reduceSub, Int.reduceNeg, Int.reduceLT, Int.reduceLE, Int.reduceEq, *, check_ans, cpre_ans, clone_ans, outputs_ans, cls_len, ocs_len, pss_len, tgs_len, pvx, aC, aV, St.freezeL, Tab.ivL, Nat.le_refl]
    with_reducible refine dop_eff (by kernel_rfl) rfl ?_
    simp (maxDischargeDepth := 9) only [go_sem, Nat.reduceMul, Nat.reduceAdd, Nat.reduceLeDiff, Int.reduceSub, Int.reduceNeg, Int.reduceLT, Int.reduceLE, Int.reduceEq, *, check_ans, cpre_ans, clone_ans, outputs_ans, cls_len, ocs_len, pss_len, tgs_len, pvx, aC, aV, St.freezeL, Tab.ivL, Nat.le_refl, Tab.eff]
    with_reducible refine dop_valW ?_ ?_
    · simp only [St.keysOf, Op.operands, List.flatMap_cons, List.flatMap_nil, SV.keys, V1.keys, At.keys, go_sem, *]
      try rfl
    simp (maxDischargeDepth := 9) only [go_sem, Nat.reduceMul, Nat.reduceAdd, Nat.reduceLeDiff, Int.reduceSub, Int.reduceNeg, Int.reduceLT, Int.reduceLE, Int.reduceEq, *, check_ans, cpre_ans, clone_ans, outputs_ans, cls_len, ocs_len, pss_len, tgs_len, pvx, aC, aV, St.freezeL, Tab.ivL, Nat.le_refl]
  have hg := hig (CK_IE h1)
  by_cases h2 : t < 0 ∨ ((asL (fld n 2)).length : Int) ≤ t
  case pos =>
    have ha : aE n b t l = 7 := by unfold aE; rw [if_pos h1, if_pos (by rcases h2 with h2 | h2 <;> simp [h2])]
    have har := aR_no (q := q) (r := r) (n := n) (b := b) (t := t) (l := l) (by rw [ha]; decide)
    simp (maxDischargeDepth := 9) only [go_sem, Nat.reduceMul, Nat.reduceAdd, Nat.reduceLeDiff, Int.reduceSub, Int.reduceNeg, Int.reduceLT, Int.reduceLE, Int.reduceEq, *, check_ans, cpre_ans, clone_ans, outputs_ans, cls_len, ocs_len, pss_len, tgs_len, pvx, aC, aV, St.freezeL, Tab.ivL, Nat.le_refl, nE_eq]
    repeat' (first | (with_reducible refine condLt (fun h h' => ?_) (fun h h' => ?_)) | (with_reducible refine condLe (fun h h' => ?_) (fun h h' => ?_)) | (with_reducible refine dop_val ?_) | (with_reducible refine YsLt (fun h h' => ?_) (fun h h' => ?_)) | (with_reducible refine YsLe (fun h h' => ?_) (fun h h' => ?_)) | (with_reducible refine condP (fun h => ?_) (fun h => ?_)) | (with_reducible refine condN (fun h => ?_) (fun h => ?_)) | (with_reducible refine condB (fun h => ?_) (fun h => ?_)) | (with_reducible refine condR (fun h => ?_) (fun h => ?_)) | (with_reducible refine YsB (fun h => ?_) (fun h => ?_)) | (with_reducible refine YsC (fun h => ?_) (fun h => ?_)) | (with_reducible refine Ys_ite (fun h => ?_) (fun h => ?_)) | (intro h) | (with_reducible refine draw_look (by kernel_rfl) (by kernel_rfl) ?_) | (simp (maxDischargeDepth := 9) only [go_sem, Nat.reduceMul, Nat.reduceAdd, Nat.reduceLeDiff, Int.reduceSub, Int.reduceNeg, Int.reduceLT, Int.reduceLE, Int.reduceEq, *, check_ans, cpre_ans, clone_ans, outputs_ans, cls_len, ocs_len, pss_len, tgs_len, pvx, aC, aV, St.freezeL, Tab.ivL, Nat.le_refl, nE_eq]) | (exfalso; omega))
  have h2a : 0 ≤ t := by omega
  have h2b : t < ((asL (fld n 2)).length : Int) := by omega
  have ht := hg.t1 h2a h2b
  have hs1 := hg.l1 h2a h2b
  have hs2 := hg.l2 h2a h2b
  have hin := hg.in1 (e := nE t l) (by rw [nE_0]; exact h2a) (by rw [nE_0]; exact h2b)
  have hpb := mn_2 hr2
  have hcp := cpre_ans ext k hN hE hU n b (nE t l) p q r (by omega) hnn hb hq (ok_nE (by omega) hv) hz (by omega) (by rw [nE_0]; exact ht) (by rw [nE_0]; exact hs1) hin
  by_cases h3 : CP n b (nE t l) = 0
  case neg =>
    have ha : aE n b t l = 7 := by unfold aE; rw [if_pos h1, if_pos (by simp [h3])]
    have har := aR_no (q := q) (r := r) (n := n) (b := b) (t := t) (l := l) (by rw [ha]; decide)
    simp (maxDischargeDepth := 9) only [go_sem, Nat.reduceMul, Nat.reduceAdd, Nat.reduceLeDiff, Int.reduceSub, Int.reduceNeg, Int.reduceLT, Int.reduceLE, Int.reduceEq, *, check_ans, cpre_ans, clone_ans, outputs_ans, cls_len, ocs_len, pss_len, tgs_len, pvx, aC, aV, St.freezeL, Tab.ivL, Nat.le_refl, nE_eq]
    repeat' (first | (with_reducible refine condLt (fun h h' => ?_) (fun h h' => ?_)) | (with_reducible refine condLe (fun h h' => ?_) (fun h h' => ?_)) | (with_reducible refine dop_val ?_) | (with_reducible refine YsLt (fun h h' => ?_) (fun h h' => ?_)) | (with_reducible refine YsLe (fun h h' => ?_) (fun h h' => ?_)) | (with_reducible refine condP (fun h => ?_) (fun h => ?_)) | (with_reducible refine condN (fun h => ?_) (fun h => ?_)) | (with_reducible refine condB (fun h => ?_) (fun h => ?_)) | (with_reducible refine condR (fun h => ?_) (fun h => ?_)) | (with_reducible refine YsB (fun h => ?_) (fun h => ?_)) | (with_reducible refine YsC (fun h => ?_) (fun h => ?_)) | (with_reducible refine Ys_ite (fun h => ?_) (fun h => ?_)) | (intro h) | (with_reducible refine draw_look (by kernel_rfl) (by kernel_rfl) ?_) | (simp (maxDischargeDepth := 9) only [go_sem, Nat.reduceMul, Nat.reduceAdd, Nat.reduceLeDiff, Int.reduceSub, Int.reduceNeg, Int.reduceLT, Int.reduceLE, Int.reduceEq, *, check_ans, cpre_ans, clone_ans, outputs_ans, cls_len, ocs_len, pss_len, tgs_len, pvx, aC, aV, St.freezeL, Tab.ivL, Nat.le_refl, nE_eq]) | (exfalso; omega))
  by_cases h4 : (2000 : Int) ≤ ((asL (fld b 1)).length : Int)
  case pos =>
    have ha : aE n b t l = 2 := by unfold aE; rw [if_pos h1, if_neg (by simp only [not_or]; exact ⟨by omega, by omega, by simp [h3]⟩), if_pos h4]
    have har := aR_no (q := q) (r := r) (n := n) (b := b) (t := t) (l := l) (by rw [ha]; decide)
    simp (maxDischargeDepth := 9) only [go_sem, Nat.reduceMul, Nat.reduceAdd, Nat.reduceLeDiff, Int.reduceSub, Int.reduceNeg, Int.reduceLT, Int.reduceLE, Int.reduceEq, *, check_ans, cpre_ans, clone_ans, outputs_ans, cls_len, ocs_len, pss_len, tgs_len, pvx, aC, aV, St.freezeL, Tab.ivL, Nat.le_refl, nE_eq]
    repeat' (first | (with_reducible refine condLt (fun h h' => ?_) (fun h h' => ?_)) | (with_reducible refine condLe (fun h h' => ?_) (fun h h' => ?_)) | (with_reducible refine dop_val ?_) | (with_reducible refine YsLt (fun h h' => ?_) (fun h h' => ?_)) | (with_reducible refine YsLe (fun h h' => ?_) (fun h h' => ?_)) | (with_reducible refine condP (fun h => ?_) (fun h => ?_)) | (with_reducible refine condN (fun h => ?_) (fun h => ?_)) | (with_reducible refine condB (fun h => ?_) (fun h => ?_)) | (with_reducible refine condR (fun h => ?_) (fun h => ?_)) | (with_reducible refine YsB (fun h => ?_) (fun h => ?_)) | (with_reducible refine YsC (fun h => ?_) (fun h => ?_)) | (with_reducible refine Ys_ite (fun h => ?_) (fun h => ?_)) | (intro h) | (with_reducible refine draw_look (by kernel_rfl) (by kernel_rfl) ?_) | (simp (maxDischargeDepth := 9) only [go_sem, Nat.reduceMul, Nat.reduceAdd, Nat.reduceLeDiff, Int.reduceSub, Int.reduceNeg, Int.reduceLT, Int.reduceLE, Int.reduceEq, *, check_ans, cpre_ans, clone_ans, outputs_ans, cls_len, ocs_len, pss_len, tgs_len, pvx, aC, aV, St.freezeL, Tab.ivL, Nat.le_refl, nE_eq]) | (exfalso; omega))
  have ha : aE n b t l = 0 := by unfold aE; rw [if_pos h1, if_neg (by simp only [not_or]; exact ⟨by omega, by omega, by simp [h3]⟩), if_neg h4]
  have har := aR_ok (q := q) (r := r) (n := n) (b := b) (t := t) (l := l) ha
  clear hin
  have hclo := clone_ans ext k b q (by omega) hb hq hq2 hz (by omega) hpp
  have h2c : ¬ t < 0 := by omega
  have h2d : ¬ ((asL (fld n 2)).length : Int) ≤ t := by omega
  have hll : (asL l).length ≤ 100000 := by
    have hc : (asL l).length = (insL n (nE t l)).length := CP_len h3
    have hc2 : (insL n (nE t l)).length = (asL (fld (el (asL (fld n 2)) t) 1)).length := tgs_len
    omega
  have hll2 : (asL l).length ≤ 1000000 := by omega
  have hol : (asL (fld (el (asL (fld n 2)) t) 2)).length ≤ 100000 := hs2
  have hol2 : (asL (fld (el (asL (fld n 2)) t) 2)).length ≤ maxLen := Nat.le_trans hol (by unfold maxLen; omega)
  have hev : (asL (fld b 1)).length + 1 ≤ 1000000 := by omega
  have hpx : (if pv q (asL (fld b 1)).length ≤ r then pv q (asL (fld b 1)).length else r) ≠ 0 := by split; exact hpv _; exact hr
  simp (maxDischargeDepth := 9) only [go_sem, Nat.reduceMul, Nat.reduceAdd, Nat.reduceLeDiff, Int.reduceSub, Int.reduceNeg, Int.reduceLT, Int.reduceLE, Int.reduceEq, *, check_ans, cpre_ans, clone_ans, outputs_ans, cls_len, ocs_len, pss_len, tgs_len, pvx, aC, aV, St.freezeL, Tab.ivL, Nat.le_refl, nE_eq]
  refine gen_st (fun s0 hg hr hn0 => ?_)
  have e5 := hg 5
  have e8 := hg 8
  have e9 := hg 9
  have e11 := hg 11
  have e12 := hg 12
  have e57 := hg 57
  have e58 := hg 58
  have e59 := hg 59
  have q0 := hr 0
  have q1 := hr 1
  have q2 := hr 2
  have q3 := hr 3
  have q4 := hr 4
  have q5 := hr 5
  have q6 := hr 6
  have q7 := hr 7
  have q10 := hr 10
  have q12 := hr 12
  have q13 := hr 13
  have q14 := hr 14
  have q21 := hr 21
  clear hg hr
  simp (maxDischargeDepth := 9) only [go_sem, *] at hn0 e5 e8 e9 e11 e12 e57 e58 e59 q0 q1 q2 q3 q4 q5 q6 q7 q10 q12 q13 q14 q21
  refine nr (runs_forN (asL (fld (el (asL (fld n 2)) t) 2)).length (fun (_ : Unit) _ => Stp.next (ρ := Unit) ()) () 89 (fun i a => [(5, s0.get (.tmp 5)), (8, s0.get (.tmp 8)), (9, s0.get (.tmp 9)), (11, s0.get (.tmp 11)), (12, s0.get (.tmp 12)), (57, s0.get (.tmp 57)), (58, s0.get (.tmp 58)), (59, .v (.a (.int .i64 (i : Nat))))]) (fun i a => [(0, s0.row 0), (1, s0.row 1), (2, s0.row 2), (3, s0.row 3), (12, s0.row 12), (13, s0.row 13), (14, s0.row 14), (21, s0.row 21), (4, some (.box false 29 [0, 1] (.g 29 [.own 5, .own 6]))), (5, some (.arr q 54 ((asL (fld b 0)) ++ ocs n b t i))), (6, some (.arr (pv q (asL (fld b 1)).length) 56 (cls b (asL (fld b 1)).length))), (7, some (.box false 56 [2] (.g 56 [.int .i64 t, .iv r 46 (.L (asL l)), .own 10, .bool false]))), (10, some (.arr 2 3 (pss b i)))]) (fun i a => True) (by omega) ?_ (trivial) ?_ ?_ ?_ ?_)
  · simp (maxDischargeDepth := 9) only [go_sem, Nat.reduceMul, Nat.reduceAdd, Nat.reduceLeDiff, Int.reduceSub, Int.reduceNeg, Int.reduceLT, Int.reduceLE, Int.reduceEq, *, check_ans, cpre_ans, clone_ans, outputs_ans, cls_len, ocs_len, pss_len, tgs_len, pvx, aC, aV, St.freezeL, Tab.ivL, Nat.le_refl]
  · intro i a; simp (maxDischargeDepth := 9) only [go_sem, Nat.reduceMul, Nat.reduceAdd, Nat.reduceLeDiff, Int.reduceSub, Int.reduceNeg, Int.reduceLT, Int.reduceLE, Int.reduceEq, *, check_ans, cpre_ans, clone_ans, outputs_ans, cls_len, ocs_len, pss_len, tgs_len, pvx, aC, aV, St.freezeL, Tab.ivL, Nat.le_refl]
  · intro i a; simp (maxDischargeDepth := 9) only [go_sem, Nat.reduceMul, Nat.reduceAdd, Nat.reduceLeDiff, Int.reduceSub, Int.reduceNeg, Int.reduceLT, Int.reduceLE, Int.reduceEq, *, check_ans, cpre_ans, clone_ans, outputs_ans, cls_len, ocs_len, pss_len, tgs_len, pvx, aC, aV, St.freezeL, Tab.ivL, Nat.le_refl]
  · intro i a s hi hI hS
    clear hn0 e59 q4 q5 q6 q7 q10
    simp only [go_sem] at hS
    obtain ⟨f5, f8, f9, f11, f12, f57, f58, f59, m0, m1, m2, m3, m12, m13, m14, m21, m4, m5, m6, m7, m10, hn⟩ := hS
    have hw := wrap_succ hi (hol2)
    have hoc := ocs_succ (n := n) (b := b) (t := t) (i := i)
    have hpsu := pss_succ (b := b) (i := i)
    have hoi : i + 1 ≤ 1000000 := by omega
    have hoj : (asL (fld b 0)).length + i + 1 ≤ 1000000 := by omega
    refine rn ?_
    simp (maxDischargeDepth := 9) only [go_sem, Nat.reduceMul, Nat.reduceAdd, Nat.reduceLeDiff, Int.reduceSub, Int.reduceNeg, Int.reduceLT, Int.reduceLE, Int.reduceEq, *, check_ans, cpre_ans, clone_ans, outputs_ans, cls_len, ocs_len, pss_len, tgs_len, pvx, aC, aV, St.freezeL, Tab.ivL, Nat.le_refl]
    all_goals exact AU_add
  · intro a s hI hf hS
    clear hn0 e59 q4 q5 q6 q7 q10
    simp only [go_sem] at hS
    obtain ⟨f5, f8, f9, f11, f12, f57, f58, f59, m0, m1, m2, m3, m12, m13, m14, m21, m4, m5, m6, m7, m10, hn⟩ := hS
    try simp only [go_sem] at hf
    refine rn ?_
    simp (maxDischargeDepth := 9) only [go_sem, Nat.reduceMul, Nat.reduceAdd, Nat.reduceLeDiff, Int.reduceSub, Int.reduceNeg, Int.reduceLT, Int.reduceLE, Int.reduceEq, *, check_ans, cpre_ans, clone_ans, outputs_ans, cls_len, ocs_len, pss_len, tgs_len, pvx, aC, aV, St.freezeL, Tab.ivL, Nat.le_refl]
    all_goals exact AU_add
end Go.Proofs.Ytficdonjodadlaa
end
section
set_option linter.unusedVariables false
namespace Go.Ev
def rst (pl : Int) (left : List IV) : List IV := left.foldl (fun acc x => if asI x = pl then acc else acc ++ [.I (asI x)]) []
theorem rst_eq {pl : Int} {left r : List IV} (h : left.foldl (fun acc x => if asI x = pl then acc else acc ++ [.I (asI x)]) [] = r) : r = rst pl left := h.symm
theorem rst_len {pl : Int} : ∀ {left : List IV}, (rst pl left).length ≤ left.length := by
  intro left
  have key : ∀ (l : List IV) (acc : List IV), (l.foldl (fun acc x => if asI x = pl then acc else acc ++ [.I (asI x)]) acc).length ≤ acc.length + l.length := by
    intro l
    induction l with
    | nil => intro acc; simp
    | cons x l ih =>
      intro acc
      rw [List.foldl_cons]
      refine Nat.le_trans (ih _) ?_
      split
      · simp only [List.length_cons]; omega
      · rw [List.length_append]; simp only [List.length_cons, List.length_nil]; omega
  have := key left []
  simpa [rst] using this
theorem rst_lt {pl : Int} {left : List IV} (h : (left.any fun x => decide (asI x = pl)) = true) : (rst pl left).length < left.length := by
  have key : ∀ (l : List IV) (acc : List IV), (l.any fun x => decide (asI x = pl)) = true → (l.foldl (fun acc x => if asI x = pl then acc else acc ++ [.I (asI x)]) acc).length < acc.length + l.length := by
    intro l
    induction l with
    | nil => intro acc h; simp at h
    | cons x l ih =>
      intro acc h
      have kl : ∀ (l : List IV) (acc : List IV), (l.foldl (fun acc x => if asI x = pl then acc else acc ++ [.I (asI x)]) acc).length ≤ acc.length + l.length := by
        intro l
        induction l with
        | nil => intro acc; simp
        | cons x l ih =>
          intro acc
          rw [List.foldl_cons]
          refine Nat.le_trans (ih _) ?_
          split
          · simp only [List.length_cons]; omega
          · rw [List.length_append]; simp only [List.length_cons, List.length_nil]; omega
      rw [List.foldl_cons]
      by_cases hx : asI x = pl
      · rw [if_pos hx]
        have := kl l acc
        simp only [List.length_cons]; omega
      · rw [if_neg hx]
        rw [List.any_cons, decide_eq_false hx, Bool.false_or] at h
        have := ih (acc ++ [.I (asI x)]) h
        rw [List.length_append] at this
        simp only [List.length_cons, List.length_nil] at this ⊢; omega
  have := key left [] h
  simpa [rst] using this
theorem rst_mem {pl : Int} {left : List IV} {x : IV} (hl : ∀ x ∈ left, ∃ z, x = .I z) : x ∈ rst pl left ↔ x ∈ left ∧ asI x ≠ pl := by
  have key : ∀ (l : List IV) (acc : List IV), (∀ x ∈ l, ∃ z, x = .I z) → (x ∈ l.foldl (fun acc x => if asI x = pl then acc else acc ++ [.I (asI x)]) acc ↔ x ∈ acc ∨ (x ∈ l ∧ asI x ≠ pl)) := by
    intro l
    induction l with
    | nil => intro acc _; simp
    | cons y l ih =>
      intro acc h
      obtain ⟨z, rfl⟩ := h y (List.mem_cons_self ..)
      rw [List.foldl_cons, ih _ (fun x hx => h x (List.mem_cons_of_mem _ hx))]
      by_cases hy : asI (.I z) = pl
      · rw [if_pos hy]
        constructor
        · rintro (h | ⟨h1, h2⟩)
          · exact .inl h
          · exact .inr ⟨List.mem_cons_of_mem _ h1, h2⟩
        · rintro (h | ⟨h1, h2⟩)
          · exact .inl h
          · rcases List.mem_cons.1 h1 with rfl | h1
            · exact absurd hy h2
            · exact .inr ⟨h1, h2⟩
      · rw [if_neg hy, List.mem_append]
        constructor
        · rintro ((h | h) | ⟨h1, h2⟩)
          · exact .inl h
          · rw [List.mem_singleton.1 h]; exact .inr ⟨List.mem_cons_self .., hy⟩
          · exact .inr ⟨List.mem_cons_of_mem _ h1, h2⟩
        · rintro (h | ⟨h1, h2⟩)
          · exact .inl (.inl h)
          · rcases List.mem_cons.1 h1 with rfl | h1
            · exact .inl (.inr (List.mem_singleton_self _))
            · exact .inr ⟨h1, h2⟩
  have := key left [] hl
  simpa [rst] using this
def frL (l : List IV) : Nat := if l = [] then 0 else (asI (l.getD (l.length - 1) .N)).toNat + 1
noncomputable def cho (b : IV) : Nat → List IV → List IV → List IV
  | 0, left, l => if left = [] then [.L l] else []
  | d + 1, left, l => if left = [] then [.L l] else (List.range ((asL (fld b 0)).length - frL l)).flatMap fun j => if (left.any fun x => decide (asI x = plo b (frL l + j))) = true then (if FT b (.L l) ((frL l + j : Nat) : Int) = true then cho b d (rst (plo b (frL l + j)) left) (l ++ [.I ((frL l + j : Nat) : Int)]) else []) else []
noncomputable def cxo (b : IV) (d : Nat) (left l : List IV) (c : Nat) : List IV := if (left.any fun x => decide (asI x = plo b c)) = true then (if FT b (.L l) (c : Int) = true then cho b d (rst (plo b c) left) (l ++ [.I (c : Int)]) else []) else []
noncomputable def ctl (b : IV) (d : Nat) (left l : List IV) (c : Nat) : List IV := (List.range ((asL (fld b 0)).length - c)).flatMap fun j => cxo b d left l (c + j)
theorem cho_nil {b : IV} {d : Nat} {l : List IV} : cho b d [] l = [.L l] := by cases d <;> rfl
theorem cho_succ {b : IV} {d : Nat} {left l : List IV} (h : left ≠ []) : cho b (d + 1) left l = ctl b d left l (frL l) := by
  show (if left = [] then _ else _) = _
  rw [if_neg h]; rfl
theorem ctl_end {b : IV} {d : Nat} {left l : List IV} {c : Nat} (h : (asL (fld b 0)).length ≤ c) : ctl b d left l c = [] := by
  unfold ctl; rw [show (asL (fld b 0)).length - c = 0 by omega]; rfl
theorem ctl_step {b : IV} {d : Nat} {left l : List IV} {c : Nat} (h : c < (asL (fld b 0)).length) : ctl b d left l c = cxo b d left l c ++ ctl b d left l (c + 1) := by
  unfold ctl
  rw [show (asL (fld b 0)).length - c = ((asL (fld b 0)).length - (c + 1)) + 1 by omega, List.range_succ_eq_map, List.flatMap_cons, List.flatMap_map, Nat.add_zero]
  congr 1
  funext
  congr 1
  funext j
  rw [show c + (j + 1) = c + 1 + j by omega]
def ExCh (ext : CallF) : Prop := ∀ (b : IV) (left : List IV) (p z : Nat), p ≠ 0 → Ok b → FD b = true → (asL (fld b 1)).length ≤ 1000000 → (asL (fld b 0)).length ≤ 100000 → left.length ≤ 500 → Ok (.L left) → (∀ x ∈ left, ∃ n, x = .I n) → (cho b left.length left []).length ≤ 1000000 → ans ext 46 [.iv p 29 b, .iv z 46 (.L left)] 0 = some ([.one (.own 2 46 (cho b left.length left []))], [44])
end Go.Ev
end
section
set_option linter.unusedVariables false
set_option maxRecDepth 100000
namespace Go.Ev
def exA : IV := .L [.A [.I 0, .I 1]]
def exN : IV := .A [.S ⟨#[110]⟩, .L [.A [.S ⟨#[112]⟩, .I 1, .I 0]], .L [.A [.S ⟨#[97]⟩, exA, .N, .N, .I 0], .A [.S ⟨#[98]⟩, exA, .N, .N, .I 0]]]
def exC : IV := .A [.I 0, .I (-1)]
def exE (t : Int) : IV := .A [.I t, .L [.I 0], .L [], .B false]
def exB0 : IV := .A [.L [exC], .N]
def exB1 : IV := .A [.L [exC], .L [exE 0]]
def exB2 : IV := .A [.L [exC], .L [exE 0, exE 1]]
theorem ex_IE : IE exN = 0 := by kernel_rfl
theorem ex_VN : VN exN = true := by kernel_rfl
theorem ex_aE0 : aE exN exB0 0 (.L [.I 0]) = 0 := by kernel_rfl
theorem ex_aE1 : aE exN exB1 1 (.L [.I 0]) = 0 := by kernel_rfl
theorem ex_ch : chO exB0 0 1 = [.L [.I 0]] := by kernel_rfl
theorem ex_cho : cho exB0 [IV.I 0].length [.I 0] [] = chO exB0 0 1 := by kernel_rfl
theorem ex_PS : PS exN exB0 (fun _ => chO exB0 0 1) = [.L [.I 0, .I 0], .L [.I 1, .I 0]] := by kernel_rfl
theorem ex_ib : ibR exN = .g 29 [.at (.iv 2 26 (.L [exC])), .at (.iv 2 27 .N)] := by kernel_rfl
theorem ex_aR0 : aR exN exB0 0 (.L [.I 0]) 2 2 = .g 29 [.at (.iv 2 26 (.L [exC])), .at (.iv 2 27 (.L [exE 0]))] := by kernel_rfl
theorem ex_aR1 : aR exN exB1 1 (.L [.I 0]) 2 2 = .g 29 [.at (.iv 2 26 (.L [exC])), .at (.iv 2 27 (.L [exE 0, exE 1]))] := by kernel_rfl
theorem ex_tg : ∀ i, i < 2 → tgs (fld ((asL (fld exN 2)).getD i .N) 1) (asL (fld ((asL (fld exN 2)).getD i .N) 1)).length = [.I 0]
  | 0, _ => by kernel_rfl
  | 1, _ => by kernel_rfl
theorem ex_IN0 : IN exB2 0 = true := by kernel_rfl
theorem ex_IN1 : IN exB2 1 = true := by kernel_rfl
theorem ex_FD0 : FD exB0 = true := by kernel_rfl
theorem ex_refl {b : IV} {e : Nat} : hist b (e : Int) e = true := by
  have h : Rch b e e := .refl
  simp [hist, h]
theorem ex_CL : CLf exB2 (hist exB2 0) (hist exB2 1) = true := by
  have h0 := ex_refl (b := exB2) (e := 0)
  have h1 := ex_refl (b := exB2) (e := 1)
  unfold CLf
  refine List.any_eq_true.2 ⟨0, by simp [exB2, fld, asL], List.any_eq_true.2 ⟨1, by simp [exB2, fld, asL], ?_⟩⟩
  rw [show ((0 : Nat) : Int) = 0 from rfl] at h0
  rw [show ((1 : Nat) : Int) = 1 from rfl] at h1
  rw [h0, h1]
  kernel_rfl
theorem ex_conf : (IN exB2 0 && IN exB2 1 && CLf exB2 (hist exB2 0) (hist exB2 1)) = true := by rw [ex_IN0, ex_IN1, ex_CL]; rfl
theorem okI {n : Int} (h : -1 ≤ n ∧ n ≤ 1000) : Ok (.I n) := .I (by omega)
theorem okLs {l : List IV} (h : l.length ≤ 1000) (hr : ∀ x ∈ l, Ok x) : Ok (.L l) := .L (by unfold maxLen; omega) hr
theorem ex_okA : Ok exA := okLs (by decide) (by
  intro x hx; simp only [List.mem_cons, List.not_mem_nil, or_false] at hx; subst hx
  exact .A (by intro x hx; simp only [List.mem_cons, List.not_mem_nil, or_false] at hx; rcases hx with rfl | rfl <;> exact okI (by omega)))
theorem ex_okN : Ok exN := by
  refine .A (fun x hx => ?_)
  simp only [List.mem_cons, List.not_mem_nil, or_false] at hx
  rcases hx with rfl | rfl | rfl
  · exact .S
  · refine okLs (by decide) (fun x hx => ?_)
    simp only [List.mem_cons, List.not_mem_nil, or_false] at hx; subst hx
    refine .A (fun x hx => ?_)
    simp only [List.mem_cons, List.not_mem_nil, or_false] at hx
    rcases hx with rfl | rfl | rfl
    · exact .S
    · exact okI (by omega)
    · exact okI (by omega)
  · refine okLs (by decide) (fun x hx => ?_)
    simp only [List.mem_cons, List.not_mem_nil, or_false] at hx
    rcases hx with rfl | rfl <;>
    · refine .A (fun x hx => ?_)
      simp only [List.mem_cons, List.not_mem_nil, or_false] at hx
      rcases hx with rfl | rfl | rfl | rfl | rfl
      · exact .S
      · exact ex_okA
      · exact .N
      · exact .N
      · exact okI (by omega)
theorem ex_okC : Ok exC := .A (by intro x hx; simp only [List.mem_cons, List.not_mem_nil, or_false] at hx; rcases hx with rfl | rfl <;> exact okI (by omega))
theorem ex_okl : Ok (.L [.I 0]) := okLs (by decide) (by intro x hx; simp only [List.mem_cons, List.not_mem_nil, or_false] at hx; subst hx; exact okI (by omega))
theorem ex_okE {t : Int} (h : 0 ≤ t ∧ t ≤ 1) : Ok (exE t) := by
  refine .A (fun x hx => ?_)
  simp only [List.mem_cons, List.not_mem_nil, or_false] at hx
  rcases hx with rfl | rfl | rfl | rfl
  · exact okI (by omega)
  · exact ex_okl
  · exact okLs (by decide) (fun x hx => by cases hx)
  · exact .B
theorem ex_okB {l : List IV} (h : l.length ≤ 1000) (hr : ∀ x ∈ l, Ok x) : Ok (.A [.L [exC], .L l]) := by
  refine .A (fun x hx => ?_)
  simp only [List.mem_cons, List.not_mem_nil, or_false] at hx
  rcases hx with rfl | rfl
  · exact okLs (by decide) (fun x hx => by simp only [List.mem_cons, List.not_mem_nil, or_false] at hx; subst hx; exact ex_okC)
  · exact okLs h hr
theorem ex_okB0 : Ok exB0 := by
  refine .A (fun x hx => ?_)
  simp only [List.mem_cons, List.not_mem_nil, or_false] at hx
  rcases hx with rfl | rfl
  · exact okLs (by decide) (fun x hx => by simp only [List.mem_cons, List.not_mem_nil, or_false] at hx; subst hx; exact ex_okC)
  · exact .N
theorem ex_okB1 : Ok exB1 := ex_okB (by decide) (fun x hx => by simp only [List.mem_cons, List.not_mem_nil, or_false] at hx; subst hx; exact ex_okE (by omega))
theorem ex_okB2 : Ok exB2 := ex_okB (by decide) (fun x hx => by simp only [List.mem_cons, List.not_mem_nil, or_false] at hx; rcases hx with rfl | rfl <;> exact ex_okE (by omega))
theorem ex_NG : NG exN := by
  refine ⟨ex_VN, ?_, by decide, by decide, ?_⟩
  · intro t ht
    have : t ∈ [IV.A [.S ⟨#[97]⟩, exA, .N, .N, .I 0], .A [.S ⟨#[98]⟩, exA, .N, .N, .I 0]] := ht
    simp only [List.mem_cons, List.not_mem_nil, or_false] at this
    rcases this with rfl | rfl <;> exact ⟨by decide, by decide⟩
  · intro t ht x hx
    have : t ∈ [IV.A [.S ⟨#[97]⟩, exA, .N, .N, .I 0], .A [.S ⟨#[98]⟩, exA, .N, .N, .I 0]] := ht
    simp only [List.mem_cons, List.not_mem_nil, or_false] at this
    have hx2 : x ∈ [IV.A [.I 0, .I 1]] := by rcases this with rfl | rfl <;> exact hx
    simp only [List.mem_cons, List.not_mem_nil, or_false] at hx2
    subst hx2
    exact ⟨by decide, by decide⟩
theorem ex_pp0 : ∀ x ∈ asL (fld exB0 1), (∃ l, x = .A l) ∧ (asL (fld x 1)).length ≤ 100000 ∧ (asL (fld x 2)).length ≤ 100000 := by intro x hx; cases hx
theorem ex_pp1 : ∀ x ∈ asL (fld exB1 1), (∃ l, x = .A l) ∧ (asL (fld x 1)).length ≤ 100000 ∧ (asL (fld x 2)).length ≤ 100000 := by
  intro x hx
  have : x ∈ [exE 0] := hx
  simp only [List.mem_cons, List.not_mem_nil, or_false] at this
  subst this
  exact ⟨⟨_, rfl⟩, by decide, by decide⟩
theorem exN_eq : IV.A [.S ⟨#[110]⟩, .L [.A [.S ⟨#[112]⟩, .I 1, .I 0]], .L [.A [.S ⟨#[97]⟩, .L [.A [.I 0, .I 1]], .N, .N, .I 0], .A [.S ⟨#[98]⟩, .L [.A [.I 0, .I 1]], .N, .N, .I 0]]] = exN := (rfl)
theorem exB0_eq : IV.A [.L [exC], .N] = exB0 := (rfl)
theorem exB1_eq : IV.A [.L [exC], .L [exE 0]] = exB1 := (rfl)
theorem exB2_eq : IV.A [.L [exC], .L [exE 0, exE 1]] = exB2 := (rfl)
end Go.Ev
end
section
set_option linter.unusedSimpArgs false
set_option linter.unusedVariables false
set_option maxRecDepth 100000
set_option maxHeartbeats 4000000
namespace Go.Proofs.Ytficdonjodadlaa
open Go.Ev Go.Proofs
theorem example_ans (ext : CallF) (k : Nat) (hN : ExN ext) (hE : ExC ext) (hU : ExU ext) (hCh : ExCh ext) (hk : maxLen + (D0 + 60) ≤ k) : ans (tab.run ext k) 12 [] 2 = some ([.one (.at (.bool true))], [4]) := by
  obtain ⟨k, rfl⟩ : ∃ k', k = k' + 1 := ⟨k - 1, by omega⟩
  have hk1 : maxLen < k := by omega
  have hk0 : 0 < k := by omega
  have hk_0 : maxLen + (24) ≤ k := by omega
  have hk_1 : maxLen + (D0 + 20) ≤ k := by omega
  have hk_2 : maxLen + (D0 + 52) ≤ k := by omega
  refine fn_run (fx := fx12) (m := 51) 51 rfl rfl rfl rfl (fun st hn hg hr => ?_)
  have r0 := hr 0
  have r1 := hr 1
  clear hg hr
  rw [co12]
  simp only [Try.f12, Option.getD_some]
  have hD := D0_ge
  have e_0 := initial_ans ext k hN exN 2 (by omega) ex_okN (by decide)
  rw [ex_ib, ex_IE] at e_0
  have e_1 := possible_ans ext k hN hE hU exN exB0 2 2 (fun _ => chO exB0 0 1) (by omega) ex_okN ex_okB0 (by decide) (by decide) (by decide) (by decide) (fun _ => ex_NG) (by decide) (fun _ i => by rw [ex_ch]; decide) (fun i u hu => by rw [ex_ch] at hu; simp only [List.mem_cons, List.not_mem_nil, or_false] at hu; subst hu; decide) (fun _ i hi => by
    rw [ex_tg i hi, ← ex_cho]
    exact hCh exB0 [.I 0] 2 2 (by decide) ex_okB0 ex_FD0 (by decide) (by decide) (by decide) ex_okl (fun x hx => ⟨0, List.mem_singleton.1 hx⟩) (by rw [ex_cho, ex_ch]; decide))
  rw [ex_PS] at e_1
  have e_2 := add_ans ext k hN hE hU exN exB0 (.L [.I 0]) 0 2 2 2 (by omega) ex_okN ex_okB0 ex_okl (by decide) (by decide) (by decide) (by decide) (by decide) (by decide) (by decide) (by decide) (fun _ => ex_NG) ex_pp0
  rw [ex_aR0, ex_aE0] at e_2
  have e_3 := add_ans ext k hN hE hU exN exB1 (.L [.I 0]) 1 2 2 2 (by omega) ex_okN ex_okB1 ex_okl (by decide) (by decide) (by decide) (by decide) (by decide) (by decide) (by decide) (by decide) (fun _ => ex_NG) ex_pp1
  rw [ex_aR1, ex_aE1] at e_3
  have e_4 := conflict_ans ext k hE exB2 0 1 2 (by omega) ex_okB2 (by decide) (by decide)
  rw [ex_conf] at e_4
  simp (maxDischargeDepth := 9) only [go_sem, Nat.reduceMul, Nat.reduceAdd, Nat.reduceLeDiff, Int.reduceSub, Int.reduceNeg, Int.reduceLT, Int.reduceLE, Int.reduceEq, *, exN_eq, exB0_eq, exB1_eq, exB2_eq, Tab.build, Tab.ivL, R1.frozenL, RV.frozenT, Tab.lits]
  repeat' (first | (with_reducible refine condLt (fun h h' => ?_) (fun h h' => ?_)) | (with_reducible refine condLe (fun h h' => ?_) (fun h h' => ?_)) | (with_reducible refine dop_val ?_) | (with_reducible refine YsLt (fun h h' => ?_) (fun h h' => ?_)) | (with_reducible refine YsLe (fun h h' => ?_) (fun h h' => ?_)) | (with_reducible refine condP (fun h => ?_) (fun h => ?_)) | (with_reducible refine condN (fun h => ?_) (fun h => ?_)) | (with_reducible refine condB (fun h => ?_) (fun h => ?_)) | (with_reducible refine condR (fun h => ?_) (fun h => ?_)) | (with_reducible refine YsB (fun h => ?_) (fun h => ?_)) | (with_reducible refine YsC (fun h => ?_) (fun h => ?_)) | (with_reducible refine Ys_ite (fun h => ?_) (fun h => ?_)) | (intro h) | (with_reducible refine draw_look (by kernel_rfl) (by kernel_rfl) ?_) | (simp (maxDischargeDepth := 9) only [go_sem, Nat.reduceMul, Nat.reduceAdd, Nat.reduceLeDiff, Int.reduceSub, Int.reduceNeg, Int.reduceLT, Int.reduceLE, Int.reduceEq, *, exN_eq, exB0_eq, exB1_eq, exB2_eq, Tab.build, Tab.ivL, R1.frozenL, RV.frozenT, Tab.lits]) | (exfalso; omega))
end Go.Proofs.Ytficdonjodadlaa
end
section
set_option linter.unusedVariables false
set_option linter.unusedSimpArgs false
namespace Go.Ev
open Go.RowKit
section
set_option maxHeartbeats 1000000
variable {C : Cx} {N N' : Nm} {st st' s1 stF : St} {a : Act} {w w' : World} {o : Oper} {K : Act → World → Prop} {Q : Exit → Act → World → Prop}
variable {fx : Fx} {call : CallF} {ops : Array Oper}
def hd0 (a : Act) : Value := a.tmps.getD 0 undef
theorem hd0_put {d : Option Nat} {v : Value} (h : d ≠ some 0) : hd0 (a.put d v) = hd0 a := by
  cases d with
  | none => rfl
  | some d =>
    have hd : d ≠ 0 := fun e => h (by rw [e])
    unfold hd0 Act.put
    simp [Array.getD_eq_getD_getElem?, Array.getElem?_setIfInBounds, hd]
theorem wp_pin {P : Program} (hd : o.dst ≠ some 0) (h : o.wp P a w (fun a' w' => hd0 a' = hd0 a → K a' w') Q) : o.wp P a w K Q := by
  unfold Oper.wp at h ⊢
  generalize (execOp a.eval o).run P w = r at h ⊢
  cases r with
  | ok x w' =>
    cases x with
    | value v => exact h (hd0_put hd)
    | skip => exact h (hd0_put hd)
    | defer d => exact h (hd0_put (a := { a with defers := d :: a.defers }) hd)
    | enter f args =>
      rw [Oper.upon_enter] at h ⊢
      refine h.mono (fun e w'' he => ?_)
      cases e with
      | returned v => exact he (hd0_put hd)
      | panicked c => exact he
      | outgrown => exact he
    | row r args =>
      rw [Oper.upon_row] at h ⊢
      exact h.mono (fun v w'' he => he (hd0_put hd))
    | _ => exact h
  | halt x w' => cases x <;> exact h
def noDst (o : Oper) : Bool := decide (o.dst ≠ some 0)
def Pin : Code → Bool
  | .skip => true
  | .exit _ => true
  | .ret => true
  | .region _ ops draw => !draw && ops.toList.all noDst
  | .seq a b => Pin a && Pin b
  | .cond _ a b => Pin a && Pin b
  | .block _ c => Pin c
  | .loop c => Pin c
  | _ => false
theorem ops_pin (ok : C.Ok) (hc : ∀ o, CallOk C fx call o) : ∀ (l : List Oper) {st : St} {N : Nm} {a : Act} {w : World}, l.all noDst = true → C.T.ops fx call ops l st = some stF → Rel C N st a w → (∀ N' a' w', Rel C N' stF a' w' → hd0 a' = hd0 a → Q .normal a' w') → wpList C.P ops Q l a w
  | [], st, N, a, w, hd, hs, h, hq => by
    simp only [Tab.ops, Option.some.injEq] at hs
    subst hs
    exact hq N a w h rfl
  | o :: l, st, N, a, w, hd, hs, h, hq => by
    simp only [List.all_cons, Bool.and_eq_true] at hd
    have hdo : o.dst ≠ some 0 := of_decide_eq_true hd.1
    simp only [Tab.ops] at hs
    rw [Option.bind_eq_some_iff] at hs
    obtain ⟨s1, h1, hs⟩ := hs
    refine wpList_step fun K hK => ?_
    have h2 := one_sound ok (hc o) h1 (N := N) (a := a) (w := w) (K := fun a' w' => hd0 a' = hd0 a → K a' w') (Q := Q) h (fun N' a' w' h' hp => hK _ _ (ops_pin ok hc l hd.2 hs h' (fun N2 a2 w2 g1 g2 => hq N2 a2 w2 g1 (g2.trans hp))))
    split at h2
    · rename_i hw; rw [if_pos hw]; exact wp_pin hdo h2
    · rename_i hw; rw [if_neg hw]; exact h2 (hd0_put hdo)
theorem code_pin (ok : C.Ok) (hc : ∀ o, CallOk C fx call o) {k : Nat} : ∀ (c : Code) {cur : Nat} {st st' : St} {N : Nm} {a : Act} {w : World} {e : Ex} {Q : Exit → Act → World → Prop}, Pin c = true → C.T.code fx call k cur c st = some (e, st') → Rel C N st a w → (∀ N' a' w', Rel C N' st' a' w' → hd0 a' = hd0 a → Q e.out a' w') → c.wp C.P Q a w := by
  intro c
  induction c with
  | skip =>
    intro cur st st' N a w e Q _ hs h hq
    simp only [Tab.code, Option.some.injEq, Prod.mk.injEq] at hs
    obtain ⟨rfl, rfl⟩ := hs
    exact wp_skip (hq N a w h rfl)
  | region id ops draw =>
    intro cur st st' N a w e Q hd hs h hq
    simp only [Pin, Bool.and_eq_true, Bool.not_eq_true'] at hd
    obtain ⟨rfl, hd⟩ := hd
    simp only [Tab.code] at hs
    rw [Option.bind_eq_some_iff] at hs
    obtain ⟨s1, h1, hs⟩ := hs
    simp only [Option.some.injEq, Prod.mk.injEq] at hs
    obtain ⟨rfl, rfl⟩ := hs
    unfold Tab.region at h1
    simp only [Bool.false_eq_true, if_false] at h1
    exact wp_region_list (ops_pin ok hc _ hd h1 h hq)
  | seq x y ihx ihy =>
    intro cur st st' N a w e Q hd hs h hq
    simp only [Pin, Bool.and_eq_true] at hd
    simp only [Tab.code] at hs
    rw [Option.bind_eq_some_iff] at hs
    obtain ⟨⟨e1, s1⟩, h1, hs⟩ := hs
    refine wp_seq (ihx hd.1 h1 h (fun N' a' w' h' hp => ?_))
    cases e1 with
    | normal => exact ihy hd.2 hs h' (fun N2 a2 w2 g1 g2 => hq N2 a2 w2 g1 (g2.trans hp))
    | exit id =>
      simp only [Option.some.injEq, Prod.mk.injEq] at hs
      obtain ⟨rfl, rfl⟩ := hs
      exact hq N' a' w' h' hp
    | ret =>
      simp only [Option.some.injEq, Prod.mk.injEq] at hs
      obtain ⟨rfl, rfl⟩ := hs
      exact hq N' a' w' h' hp
  | cond o x y ihx ihy =>
    intro cur st st' N a w e Q hd hs h hq
    simp only [Pin, Bool.and_eq_true] at hd
    simp only [Tab.code] at hs
    split at hs
    · rename_i t ht
      have h1 := h.get o
      rw [ht] at h1
      refine wp_cond (slot_bool h1) ?_
      cases t with
      | true => simp only [if_true] at hs ⊢; exact ihx hd.1 hs h hq
      | false => simp only [Bool.false_eq_true, if_false] at hs ⊢; exact ihy hd.2 hs h hq
    · cases hs
  | block id c ih =>
    intro cur st st' N a w e Q hd hs h hq
    simp only [Tab.code] at hs
    rw [Option.bind_eq_some_iff] at hs
    obtain ⟨⟨e1, s1⟩, h1, hs⟩ := hs
    simp only [Option.some.injEq, Prod.mk.injEq] at hs
    obtain ⟨he, rfl⟩ := hs
    refine wp_block (ih (by simpa only [Pin] using hd) h1 h (fun N' a' w' h' hp => ?_))
    cases e1 with
    | normal => simp only at he; subst he; exact hq N' a' w' h' hp
    | ret => simp only at he; subst he; exact hq N' a' w' h' hp
    | exit i =>
      simp only at he
      show (if i = id then Q .normal a' w' else Q (.exit i) a' w')
      split
      · rename_i e2; rw [if_pos e2] at he; subst he; exact hq N' a' w' h' hp
      · rename_i e2; rw [if_neg e2] at he; subst he; exact hq N' a' w' h' hp
  | loop c ih =>
    intro cur st st' N a w e Q hd hs h hq
    have hd : Pin c = true := by simpa only [Pin] using hd
    simp only [Tab.code] at hs
    refine wp_loop_rounds k ?_
    have key : ∀ (n : Nat) {st : St} {N : Nm} {a0 : Act} {w : World}, hd0 a0 = hd0 a → iter (fun st => C.T.code fx call k cur c (st.fresh ((fx.clr.lookup cur).getD ([], [])))) n st = some (e, st') → Rel C N st a0 w → Code.rounds C.P c Q n a0 w := by
      intro n
      induction n with
      | zero => intro st N a0 w _ hs _; cases hs
      | succ n ihn =>
        intro st N a0 w hp0 hs h
        simp only [iter] at hs
        rw [Option.bind_eq_some_iff] at hs
        obtain ⟨⟨e1, s1⟩, h1, hs⟩ := hs
        rw [rounds_succ]
        refine ih hd h1 ((h.clear _).killL _) (fun N' a' w' h' hp => ?_)
        cases e1 with
        | normal => exact ihn (hp.trans hp0) hs h'
        | exit id =>
          simp only [Option.some.injEq, Prod.mk.injEq] at hs
          obtain ⟨rfl, rfl⟩ := hs
          exact hq N' a' w' h' (hp.trans hp0)
        | ret =>
          simp only [Option.some.injEq, Prod.mk.injEq] at hs
          obtain ⟨rfl, rfl⟩ := hs
          exact hq N' a' w' h' (hp.trans hp0)
    exact key k rfl hs h
  | exit id =>
    intro cur st st' N a w e Q _ hs h hq
    simp only [Tab.code, Option.some.injEq, Prod.mk.injEq] at hs
    obtain ⟨rfl, rfl⟩ := hs
    exact wp_exit (hq N a w h rfl)
  | ret =>
    intro cur st st' N a w e Q _ hs h hq
    simp only [Tab.code, Option.some.injEq, Prod.mk.injEq] at hs
    obtain ⟨rfl, rfl⟩ := hs
    exact wp_ret (hq N a w h rfl)
  | _ => intro cur st st' N a w e Q hd hs h hq; cases hd
end
end Go.Ev
end
section
set_option linter.unusedVariables false
set_option linter.unusedSimpArgs false
namespace Go.Ev
open Go.RowKit
section
set_option maxHeartbeats 1000000
variable {C : Cx} {N N' : Nm} {st st' : St} {a : Act} {w w' : World}
theorem run_append2 (ok : C.Ok) {t e : TypeId} (ht : C.T.ty t = .slice e) (he : C.T.okE e = true) (ty : TypeId) {v : Value} {n : Nat} {xs : List Value} (hown : w.ownsRow 0 e (C.T.sz e) v n xs) {ad : Addr} {m c : Nat} {news : List Value} (hl : news.length = m * C.T.sz e) (hm : 0 < m)
    (hnews : ∀ j u, news[j]? = some u → w.cell? (ad.add j) = some u) (h1 : ∀ u ∈ news, u.oneCell' = true) (hr : roomFor (n + m) (C.T.row e).bytes = true) :
    ∃ v' w', (Builtin.append_ #[t, t] ty #[v, .slice (some ad) m c]).run C.P w = .ok v' w' ∧ w'.ownsRow 0 e (C.T.sz e) v' (n + m) (xs ++ news) ∧
      ((∃ g cap, v = .slice (some ⟨g, 0, none⟩) n cap ∧ v' = .slice (some ⟨g, 0, none⟩) (n + m) cap ∧ w.grownBy w' (some g)) ∨ (w.grownBy w' none ∧ v'.ownBlock = some w.heap.size)) := by
  obtain ⟨he1, he2⟩ := okE_iff he
  obtain ⟨hr1, hr2⟩ := room_spec hr
  obtain ⟨i, z, i1, i2, i3, i4, i5, _⟩ := ok.tab.info e he2
  have hu := ok.tab.slice t e ht
  obtain ⟨v', w', g1, g2, g3, g4⟩ := run_append_own (P := C.P) w 0 t ty e i z (C.T.sz e) (C.T.row e).bytes hu i1 i4 i2 i3 i5 he1 v n xs hown ad m c news hl hnews h1 hr2 hr1 (Nat.zero_le _)
  have h63 : n + m ≤ 9223372036854775807 := by unfold maxLen at hr2; omega
  rcases hown.2 with ⟨rfl, rfl⟩ | ⟨g, cap, cur, rfl, _, hg, hnc, hcm, hcs, htk⟩
  · refine ⟨v', w', g1, g2, .inr ⟨g3, ?_⟩⟩
    have := run_append_nil (P := C.P) w t ty e i z hu i1 i4 ad m c news (by rw [i2]; exact hl) hnews (by omega) (by omega) (by rw [i3]; simp only [Nat.zero_add] at hr1; omega)
    rw [g1] at this
    cases this; rfl
  · by_cases hroom : n + m ≤ cap
    · obtain ⟨w2, q1, q2, q3⟩ := run_append_fits (P := C.P) w 0 t ty e i (C.T.sz e) hu i1 i2 g n cap xs hown ad m c news hl hnews h1 hroom
      exact ⟨_, w2, q1, q2, .inl ⟨g, cap, rfl, rfl, q3⟩⟩
    · have holds : ∀ j u, xs[j]? = some u → w.cell? ((⟨g, 0, none⟩ : Addr).add j) = some u := hown.cells (g := g) rfl
      have this := run_append_grow (P := C.P) w t ty e i z hu i1 i4 ⟨g, 0, none⟩ n cap xs (by rw [i2]; exact hown.1) holds ad m c news (by rw [i2]; exact hl) hnews (by omega) (by omega) (growslice_fits (by omega) (by rw [i3]; exact hr1))
      rw [g1] at this
      obtain ⟨e1, e2⟩ : v' = _ ∧ w' = _ := by injection this with e1 e2; exact ⟨e1, e2⟩
      refine ⟨v', w', g1, g2, .inr ⟨?_, by rw [e1]; rfl⟩⟩
      rw [e2]
      refine ⟨rfl, rfl, rfl, by simp, fun k hk _ => ?_⟩
      show (w.drew.heap.push _)[k]? = w.heap[k]?
      rw [Array.getElem?_push, if_neg (by show ¬k = w.heap.size; omega)]
      rfl
variable {o : Oper} {fx : Fx} {call : CallF} {ops : Array Oper} {Q : Exit → Act → World → Prop}
theorem s_copy2 {d s : Operand} {t e q k p : Nat} {cl : Call} {b0 : At} {news l : List IV} (ok : C.Ok) (ho : o.op = .call cl) (hc : cl.callee = .builtin .copy) (ha : cl.args = #[d, s]) (hat : cl.argTypes = #[t, t]) (ht : C.T.ty t = .slice e) (hd : get1 st d = some (.own k)) (hs : get1 st s = some b0) (hel : st.elems C.T e b0 = some (q, news)) (hkr : st.row k = some (.arr p e l)) (hl : news.length = l.length) (he : C.T.okE e = true) :
    Sound C o st ((st.putRow k (some (.arr (mn p q) e news))).setA o.dst (.int .i64 l.length)) := by
  intro N a w K Q h hk
  obtain ⟨he1, he2⟩ := okE_iff he
  obtain ⟨ad, c, cf, g1, g2, g3, g4⟩ := elems_sound ok h he2 (get1_slot h hs) hel
  obtain ⟨q1, q2, cg, q3, q4⟩ := h.rows k _ hkr
  have hsl := slot_own (get1_slot h hd)
  have hlc : ∀ i, i < news.length → (cf i).length = C.T.sz e := fun i hi => (g2 i hi).len ok.tab
  have h1c : ∀ u ∈ (List.range news.length).flatMap cf, u.oneCell' = true := by
    intro u hu
    obtain ⟨i, hi, hu⟩ := List.mem_flatMap.1 hu
    exact (g2 i (by simpa using hi)).one u hu
  obtain ⟨i, z, i1, i2, i3, i4, i5, _⟩ := ok.tab.info e he2
  have hu := ok.tab.slice t e ht
  have key : ∃ w', (Builtin.copy_ #[t, t] o.type #[N.β k, .slice ad news.length c]).run C.P w = .ok (goInt l.length) w' ∧ Rel C N (st.putRow k (some (.arr (mn p q) e news))) a w' := by
    have hfl : ((List.range news.length).flatMap cf).length = l.length * C.T.sz e := by rw [flat_length hlc, hl]
    rcases q4.2 with ⟨e1, e2⟩ | ⟨g, cap, cur, e1, _, hg, hnc, hcm, hcs, htk⟩
    · have hv : news = [] := List.eq_nil_of_length_eq_zero (hl.trans e2)
      refine ⟨w, ?_, ?_⟩
      · rw [e1, e2]
        exact run_copy_gen w t t o.type e (C.T.sz e) 0 none ad 0 0 _ c [] hu (by rw [i1]; simp [i2]) (by simp) (by simp) (fun h => absurd h (by omega)) w (fun h => absurd h (by omega)) (fun _ => rfl)
      · refine h.wr ok hkr (r' := .arr (mn p q) e news) rfl (fun _ _ => rfl) rfl rfl rfl rfl ⟨q1, q2, cf, fun i hi => ?_, ?_⟩
        · rw [hv] at hi; exact absurd hi (by simp)
        · rw [hv]; exact ⟨by simp, .inl ⟨e1, rfl⟩⟩
    · have hb : blk (N.β k) = some g := by rw [e1]; rfl
      have hcap := Nat.mul_le_mul_right (C.T.sz e) hnc
      have hst := run_storeCells_at C.P g 0 e ((List.range news.length).flatMap cf) 0 cur w hg (by omega) h1c
      have hw : ∀ j, blk (N.β k) ≠ some j → (w.setRow g (splice cur.toList 0 ((List.range news.length).flatMap cf)).toArray).heap[j]? = w.heap[j]? := fun j hj => setRow_other w g j _ (fun e => hj (by rw [hb, e]))
      have hE : ∀ p i2, C.E N p i2 → (w.setRow g (splice cur.toList 0 ((List.range news.length).flatMap cf)).toArray).heap[i2]? = w.heap[i2]? := fun p i2 hi2 => hw i2 (fun e => h.eown ok (by rw [hkr]; rfl) e hi2)
      refine ⟨w.setRow g (splice cur.toList 0 ((List.range news.length).flatMap cf)).toArray, ?_, ?_⟩
      · rw [e1]
        refine run_copy_gen w t t o.type e (C.T.sz e) l.length (some ⟨g, 0, none⟩) ad l.length cap news.length c _ hu (by rw [i1]; simp [i2]) (by simp [hl]) hfl (fun hp => ?_) _ (fun hp => ⟨_, rfl, ?_⟩) (fun hz => ?_)
        · cases ad with
          | none => have := (g3 rfl).1; rw [← hl, this] at hp; exact absurd hp (by simp)
          | some x => exact ⟨x, rfl, g4 x rfl⟩
        · simpa [splice] using hst
        · have : (List.range news.length).flatMap cf = [] := List.eq_nil_of_length_eq_zero (by rw [hfl, hz, Nat.zero_mul])
          rw [this]
          simpa [splice] using setRow_self w g cur e (0, 0) hg
      · refine h.wr ok hkr (r' := .arr (mn p q) e news) rfl hw (by simp [World.setRow]) rfl rfl rfl ⟨q1, q2, cf, fun j hj => ?_, ?_⟩
        · exact (g2 j hj).mono (fun b hb => Cx.E.anti ok (mn_le p q).2 hb) (hE _)
        · have hsp : (splice cur.toList 0 ((List.range news.length).flatMap cf)).length = cur.size := by rw [splice_length (by simp only [Array.length_toList]; omega)]; simp
          refine ⟨by rw [hfl, hl], .inr ⟨g, cap, _, by rw [e1, hl], Nat.zero_le _, setRow_heap w g cur _ e _ hg, by rw [hl]; exact hnc, hcm, by simp [hsp, hcs], ?_⟩⟩
          simp only [splice, List.take_zero, List.nil_append]
          rw [hl] at hfl ⊢
          exact List.take_left' hfl
  obtain ⟨w', r1, r2⟩ := key
  refine wp_value (v := goInt l.length) (w' := w') (exec_copy ho hc ha hat ?_) (hk N _ _ (r2.set (x := .v (.a (.int .i64 l.length))) of_int))
  rw [hsl, g1]; exact r1
end
end Go.Ev
end
section
set_option linter.unusedVariables false
set_option linter.unusedSimpArgs false
namespace Go.Ev
open Go.RowKit
section
set_option maxHeartbeats 1000000
variable {C : Cx} {N N' : Nm} {st st' : St} {a : Act} {w w' : World} {o : Oper} {K : Act → World → Prop} {Q : Exit → Act → World → Prop} {ops : Array Oper} {P : Program} {md : Region.Mode}
theorem ready_lt {j : Nat} {listed : Array Bool} (h : j ∈ Region.ready md ops listed) : j < ops.size := by
  obtain ⟨_, o, ho, _⟩ := mem_ready.1 h
  exact (Array.getElem?_eq_some_iff.1 ho).1
theorem any_inv (Inv : Array Bool → Act → World → Prop) (hsz : ∀ listed a w, Inv listed a w → listed.size = ops.size)
    (hend : ∀ listed a w, Inv listed a w → Region.ready md ops listed = [] → Q .normal a w)
    (hstep : ∀ listed a w i, Inv listed a w → i ∈ Region.ready md ops listed → wpOp P ops Q i (Inv (listed.setIfInBounds i true)) a w) :
    ∀ (n : Nat) (listed : Array Bool) (a : Act) (w : World), listed.toList.count false ≤ n → Inv listed a w → wpAny P md ops Q n listed a w
  | 0, listed, a, w, hc, h => by
    have hr : Region.ready md ops listed = [] := by
      cases hr : Region.ready md ops listed with
      | nil => rfl
      | cons i rs =>
        have hi : i ∈ Region.ready md ops listed := by rw [hr]; simp
        have hlt := ready_lt hi
        obtain ⟨h1, _⟩ := mem_ready.1 hi
        have hl : i < listed.size := by rw [hsz _ _ _ h]; exact hlt
        rw [Array.getD_eq_getD_getElem?, Array.getElem?_eq_getElem hl] at h1
        have hm : false ∈ listed.toList := by
          rw [show false = listed[i] from h1.symm]; simp
        have := List.count_pos_iff.2 hm
        omega
    exact ⟨hr, hend _ _ _ h hr⟩
  | n + 1, listed, a, w, hc, h => by
    refine ⟨hend _ _ _ h, fun i hi => wpOp_mono (fun a' w' h' => any_inv Inv hsz hend hstep n _ a' w' ?_ h') (hstep _ _ _ _ h hi)⟩
    have hlt := ready_lt hi
    obtain ⟨h1, _⟩ := mem_ready.1 hi
    have hl : i < listed.size := by rw [hsz _ _ _ h]; exact hlt
    rw [Array.getD_eq_getD_getElem?, Array.getElem?_eq_getElem hl] at h1
    have h1 : listed[i] = false := h1
    have hm : false ∈ listed.toList := by
      rw [← h1]; simp
    have hp := List.count_pos_iff.2 hm
    rw [Array.toList_setIfInBounds, List.count_set (by simpa using hl)]
    simp only [Array.getElem_toList, h1, beq_self_eq_true, if_true, show (true == false) = false from rfl, Bool.false_eq_true, if_false]
    omega
theorem wp_put (h : o.wp P a w (fun a' w' => (∃ v dd, a' = ({ a with defers := dd } : Act).put o.dst v) → K a' w') Q) : o.wp P a w K Q := by
  unfold Oper.wp at h ⊢
  generalize (execOp a.eval o).run P w = r at h ⊢
  cases r with
  | ok x w' =>
    cases x with
    | value v => exact h ⟨v, a.defers, rfl⟩
    | skip => exact h ⟨undef, a.defers, rfl⟩
    | defer d => exact h ⟨undef, d :: a.defers, rfl⟩
    | enter f args =>
      rw [Oper.upon_enter] at h ⊢
      refine h.mono (fun e w'' he => ?_)
      cases e with
      | returned v => exact he ⟨v, a.defers, rfl⟩
      | panicked c => exact he
      | outgrown => exact he
    | row r args =>
      rw [Oper.upon_row] at h ⊢
      exact h.mono (fun v w'' he => he ⟨v, a.defers, rfl⟩)
    | _ => exact h
  | halt x w' => cases x <;> exact h
theorem put_tmp {d : Nat} {v : Value} {j : Nat} {dd : List Deferred} (h : j ≠ d) : (({ a with defers := dd } : Act).put (some d) v).tmps.getD j undef = a.tmps.getD j undef := by
  unfold Act.put
  simp [Array.getD_eq_getD_getElem?, Array.getElem?_setIfInBounds, Ne.symm h]
theorem hs_one {hd : Value} (h : ∀ b, blk hd = some b → (C.X b ∨ C.w0.heap.size ≤ b) ∧ ¬ N.Fz b ∧ b < w.heap.size ∧ ∀ j, (st.row j).isSome → blk (N.β j) ≠ some b) : HsOk C N st w [hd] :=
  ⟨fun h' hm b hb => by rw [List.mem_singleton.1 hm] at hb; exact h b hb, List.pairwise_singleton _ _⟩
theorem append_keep {s x : Operand} {t e q k k2 p : Nat} {cl : Call} {b : At} {l news : List IV} (ok : C.Ok) (h : Rel C N st a w) (ho : o.op = .call cl) (hc : cl.callee = .builtin .append) (ha : cl.args = #[s, x]) (hat : cl.argTypes = #[t, t]) (ht : C.T.ty t = .slice e) (he : C.T.okE e = true)
    (hs : get1 st s = some (.own k)) (hx : get1 st x = some b) (hel : st.elems C.T e b = some (q, news)) (hnz : 0 < news.length) (hkr : st.row k = some (.arr p e l)) (hr : roomFor (l.length + news.length) (C.T.row e).bytes = true) (hkk : k ≠ k2) :
    ∃ v' w', (execOp a.eval o).run C.P w = .ok (.value v') w' ∧
      ((∃ N', Rel C N' ((st.kill k).newRow k2 (.arr (mn p q) e (l ++ news))) a w' ∧ N'.β k2 = v' ∧ ∃ g cap, N.β k = .slice (some ⟨g, 0, none⟩) l.length cap ∧ v' = .slice (some ⟨g, 0, none⟩) (l.length + news.length) cap) ∨
       (∃ N', Rel C N' (st.newRow k2 (.arr (mn p q) e (l ++ news))) a w' ∧ N'.β k2 = v' ∧ N'.β k = N.β k)) := by
  obtain ⟨he1, he2⟩ := okE_iff he
  obtain ⟨ad, c, cf, g1, g2, g3, g4⟩ := elems_sound ok h he2 (get1_slot h hx) hel
  have hlc : ∀ i, i < news.length → (cf i).length = C.T.sz e := fun i hi => (g2 i hi).len ok.tab
  have h1c : ∀ u ∈ (List.range news.length).flatMap cf, u.oneCell' = true := by
    intro u hu
    obtain ⟨i, hi, hu⟩ := List.mem_flatMap.1 hu
    exact (g2 i (by simpa using hi)).one u hu
  obtain ⟨x, rfl⟩ : ∃ x, ad = some x := by
    cases ad with
    | none => have := (g3 rfl).1; rw [this] at hnz; cases hnz
    | some x => exact ⟨x, rfl⟩
  have hsl := slot_own (get1_slot h hs)
  obtain ⟨q1, q2, cg, q3, q4⟩ := h.rows k _ hkr
  obtain ⟨v', w', r1, r2, r3⟩ := run_append2 ok ht he o.type q4 (ad := x) (m := news.length) (c := c) (news := (List.range news.length).flatMap cf) (flat_length hlc) hnz (g4 x rfl) h1c hr
  refine ⟨v', w', exec_append ho hc ha hat (by rw [hsl, g1]; exact r1), ?_⟩
  obtain ⟨o1, o2⟩ := owns_blk r2
  have hsome : (st.row k).isSome := by rw [hkr]; rfl
  rcases r3 with ⟨g, cap, e1, e2, e3⟩ | ⟨e1, e2⟩
  · left
    have hbk : blk (N.β k) = some g := by rw [e1]; rfl
    have hR := h.grown ok hsome (by rw [hbk]; exact e3)
    have hE : ∀ p b, C.E N p b → w'.heap[b]? = w.heap[b]? := fun p b hb => e3.block b (h.elt ok hb) (fun e => h.eown ok hsome (hbk.trans e.symm) hb)
    obtain ⟨s1, s2⟩ := append_list (C := C) (w := w') (p := p) (q := q) (fun i hi => (q3 i hi).mono (fun _ h => h) (hE p)) (fun i hi => (g2 i hi).mono (fun _ h => h) (hE q)) (fun b hb => Cx.E.anti ok (mn_le p q).1 hb) (fun b hb => Cx.E.anti ok (mn_le p q).2 hb)
    obtain ⟨n1, _⟩ := hR.newRow ok (k := k2) (p := mn p q) (e := e) (l := l ++ news) (hd := v') (hs_one (fun b hb => by
      have hlt := o2 b hb
      rw [e2] at hb
      cases hb
      obtain ⟨x1, x2, x3⟩ := h.frm.own k g hsome hbk
      exact ⟨x1, x2, hlt, fun j hj e => (kill_some hj).2 (h.frm.sep j k g (kill_some hj).1 hsome e hbk)⟩)) ⟨he, _, s1, by rw [s2, List.length_append]; exact r2⟩
    exact ⟨_, n1, by simp [Nm.upd], g, cap, e1, e2⟩
  · right
    have hb : Below w.heap.size w w' := ⟨e1.os, e1.tape, e1.output, e1.size, fun j hj => e1.block j hj (by simp)⟩
    have hR := h.grow ok hb
    have hE : ∀ p b, C.E N p b → w'.heap[b]? = w.heap[b]? := fun p b hb2 => hb.block b (h.elt ok hb2)
    obtain ⟨s1, s2⟩ := append_list (C := C) (w := w') (p := p) (q := q) (fun i hi => (q3 i hi).mono (fun _ h => h) (hE p)) (fun i hi => (g2 i hi).mono (fun _ h => h) (hE q)) (fun b hb => Cx.E.anti ok (mn_le p q).1 hb) (fun b hb => Cx.E.anti ok (mn_le p q).2 hb)
    obtain ⟨n1, _⟩ := hR.newRow ok (k := k2) (p := mn p q) (e := e) (l := l ++ news) (hd := v') (hs_one (fun b hb2 => by
      have hlt := o2 b hb2
      rw [o1, e2] at hb2
      cases hb2
      exact ⟨.inr h.frm.size, fun hz => absurd (h.frm.fz _ hz).2 (Nat.lt_irrefl _), hlt, fun j hj e => absurd (h.frm.own j _ hj e).2.2 (Nat.lt_irrefl _)⟩)) ⟨he, _, s1, by rw [s2, List.length_append]; exact r2⟩
    exact ⟨_, n1, by simp [Nm.upd], by simp [Nm.upd, hkk]⟩
end
end Go.Ev
end
section
set_option linter.unusedVariables false
namespace Go.Ev
def sq1 : Code → Code | .seq a _ => a | c => c
def sq2 : Code → Code | .seq _ b => b | c => c
def inBlock : Code → Code | .block _ c => c | c => c
def inLoop : Code → Code | .loop c => c | c => c
def cThen : Code → Code | .cond _ a _ => a | c => c
theorem cThen_cond {o : Operand} {a b : Code} : cThen (.cond o a b) = a := (rfl)
theorem sq1_seq {a b : Code} : sq1 (.seq a b) = a := (rfl)
theorem sq2_seq {a b : Code} : sq2 (.seq a b) = b := (rfl)
theorem inBlock_block {i : Nat} {c : Code} : inBlock (.block i c) = c := (rfl)
theorem inLoop_loop {c : Code} : inLoop (.loop c) = c := (rfl)
end Go.Ev
end
section
set_option linter.unusedVariables false
set_option linter.unusedSimpArgs false
namespace Go.Proofs.Ytficdonjodadlaa
open Go.Ev Go.Proofs
section
set_option maxHeartbeats 1000000
set_option maxRecDepth 10000
def opsOf : Code → Array Oper | .region _ ops _ => ops | _ => #[]
noncomputable def c75 : Code := fx75.code
noncomputable def p18 : Code := sq2 (sq2 (sq2 (inBlock (sq1 (sq2 (inLoop (inBlock (sq2 (sq2 (sq2 (sq2 c75)))))))))))
noncomputable def o18 : Array Oper := opsOf p18
theorem o18_size : o18.size = 7 := (rfl)
theorem o18_0 : ∃ o, o18[0]? = some o ∧ o.op = .load 88 (.tmp 4) ∧ o.dst = some 79 ∧ o.guard = none ∧ o.after.toList.map (·.on) = [] := ⟨_, rfl, rfl, rfl, rfl, rfl⟩
theorem o18_1 : ∃ o, o18[1]? = some o ∧ o.op = .move (.tmp 0) ∧ o.dst = some 80 ∧ o.guard = none ∧ o.after.toList.map (·.on) = [] := ⟨_, rfl, rfl, rfl, rfl, rfl⟩
theorem o18_2 : ∃ o, o18[2]? = some o ∧ o.op = .move (.tmp 9) ∧ o.dst = some 81 ∧ o.guard = none ∧ o.after.toList.map (·.on) = [] := ⟨_, rfl, rfl, rfl, rfl, rfl⟩
theorem o18_3 : ∃ o, o18[3]? = some o ∧ o.op = .buildSlice 46 1 #[(0, .tmp 81)] ∧ o.dst = some 82 ∧ o.guard = none ∧ o.after.toList.map (fun e => (e.on, Region.binds .any e)) = [(2, true)] := ⟨_, rfl, rfl, rfl, rfl, rfl⟩
theorem o18_4 : ∃ o, o18[4]? = some o ∧ o.op = .call { callee := .builtin .append, args := #[.tmp 80, .tmp 82], argTypes := #[46, 46] } ∧ o.dst = some 83 ∧ o.guard = none ∧ o.after.toList.map (fun e => (e.on, Region.binds .any e)) = [(1, true), (3, true)] := ⟨_, rfl, rfl, rfl, rfl, rfl⟩
theorem o18_5 : ∃ o, o18[5]? = some o ∧ o.op = .move (.tmp 10) ∧ o.dst = some 84 ∧ o.guard = none ∧ o.after.toList.map (·.on) = [] := ⟨_, rfl, rfl, rfl, rfl, rfl⟩
theorem o18_6 : ∃ o, o18[6]? = some o ∧ o.op = .call { callee := .value (.tmp 79), args := #[.tmp 83, .tmp 84], argTypes := #[46, 46] } ∧ o.dst = some 85 ∧ o.guard = none ∧ o.after.toList.map (fun e => (e.on, Region.binds .any e)) = [(0, true), (4, true), (5, true), (4, true)] := ⟨_, rfl, rfl, rfl, rfl, rfl⟩
structure F18 (b : IV) (l rest out : List IV) (left : List IV) (p q z : Nat) (c : Int) (st : St) (t : Nat → Bool) (ip : Bool) : Prop where
  len : st.env.length = 86
  g0 : ip = false → st.get (.tmp 0) = .v (.a (.own 9))
  g1 : st.get (.tmp 1) = .v (.a (.iv z 46 (.L left)))
  g2 : st.get (.tmp 2) = .v (.a (.ptr 5 [] 44))
  g3 : st.get (.tmp 3) = .v (.a (.ptr 7 [] 29))
  g4 : st.get (.tmp 4) = .v (.a (.ptr 8 [] 88))
  g9 : st.get (.tmp 9) = .v (.a (.int .i64 c))
  g10 : st.get (.tmp 10) = .v (.a (.own 3))
  r3 : st.row 3 = some (.arr 2 3 rest)
  r5 : st.row 5 = some (.box true 44 [0] (.a (.own 6)))
  r6 : st.row 6 = some (.arr q 46 out)
  r7 : st.row 7 = some (.box true 29 [] (.a (.iv p 29 b)))
  r8 : st.row 8 = some (.box true 88 [] (.a (.fn 75 [5, 7, 8])))
  r9 : ip = false → st.row 9 = some (.arr 2 3 l)
  n9 : ip = true → st.row 9 = none
  r10 : t 4 = false → st.row 10 = none
  x0 : t 0 = true → st.get (.tmp 79) = .v (.a (.fn 75 [5, 7, 8]))
  x1 : t 1 = true → t 4 = false → st.get (.tmp 80) = .v (.a (.own 9))
  x2 : t 2 = true → st.get (.tmp 81) = .v (.a (.int .i64 c))
  x3 : t 3 = true → t 4 = false → st.get (.tmp 82) = .v (.a (.iv 2 46 (.L [.I c])))
  x4 : t 4 = true → st.get (.tmp 83) = .v (.a (.own 10)) ∧ st.row 10 = some (.arr 2 3 (l ++ [.I c]))
  x5 : t 5 = true → st.get (.tmp 84) = .v (.a (.own 3))
def upd (t : Nat → Bool) (i : Nat) : Nat → Bool := fun j => if j = i then true else t j
section
variable {b : IV} {l rest out left : List IV} {p q z : Nat} {c : Int} {st : St} {t : Nat → Bool} {ip : Bool}
theorem F18.s0 (h : F18 b l rest out left p q z c st t ip) : F18 b l rest out left p q z c (st.set (some 79) (.v (.a (.fn 75 [5, 7, 8])))) (upd t 0) ip := by
  obtain ⟨h1, h2, h3, h4, h5, h6, h7, h8, h9, h10, h11, h12, h13, h14, h15, h16, h17, h18, h19, h20, h21, h22⟩ := h
  constructor
  all_goals (try simp only [get_set, row_set, len_set, upd, h1])
  all_goals (first | assumption | (simp; done) | (simp; assumption) | (simp_all; done))
theorem F18.s1 (h : F18 b l rest out left p q z c st t false) (h4 : t 4 = false) : F18 b l rest out left p q z c (st.set (some 80) (.v (.a (.own 9)))) (upd t 1) false := by
  obtain ⟨h1, h2, h3, h4, h5, h6, h7, h8, h9, h10, h11, h12, h13, h14, h15, h16, h17, h18, h19, h20, h21, h22⟩ := h
  constructor
  all_goals (try simp only [get_set, row_set, len_set, upd, h1])
  all_goals (first | assumption | (simp; done) | (simp; assumption) | (simp_all; done))
theorem F18.s2 (h : F18 b l rest out left p q z c st t ip) : F18 b l rest out left p q z c (st.set (some 81) (.v (.a (.int .i64 c)))) (upd t 2) ip := by
  obtain ⟨h1, h2, h3, h4, h5, h6, h7, h8, h9, h10, h11, h12, h13, h14, h15, h16, h17, h18, h19, h20, h21, h22⟩ := h
  constructor
  all_goals (try simp only [get_set, row_set, len_set, upd, h1])
  all_goals (first | assumption | (simp; done) | (simp; assumption) | (simp_all; done))
theorem F18.s3 (h : F18 b l rest out left p q z c st t ip) : F18 b l rest out left p q z c (st.set (some 82) (.v (.a (.iv 2 46 (.L [.I c]))))) (upd t 3) ip := by
  obtain ⟨h1, h2, h3, h4, h5, h6, h7, h8, h9, h10, h11, h12, h13, h14, h15, h16, h17, h18, h19, h20, h21, h22⟩ := h
  constructor
  all_goals (try simp only [get_set, row_set, len_set, upd, h1])
  all_goals (first | assumption | (simp; done) | (simp; assumption) | (simp_all; done))
theorem F18.s5 (h : F18 b l rest out left p q z c st t ip) : F18 b l rest out left p q z c (st.set (some 84) (.v (.a (.own 3)))) (upd t 5) ip := by
  obtain ⟨h1, h2, h3, h4, h5, h6, h7, h8, h9, h10, h11, h12, h13, h14, h15, h16, h17, h18, h19, h20, h21, h22⟩ := h
  constructor
  all_goals (try simp only [get_set, row_set, len_set, upd, h1])
  all_goals (first | assumption | (simp; done) | (simp; assumption) | (simp_all; done))
theorem F18.s4a (h : F18 b l rest out left p q z c st t false) : F18 b l rest out left p q z c (((st.kill 9).newRow 10 (.arr 2 3 (l ++ [.I c]))).set (some 83) (.v (.a (.own 10)))) (upd t 4) true := by
  obtain ⟨h1, h2, h3, h4, h5, h6, h7, h8, h9, h10, h11, h12, h13, h14, h15, h16, h17, h18, h19, h20, h21, h22⟩ := h
  constructor
  all_goals (try simp only [St.newRow, get_set, row_set, len_set, len_put, get_put, row_put, get_kill, St.row_kill, len_kill, upd, h1, h2, h3, h4, h5, h6, h7, h8, h9, h10, h11, h12, h13, h14])
  all_goals (first | assumption | (simp; done) | (simp [SV.map, V1.map, At.kill, Row.map]; done) | (intro hx; simp_all [SV.map, V1.map, At.kill, Row.map]; done) | (simp_all [SV.map, V1.map, At.kill, Row.map]; done))
theorem F18.s4b (h : F18 b l rest out left p q z c st t false) : F18 b l rest out left p q z c ((st.newRow 10 (.arr 2 3 (l ++ [.I c]))).set (some 83) (.v (.a (.own 10)))) (upd t 4) false := by
  obtain ⟨h1, h2, h3, h4, h5, h6, h7, h8, h9, h10, h11, h12, h13, h14, h15, h16, h17, h18, h19, h20, h21, h22⟩ := h
  constructor
  all_goals (try simp only [St.newRow, get_set, row_set, len_set, len_put, get_put, row_put, get_kill, St.row_kill, len_kill, upd, h1, h2, h3, h4, h5, h6, h7, h8, h9, h10, h11, h12, h13, h14])
  all_goals (first | assumption | (simp; done) | (simp [SV.map, V1.map, At.kill, Row.map]; done) | (intro hx; simp_all [SV.map, V1.map, At.kill, Row.map]; done) | (simp_all [SV.map, V1.map, At.kill, Row.map]; done))
variable {P : Program} {w0 : World} {S : Nat → Nat → Prop} {X : Nat → Prop} {β0 : Nat → Value} {Q : Exit → Act → World → Prop}
def I18 (C : Cx) (b : IV) (l rest out left : List IV) (p q z : Nat) (c : Int) (h0 : Value) (t : Nat → Bool) (a : Act) (w : World) : Prop :=
  ∃ ip N' st', Rel C N' st' a w ∧ F18 b l rest out left p q z c st' t ip ∧ hd0 a = h0 ∧ (ip = true → t 4 = true ∧ ∃ g cap, h0 = .slice (some ⟨g, 0, none⟩) l.length cap ∧ a.tmps.getD 83 undef = .slice (some ⟨g, 0, none⟩) (l.length + 1) cap) ∧ (t 4 = true → t 1 = true ∧ t 2 = true ∧ t 3 = true) ∧ (t 3 = true → t 2 = true)
theorem step_simple {C : Cx} {o : Oper} {a : Act} {w : World} {N : Nm} {h0 : Value} {t' : Nat → Bool} {d : Nat} {v : SV} (hd : o.dst = some d) (h1 : d ≠ 0) (h2 : d ≠ 83) (snd : Sound C o st (st.set (some d) v)) (hr : Rel C N st a w) (hF : F18 b l rest out left p q z c (st.set (some d) v) t' ip) (hh : hd0 a = h0)
    (hip : ip = true → t' 4 = true ∧ ∃ g cap, h0 = .slice (some ⟨g, 0, none⟩) l.length cap ∧ a.tmps.getD 83 undef = .slice (some ⟨g, 0, none⟩) (l.length + 1) cap) (ht : t' 4 = true → t' 1 = true ∧ t' 2 = true ∧ t' 3 = true) (ht3 : t' 3 = true → t' 2 = true) : o.wp C.P a w (I18 C b l rest out left p q z c h0 t') Q := by
  refine wp_put (snd hr (fun N' a' w' hr' hp => ?_))
  obtain ⟨u, dd, rfl⟩ := hp
  rw [hd] at hr' ⊢
  refine ⟨ip, N', _, hr', hF, ?_, fun hi => ?_, ht, ht3⟩
  · unfold hd0; rw [put_tmp (Ne.symm h1)]; exact hh
  · obtain ⟨k1, g, cap, k2, k3⟩ := hip hi
    exact ⟨k1, g, cap, k2, by rw [put_tmp (Ne.symm h2)]; exact k3⟩
theorem bits_set {listed : Array Bool} {i : Nat} (h : i < listed.size) : (fun j => (listed.setIfInBounds i true).getD j false) = upd (fun j => listed.getD j false) i := by
  funext j
  unfold upd
  simp only [Array.getD_eq_getD_getElem?, Array.getElem?_setIfInBounds]
  by_cases hj : i = j
  · subst hj; simp [h]
  · simp [hj, Ne.symm hj]
theorem wpOp_of {ops : Array Oper} {i : Nat} {o : Oper} {K : Act → World → Prop} {a : Act} {w : World} (ho : ops[i]? = some o) (hg : o.guard = none) (h : o.wp P a w K Q) : wpOp P ops Q i K a w := by
  unfold wpOp
  simp only [ho]
  rw [if_pos (by unfold Region.wanted; rw [hg])]
  exact .inl h
theorem r18_wp (ok : Cx.Ok ⟨P, tab, w0, S, X, β0⟩) (hm : P.follows .mixedOrders = true) {N : Nm} {a : Act} {w : World} (hl : l.length + 1 ≤ 1000000) (hr : Rel ⟨P, tab, w0, S, X, β0⟩ N st a w) (hF : F18 b l rest out left p q z c st (fun _ => false) false)
    (h6 : ∀ (o : Oper) (t : Nat → Bool) (a' : Act) (w' : World), o.op = .call { callee := .value (.tmp 79), args := #[.tmp 83, .tmp 84], argTypes := #[46, 46] } → o.dst = some 85 → t 0 = true → t 4 = true → t 5 = true → I18 ⟨P, tab, w0, S, X, β0⟩ b l rest out left p q z c (hd0 a) t a' w' → o.wp P a' w' (fun a'' w'' => Q .normal a'' w'') Q) :
    (Code.region 18 o18 true).wp P Q a w := by
  refine wp_region_any hm ?_
  refine any_inv (fun listed a' w' => listed.size = 7 ∧ ((listed.getD 6 false = false ∧ I18 ⟨P, tab, w0, S, X, β0⟩ b l rest out left p q z c (hd0 a) (fun j => listed.getD j false) a' w') ∨ ((∀ j, j < 7 → listed.getD j false = true) ∧ Q .normal a' w'))) (fun listed a' w' h => by rw [h.1]; rfl) (fun listed a' w' h hnil => ?_) (fun listed a' w' i h hi => ?_) _ _ _ _ (Nat.le_trans List.count_le_length (by simp)) ⟨by simp [o18_size], .inl ⟨?_, ?_⟩⟩
  · obtain ⟨hs, ⟨h6f, _⟩ | ⟨_, hq⟩⟩ := h
    · exfalso
      have key : ∀ (j : Nat) (o : Oper), j < 7 → o18[j]? = some o → (∀ e ∈ o.after, Region.binds .any e = true → listed.getD e.on false = true) → listed.getD j false = true := by
        intro j o hj ho ha
        cases hb : listed.getD j false with
        | true => rfl
        | false =>
          have : j ∈ Region.ready .any o18 listed := by
            refine mem_ready.2 ⟨?_, o, ho, ha⟩
            rw [Array.getD_eq_getD_getElem?, Array.getElem?_eq_getElem (by omega)] at hb ⊢
            exact hb
          rw [hnil] at this; cases this
      have none_of : ∀ {o : Oper}, o.after.toList.map (·.on) = [] → ∀ e ∈ o.after, Region.binds .any e = true → listed.getD e.on false = true := by
        intro o h0 e he _
        have : e ∈ o.after.toList := by simpa using he
        rw [List.map_eq_nil_iff.1 h0] at this; cases this
      have some_of : ∀ {o : Oper} {L : List (Nat × Bool)}, o.after.toList.map (fun e => (e.on, Region.binds .any e)) = L → (∀ x ∈ L, listed.getD x.1 false = true) → ∀ e ∈ o.after, Region.binds .any e = true → listed.getD e.on false = true := by
        intro o L h0 h1 e he _
        have : (e.on, Region.binds .any e) ∈ L := by rw [← h0]; exact List.mem_map.2 ⟨e, by simpa using he, rfl⟩
        exact h1 _ this
      obtain ⟨o0, q0, _, _, _, f0⟩ := o18_0
      obtain ⟨o1, q1, _, _, _, f1⟩ := o18_1
      obtain ⟨o2, q2, _, _, _, f2⟩ := o18_2
      obtain ⟨o3, q3, _, _, _, f3⟩ := o18_3
      obtain ⟨o4, q4, _, _, _, f4⟩ := o18_4
      obtain ⟨o5, q5, _, _, _, f5⟩ := o18_5
      obtain ⟨o6, q6, _, _, _, f6⟩ := o18_6
      have b0 := key 0 o0 (by omega) q0 (none_of f0)
      have b1 := key 1 o1 (by omega) q1 (none_of f1)
      have b2 := key 2 o2 (by omega) q2 (none_of f2)
      have b5 := key 5 o5 (by omega) q5 (none_of f5)
      have b3 := key 3 o3 (by omega) q3 (some_of f3 (fun x hx => by simp only [List.mem_cons, List.not_mem_nil, or_false] at hx; subst hx; exact b2))
      have b4 := key 4 o4 (by omega) q4 (some_of f4 (fun x hx => by
        simp only [List.mem_cons, List.not_mem_nil, or_false] at hx
        rcases hx with rfl | rfl
        · exact b1
        · exact b3))
      have b6 := key 6 o6 (by omega) q6 (some_of f6 (fun x hx => by
        simp only [List.mem_cons, List.not_mem_nil, or_false] at hx
        rcases hx with rfl | rfl | rfl | rfl
        · exact b0
        · exact b4
        · exact b5
        · exact b4))
      rw [h6f] at b6; cases b6
    · exact hq
  · obtain ⟨hs, h⟩ := h
    obtain ⟨hn, o, ho, hall⟩ := mem_ready.1 hi
    have hi7 : i < 7 := (Array.getElem?_eq_some_iff.1 ho).1
    have hil : i < listed.size := by omega
    have hnf : listed.getD i false = false := by
      rw [Array.getD_eq_getD_getElem?, Array.getElem?_eq_getElem hil] at hn ⊢
      exact hn
    have hI : listed.getD 6 false = false ∧ I18 ⟨P, tab, w0, S, X, β0⟩ b l rest out left p q z c (hd0 a) (fun j => listed.getD j false) a' w' := by
      rcases h with h | ⟨hall7, _⟩
      · exact h
      · have := hall7 i hi7
        rw [hnf] at this; cases this
    clear h
    obtain ⟨h6f, ip, N', st', hr', hF', hh, hip, ht4, ht3⟩ := hI
    have hbits := bits_set hil
    have h6f' : i ≠ 6 → (listed.setIfInBounds i true).getD 6 false = false := fun hne => by
      have := congrFun hbits 6
      simp only [upd] at this
      rw [this, if_neg (Ne.symm hne)]; exact h6f
    have some_in : ∀ {L : List (Nat × Bool)} {j : Nat}, o.after.toList.map (fun e => (e.on, Region.binds .any e)) = L → (j, true) ∈ L → listed.getD j false = true := by
      intro L j h0 h1
      rw [← h0] at h1
      obtain ⟨e, he, h2⟩ := List.mem_map.1 h1
      injection h2 with h2 h3
      rw [← h2]; exact hall e (by simpa using he) h3
    have wr : ∀ {o : Oper} {y : Nat → Option Bool}, o.guard = none → Region.wanted o y = true := fun h => by unfold Region.wanted; rw [h]
    have fin : ∀ {a'' : Act} {w'' : World}, i ≠ 6 → I18 ⟨P, tab, w0, S, X, β0⟩ b l rest out left p q z c (hd0 a) (upd (fun j => listed.getD j false) i) a'' w'' → ((listed.setIfInBounds i true).size = 7 ∧ (((listed.setIfInBounds i true).getD 6 false = false ∧ I18 ⟨P, tab, w0, S, X, β0⟩ b l rest out left p q z c (hd0 a) (fun j => (listed.setIfInBounds i true).getD j false) a'' w'') ∨ ((∀ j, j < 7 → (listed.setIfInBounds i true).getD j false = true) ∧ Q .normal a'' w''))) :=
      fun hne h => ⟨by simp [hs], .inl ⟨h6f' hne, by rw [hbits]; exact h⟩⟩
    have t4f : listed.getD 1 false = false ∨ listed.getD 3 false = false ∨ listed.getD 2 false = false ∨ listed.getD 4 false = false → listed.getD 4 false = false ∧ ip = false := by
      intro h
      have e4 : listed.getD 4 false = false := by
        cases h4 : listed.getD 4 false with
        | false => rfl
        | true =>
          obtain ⟨k1, k2, k3⟩ := ht4 h4
          rcases h with h | h | h | h
          · rw [show listed.getD 1 false = true from k1] at h; cases h
          · rw [show listed.getD 3 false = true from k3] at h; cases h
          · rw [show listed.getD 2 false = true from k2] at h; cases h
          · rw [h4] at h; cases h
      refine ⟨e4, ?_⟩
      cases hp : ip with
      | false => rfl
      | true => have := (hip hp).1; rw [show listed.getD 4 false = true from this] at e4; cases e4
    have h7 : i = 0 ∨ i = 1 ∨ i = 2 ∨ i = 3 ∨ i = 4 ∨ i = 5 ∨ i = 6 := by omega
    rcases h7 with rfl | rfl | rfl | rfl | rfl | rfl | rfl
    · obtain ⟨o', q0, f1, f2, f3, f4⟩ := o18_0
      rw [q0] at ho; cases ho
      refine wpOp_of q0 f3 ?_
      refine Oper.wp_mono (fun _ _ h => fin (by decide) h) (step_simple (d := 79) f2 (by decide) (by decide) ?_ hr' hF'.s0 hh hip ht4 ht3)
      have := s_load ok f1 (y := .ptr 8 [] 88) (v := .a (.fn 75 [5, 7, 8])) (st := st') (by unfold get1; rw [hF'.g4]) (by simp [St.load, hF'.r8])
      rwa [f2] at this
    · obtain ⟨o', q0, f1, f2, f3, f4⟩ := o18_1
      rw [q0] at ho; cases ho
      refine wpOp_of q0 f3 ?_
      obtain ⟨e4, rfl⟩ := t4f (.inl hnf)
      refine Oper.wp_mono (fun _ _ h => fin (by decide) h) (step_simple (d := 80) f2 (by decide) (by decide) ?_ hr' (hF'.s1 e4) hh hip (fun h => ⟨rfl, (ht4 h).2⟩) ht3)
      have := s_move (C := ⟨P, tab, w0, S, X, β0⟩) (st := st') (.inl f1)
      rwa [f2, hF'.g0 rfl] at this
    · obtain ⟨o', q0, f1, f2, f3, f4⟩ := o18_2
      rw [q0] at ho; cases ho
      refine wpOp_of q0 f3 ?_
      refine Oper.wp_mono (fun _ _ h => fin (by decide) h) (step_simple (d := 81) f2 (by decide) (by decide) ?_ hr' hF'.s2 hh hip (fun h => ⟨(ht4 h).1, rfl, (ht4 h).2.2⟩) (fun _ => rfl))
      have := s_move (C := ⟨P, tab, w0, S, X, β0⟩) (st := st') (.inl f1)
      rwa [f2, hF'.g9] at this
    · obtain ⟨o', q0, f1, f2, f3, f4⟩ := o18_3
      rw [q0] at ho; cases ho
      refine wpOp_of q0 f3 ?_
      have h2 : listed.getD 2 false = true := some_in f4 (by simp)
      refine Oper.wp_mono (fun _ _ h => fin (by decide) h) (step_simple (d := 82) f2 (by decide) (by decide) ?_ hr' hF'.s3 hh hip (fun h => ⟨(ht4 h).1, (ht4 h).2.1, rfl⟩) (fun _ => h2))
      have := s_buildSlice (C := ⟨P, tab, w0, S, X, β0⟩) (st := st') (st' := st') (st1 := st') (p := 2) (vs := [.I c]) (hh := none) (x := .iv 2 46 (.L [.I c])) ok f1 ty46 okE3 (by simp only [Tab.lits, hF'.x2 h2, if_true]; rfl) rfl (by show 1 * tab.sz 3 ≤ _; rw [show tab.sz 3 = 1 from rfl]; decide) rfl
      rwa [f2] at this
    · obtain ⟨o', q0, f1, f2, f3, f4⟩ := o18_4
      rw [q0] at ho; cases ho
      refine wpOp_of q0 f3 ?_
      have b1 : listed.getD 1 false = true := some_in f4 (by simp)
      have b3 : listed.getD 3 false = true := some_in f4 (by simp)
      have b2 : listed.getD 2 false = true := ht3 b3
      obtain ⟨e4, rfl⟩ := t4f (.inr (.inr (.inr hnf)))
      have hs80 : get1 st' (.tmp 80) = some (.own 9) := by unfold get1; rw [hF'.x1 b1 e4]
      have hs0 : get1 st' (.tmp 0) = some (.own 9) := by unfold get1; rw [hF'.g0 rfl]
      have hsz : a'.tmps.size = 86 := hr'.len.trans hF'.len
      have hh0 : a'.tmps.getD 0 undef = N'.β 9 := slot_own (get1_slot hr' hs0)
      have put83 : ∀ v, (a'.put (some 83) v).tmps.getD 83 undef = v := fun v => by
        unfold Act.put
        simp [Array.getD_eq_getD_getElem?, Array.getElem?_setIfInBounds, hsz]
      have put0 : ∀ v, hd0 (a'.put (some 83) v) = hd0 a := fun v => (hd0_put (by decide)).trans hh
      obtain ⟨v', w2, hx, hcase⟩ := append_keep (k := 9) (k2 := 10) (p := 2) (q := 2) (l := l) (news := [.I c]) (b := .iv 2 46 (.L [.I c])) ok hr' f1 rfl rfl rfl ty46 okE3 hs80 (by unfold get1; rw [hF'.x3 b3 e4]) (by simp [St.elems, ty46, asL]) (by simp) (hF'.r9 rfl) (room_of (by simpa using hl) (by rw [show (tab.row 3).bytes = 8 from rfl]; decide)) (by decide)
      refine wp_value (v := v') (w' := w2) hx ?_
      rw [f2]
      refine fin (by decide) ?_
      rcases hcase with ⟨N2, k1, k2, g, cap, k3, k4⟩ | ⟨N2, k1, k2, k3⟩
      · refine ⟨true, N2, _, k1.set (x := .v (.a (.own 10))) (fun _ => ⟨[N2.β 10], ⟨rfl, 3, by rw [St.sh, St.newRow, St.row_put, if_pos rfl]; rfl⟩, by rw [k2]; rfl⟩), hF'.s4a, put0 v', fun _ => ⟨rfl, g, cap, ?_, ?_⟩, fun _ => ⟨b1, b2, b3⟩, fun _ => b2⟩
        · rw [← hh]; show a'.tmps.getD 0 undef = _; rw [hh0, k3]
        · rw [put83, k4]; rfl
      · exact ⟨false, N2, _, k1.set (x := .v (.a (.own 10))) (fun _ => ⟨[N2.β 10], ⟨rfl, 3, by rw [St.sh, St.newRow, St.row_put, if_pos rfl]; rfl⟩, by rw [k2]; rfl⟩), hF'.s4b, put0 v', fun h => (by cases h), fun _ => ⟨b1, b2, b3⟩, fun _ => b2⟩
    · obtain ⟨o', q0, f1, f2, f3, f4⟩ := o18_5
      rw [q0] at ho; cases ho
      refine wpOp_of q0 f3 ?_
      refine Oper.wp_mono (fun _ _ h => fin (by decide) h) (step_simple (d := 84) f2 (by decide) (by decide) ?_ hr' hF'.s5 hh hip ht4 ht3)
      have := s_move (C := ⟨P, tab, w0, S, X, β0⟩) (st := st') (.inl f1)
      rwa [f2, hF'.g10] at this
    · obtain ⟨o', q0, f1, f2, f3, f4⟩ := o18_6
      rw [q0] at ho; cases ho
      refine wpOp_of q0 f3 ?_
      have b0 : listed.getD 0 false = true := some_in f4 (by simp)
      have b4 : listed.getD 4 false = true := some_in f4 (by simp)
      have b5 : listed.getD 5 false = true := some_in f4 (by simp)
      obtain ⟨b1, b2, b3⟩ := ht4 b4
      refine Oper.wp_mono (fun a'' w'' hq => ⟨by simp [hs], .inr ⟨fun j hj => ?_, hq⟩⟩) (h6 _ (fun j => listed.getD j false) _ _ f1 f2 b0 b4 b5 ⟨ip, N', st', hr', hF', hh, hip, ht4, ht3⟩)
      have hb := congrFun hbits j
      rw [show (listed.setIfInBounds 6 true).getD j false = upd (fun j => listed.getD j false) 6 j from hb]
      unfold upd
      split
      · rfl
      · have : j = 0 ∨ j = 1 ∨ j = 2 ∨ j = 3 ∨ j = 4 ∨ j = 5 := by omega
        rcases this with rfl | rfl | rfl | rfl | rfl | rfl
        · exact b0
        · exact b1
        · exact b2
        · exact b3
        · exact b4
        · exact b5
  · simp [Array.getD_eq_getD_getElem?, o18_size]
  · have hrep : (fun j => (Array.replicate o18.size false).getD j false) = fun _ => false := by
      funext j
      simp only [Array.getD_eq_getD_getElem?, Array.getElem?_replicate]
      split <;> rfl
    rw [hrep]
    exact ⟨false, N, st, hr.draw, hF, rfl, fun h => (by cases h), fun h => (by cases h), fun h => (by cases h)⟩
end
end
end Go.Proofs.Ytficdonjodadlaa
end
section
set_option linter.unusedVariables false
set_option linter.unusedSimpArgs false
namespace Go.Proofs.Ytficdonjodadlaa
open Go.Ev Go.Proofs
section
set_option maxHeartbeats 8000000
set_option maxRecDepth 10000
def S75 (P : Program) (b : IV) (p : Nat) (left l res : List IV) : Prop :=
  ∀ (out : List IV) (z : Nat) (C : Cx) (N : Nm) (vs : List Value) (mem : Mem), out.length + res.length ≤ 1000000 → C.P = P → C.T = tab → C.Ok →
    rowIn mem 5 = some (.box true 44 [0] (.a (.own 6))) → rowIn mem 6 = some (.arr 2 46 out) → rowIn mem 7 = some (.box true 29 [] (.a (.iv p 29 b))) → rowIn mem 8 = some (.box true 88 [] (.a (.fn 75 [5, 7, 8]))) → rowIn mem 9 = some (.arr 2 3 l) → rowIn mem 10 = none →
    Rel C N ⟨[At.own 9, .iv z 46 (.L left), .ptr 5 [] 44, .ptr 7 [] 29, .ptr 8 [] 88].map (fun x => .v (.a x)), mem⟩ { tmps := vs.toArray, defers := [] } C.w0 →
    Calls P 75 vs.toArray C.w0 (fun e w' => ∃ N' mem', e = .returned (pack []) ∧ Rel C N' ⟨[], mem'⟩ { tmps := #[], defers := [] } w' ∧
      rowIn mem' 5 = some (.box true 44 [0] (.a (.own 6))) ∧ rowIn mem' 6 = some (.arr 2 46 (out ++ res)) ∧ rowIn mem' 7 = some (.box true 29 [] (.a (.iv p 29 b))) ∧ rowIn mem' 8 = some (.box true 88 [] (.a (.fn 75 [5, 7, 8]))) ∧ rowIn mem' 9 = some (.arr 2 3 l) ∧ N'.β 9 = vs.getD 0 undef)
structure G75 (b : IV) (l out left : List IV) (p z : Nat) (st : St) : Prop where
  len : st.env.length = 86
  g0 : st.get (.tmp 0) = .v (.a (.own 9))
  g1 : st.get (.tmp 1) = .v (.a (.iv z 46 (.L left)))
  g2 : st.get (.tmp 2) = .v (.a (.ptr 5 [] 44))
  g3 : st.get (.tmp 3) = .v (.a (.ptr 7 [] 29))
  g4 : st.get (.tmp 4) = .v (.a (.ptr 8 [] 88))
  r5 : st.row 5 = some (.box true 44 [0] (.a (.own 6)))
  r6 : st.row 6 = some (.arr 2 46 out)
  r7 : st.row 7 = some (.box true 29 [] (.a (.iv p 29 b)))
  r8 : st.row 8 = some (.box true 88 [] (.a (.fn 75 [5, 7, 8])))
  r9 : st.row 9 = some (.arr 2 3 l)
  r10 : st.row 10 = none
def ρ75 : List (Nat × Nat) := [(5, 5), (6, 6), (7, 7), (8, 8), (10, 9)]
theorem put_self {a : Act} {d : Nat} (h : d < a.tmps.size) : a.put (some d) (a.tmps.getD d undef) = a := by
  have e : a.tmps.setIfInBounds d (a.tmps.getD d undef) = a.tmps := by
    apply Array.ext_getElem?
    intro i
    rw [Array.getElem?_setIfInBounds]
    by_cases e : d = i
    · subst e; simp [Array.getD_eq_getD_getElem?, h]
    · simp [e]
  show ({ a with tmps := a.tmps.setIfInBounds d (a.tmps.getD d undef) } : Act) = a
  rw [e]
variable {b : IV} {l rest out left res : List IV} {p z : Nat} {c : Int}
variable {P : Program} {w0 : World} {S : Nat → Nat → Prop} {X : Nat → Prop} {β0 : Nat → Value} {Q : Exit → Act → World → Prop}
theorem call75 (ok : Cx.Ok ⟨P, tab, w0, S, X, β0⟩) (hcb : Callable P 75) (hp : p ≠ 0) (hb : out.length + res.length ≤ 1000000) (ih : S75 P b p rest (l ++ [.I c]) res) {o : Oper} {t : Nat → Bool} {a : Act} {w : World} {h0 : Value} (ho : o.op = .call { callee := .value (.tmp 79), args := #[.tmp 83, .tmp 84], argTypes := #[46, 46] }) (hd : o.dst = some 85) (b0 : t 0 = true) (b4 : t 4 = true) (b5 : t 5 = true)
    (hI : I18 ⟨P, tab, w0, S, X, β0⟩ b l rest out left p 2 z c h0 t a w)
    (hq : ∀ N' st' a' w', Rel ⟨P, tab, w0, S, X, β0⟩ N' st' a' w' → G75 b l (out ++ res) left p z st' → st'.get (.tmp 9) = .v (.a (.int .i64 c)) → hd0 a' = h0 → Q .normal a' w') : o.wp P a w (fun a' w' => Q .normal a' w') Q := by
  obtain ⟨ip, N, st, hr, hF, hh, hip, ht4, ht3⟩ := hI
  obtain ⟨x83, h10⟩ := hF.x4 b4
  have x79 := hF.x0 b0
  have x84 := hF.x5 b5
  have hn1 : nodup (ρ75.map (·.1)) = true := rfl
  have hn2 : nodup (ρ75.map (·.2)) = true := rfl
  have hV : ∀ k, k = 3 → k ∉ ρ75.map (·.1) := by rintro k rfl; decide
  have hok : st.handOk ρ75 = true := by simp [St.handOk, ρ75, hF.r5, hF.r6, hF.r7, hF.r8, h10]
  have hsl := hr.get (.tmp 79)
  rw [x79] at hsl
  obtain ⟨cs, ⟨hv, _⟩, hv2⟩ := hsl rfl
  have hfv : a.eval (.tmp 79) = .func (.func 75) #[] ([5, 7, 8].map N.β).toArray := by rw [hv2, hv]; rfl
  have hex := exec_call (w := w) ho rfl hfv hcb
  have h83 : a.eval (.tmp 83) = N.β 10 := slot_own (get1_slot hr (by unfold get1; rw [x83]))
  have h84 : a.eval (.tmp 84) = N.β 3 := slot_own (get1_slot hr (by unfold get1; rw [x84]))
  obtain ⟨xs, hxs⟩ : ∃ xs, xs = [At.own 9, .iv 0 46 (.L rest), .ptr 5 [] 44, .ptr 7 [] 29, .ptr 8 [] 88] := ⟨_, rfl⟩
  have c5 : (callSt 5 st ρ75 xs).row 5 = some (.box true 44 [0] (.a (.own 6))) := by rw [callSt_row hn2]; simp [ρ75, swap, List.lookup, hF.r5, Row.tr, V1.map, At.tr]
  have c6 : (callSt 5 st ρ75 xs).row 6 = some (.arr 2 46 out) := by rw [callSt_row hn2]; simp [ρ75, swap, List.lookup, hF.r6, Row.tr]
  have c7 : (callSt 5 st ρ75 xs).row 7 = some (.box true 29 [] (.a (.iv p 29 b))) := by rw [callSt_row hn2]; simp [ρ75, swap, List.lookup, hF.r7, Row.tr, V1.map, At.tr, hp]
  have c8 : (callSt 5 st ρ75 xs).row 8 = some (.box true 88 [] (.a (.fn 75 [5, 7, 8]))) := by rw [callSt_row hn2]; simp [ρ75, swap, List.lookup, hF.r8, Row.tr, V1.map, At.tr]
  have c9 : (callSt 5 st ρ75 xs).row 9 = some (.arr 2 3 (l ++ [.I c])) := by rw [callSt_row hn2]; simp [ρ75, swap, List.lookup, h10, Row.tr]
  have c10 : (callSt 5 st ρ75 xs).row 10 = none := by rw [callSt_row hn2]; simp [ρ75, swap, List.lookup]
  have okC := callCx_ok (ρ := ρ75) (V := fun k => k = 3) ok hr hV
  have hptr : ∀ {k k' : Nat} {tt : TypeId} {x : Bool} {ow : List Nat} {cc : V1}, (k, k') ∈ ρ75 → st.row k = some (.box x tt ow cc) → (∃ x' ow' cc', (callSt 5 st ρ75 xs).row k' = some (.box x' tt ow' cc')) → SlotV (callCx ⟨P, tab, w0, S, X, β0⟩ N st w ρ75 (fun k => k = 3)) (callNm ⟨P, tab, w0, S, X, β0⟩ N st w ρ75 (fun k => k = 3)) (callSt 5 st ρ75 xs).sh w (.a (.ptr k' [] tt)) (N.β k) := by
    intro k k' tt x ow cc hm hrow ⟨x', ow', cc', hrow'⟩ _
    obtain ⟨bk, cs, q1, q2, q3, q4, q5⟩ := hr.rows k _ hrow
    refine ⟨[.pointer (some ⟨bk, 0, none⟩)], ⟨bk, 0, .box tt, by rw [St.sh, hrow']; rfl, rfl, ?_, rfl⟩, by rw [q1]; rfl⟩
    show blk ((callCx ⟨P, tab, w0, S, X, β0⟩ N st w ρ75 (fun k => k = 3)).β0 k') = some bk
    rw [callCx_β hn2 hm, q1]; rfl
  obtain ⟨hm, hhm⟩ : ∃ hm, hm = st.handOver 5 ρ75 := ⟨_, rfl⟩
  have ecs : callSt 5 st ρ75 xs = ⟨xs.map (fun x => .v (.a x)), hm⟩ := by rw [hhm]; rfl
  have hrel := call_rel (nk := 5) (xs := xs) (vs := [a.eval (.tmp 83), a.eval (.tmp 84), N.β 5, N.β 7, N.β 8]) (V := fun k => k = 3) ok hr hn1 hn2 hok hV (by rw [hxs]; rfl) (fun i hi => by
    have hi5 : i < 5 := by rw [hxs] at hi; exact hi
    have h5 : i = 0 ∨ i = 1 ∨ i = 2 ∨ i = 3 ∨ i = 4 := by omega
    rcases h5 with rfl | rfl | rfl | rfl | rfl
    · rw [show xs.getD 0 .U = .own 9 by rw [hxs]; rfl]
      refine fun _ => ⟨[N.β 10], ⟨?_, 3, by rw [St.sh, c9]; rfl⟩, by show a.eval (.tmp 83) = _; rw [h83]; rfl⟩
      show _ = [(callCx ⟨P, tab, w0, S, X, β0⟩ N st w ρ75 (fun k => k = 3)).β0 9]
      rw [callCx_β hn2 (k := 10) (by decide)]
    · rw [show xs.getD 1 .U = .iv 0 46 (.L rest) by rw [hxs]; rfl]
      refine fun _ => ⟨[N.β 3], ?_, by show a.eval (.tmp 84) = _; rw [h84]; rfl⟩
      exact view_sound (ρ := ρ75) (V := fun k => k = 3) ok hr (x := .own 3) (y := .iv 0 46 (.L rest)) ⟨rfl, 3, by rw [St.sh, hF.r3]; rfl⟩ (fun k hk => by simpa [At.viewKeys] using hk) (by simp [St.view1, ty46, hF.r3]) (by simp [Tab.iv1])
    · rw [show xs.getD 2 .U = .ptr 5 [] 44 by rw [hxs]; rfl]
      exact hptr (by decide) hF.r5 ⟨_, _, _, c5⟩
    · rw [show xs.getD 3 .U = .ptr 7 [] 29 by rw [hxs]; rfl]
      exact hptr (by decide) hF.r7 ⟨_, _, _, c7⟩
    · rw [show xs.getD 4 .U = .ptr 8 [] 88 by rw [hxs]; rfl]
      exact hptr (by decide) hF.r8 ⟨_, _, _, c8⟩)
  rw [ecs] at c5 c6 c7 c8 c9 c10 hrel
  clear hptr ecs hhm
  unfold Oper.wp
  rw [hex, Oper.upon_enter]
  have hargs : ({ callee := .value (.tmp 79), args := #[.tmp 83, .tmp 84], argTypes := #[46, 46] } : Call).args.map a.eval ++ ([5, 7, 8].map N.β).toArray = [a.eval (.tmp 83), a.eval (.tmp 84), N.β 5, N.β 7, N.β 8].toArray := by apply Array.ext'; simp
  rw [hargs]
  refine (ih out 0 _ _ _ hm hb rfl rfl okC c5 c6 c7 c8 c9 c10 (by rw [hxs] at hrel; exact hrel)).mono (fun e w2 he => ?_)
  obtain ⟨N2, m, rfl, hr2, m5, m6, m7, m8, m9, hβ⟩ := he
  have hβ : N2.β 9 = N.β 10 := hβ.trans h83
  obtain ⟨_, _, cf, q3, q4⟩ := hr2.rows 9 _ m9
  obtain ⟨mk, hmk⟩ : ∃ mk, mk = ((⟨[], m⟩ : St).kill 9).mem := ⟨_, rfl⟩
  have hr3 := hr2.kill 9
  have e3 : ((⟨[], m⟩ : St).kill 9) = ⟨[], mk⟩ := by rw [hmk]; rfl
  have hrow : ∀ j, rowIn mk j = if j = 9 then none else (rowIn m j).map (Row.map (At.kill 9)) := fun j => by
    have := St.row_kill (st := (⟨[], m⟩ : St)) 9 j
    rw [e3] at this
    exact this
  rw [e3] at hr3
  have k5 : rowIn mk 5 = some (.box true 44 [0] (.a (.own 6))) := by rw [hrow, m5]; rfl
  have k6 : rowIn mk 6 = some (.arr 2 46 (out ++ res)) := by rw [hrow, m6]; rfl
  have k7 : rowIn mk 7 = some (.box true 29 [] (.a (.iv p 29 b))) := by rw [hrow, m7]; rfl
  have k8 : rowIn mk 8 = some (.box true 88 [] (.a (.fn 75 [5, 7, 8]))) := by rw [hrow, m8]; rfl
  have k9 : rowIn mk 9 = none := by rw [hrow]; rfl
  obtain ⟨st3, hst3⟩ : ∃ st3, st3 = (((((st.killL [6, 10]).putRow 5 (some (.box true 44 [0] (.a (.own 6))))).putRow 6 (some (.arr 2 46 (out ++ res)))).putRow 7 (some (.box true 29 [] (.a (.iv p 29 b))))).putRow 8 (some (.box true 88 [] (.a (.fn 75 [5, 7, 8]))))).putRow 10 none := ⟨_, rfl⟩
  have hback : st.takeBack ρ75 [5, 7, 8] mk = some st3 := by
    rw [hst3]
    simp [St.takeBack, elders, backRows, backRow, ρ75, k5, k6, k7, k8, k9, hF.r5, hF.r7, hF.r8, V1.map, At.tr, swap, List.lookup, hp]
  obtain ⟨N1, hr4, _, hhs⟩ := back_sound ok hr hn1 hn2 hr3 hback
  have hhs := hhs [N2.β 9] (hs_one (fun bb hbb => by
    obtain ⟨x1, x2, x3⟩ := hr2.frm.own 9 bb (by show (rowIn m 9).isSome; rw [m9]; rfl) hbb
    refine ⟨x1, x2, x3, fun j hj e => ?_⟩
    have hj' : (rowIn mk j).isSome := hj
    rw [hrow] at hj'
    split at hj'
    · cases hj'
    · rename_i hne
      exact hne (hr2.frm.sep j 9 bb (by show (rowIn m j).isSome; simpa using hj') (by show (rowIn m 9).isSome; rw [m9]; rfl) e hbb)))
  have g1 : st3.get (.tmp 1) = .v (.a (.iv z 46 (.L left))) := by rw [hst3]; simp [get_put, get_killL, hF.g1, SV.map, V1.map, At.killL]
  have g2 : st3.get (.tmp 2) = .v (.a (.ptr 5 [] 44)) := by rw [hst3]; simp [get_put, get_killL, hF.g2, SV.map, V1.map, At.killL]
  have g3 : st3.get (.tmp 3) = .v (.a (.ptr 7 [] 29)) := by rw [hst3]; simp [get_put, get_killL, hF.g3, SV.map, V1.map, At.killL]
  have g4 : st3.get (.tmp 4) = .v (.a (.ptr 8 [] 88)) := by rw [hst3]; simp [get_put, get_killL, hF.g4, SV.map, V1.map, At.killL]
  have g9 : st3.get (.tmp 9) = .v (.a (.int .i64 c)) := by rw [hst3]; simp [get_put, get_killL, hF.g9, SV.map, V1.map, At.killL]
  have hlen : st3.env.length = 86 := by rw [hst3]; simp only [len_put, len_killL]; exact hF.len
  have hpk : pack [] = undef := rfl
  have fin : ∀ {N5 : Nm} {st5 : St}, Rel ⟨P, tab, w0, S, X, β0⟩ N5 st5 a w2 → st5.env.length = 86 → st5.get (.tmp 0) = .v (.a (.own 9)) → (∀ d, d ∈ [1, 2, 3, 4, 9] → st5.get (.tmp d) = st3.get (.tmp d)) → (∀ j, j ∈ [5, 6, 7, 8, 10] → st5.row j = st3.row j) → st5.row 9 = some (.arr 2 3 l) → Q .normal (a.put o.dst (pack [])) w2 := by
    intro N5 st5 hr5 l5 z0 zd zr z9
    rw [hd, hpk]
    have r3 : ∀ j, j ∈ [5, 6, 7, 8, 10] → (st5.set (some 85) (.tup [])).row j = st3.row j := fun j hj => by rw [row_set]; exact zr j hj
    have gg : ∀ d, d ∈ [1, 2, 3, 4, 9] → (st5.set (some 85) (.tup [])).get (.tmp d) = st3.get (.tmp d) := fun d hd2 => by
      rw [get_set_ne (by intro e; subst e; revert hd2; decide)]; exact zd d hd2
    refine hq N5 _ _ _ (hr5.set (d := some 85) undef_slot) ⟨by rw [len_set]; exact l5, by rw [get_set_ne (by decide)]; exact z0, (gg 1 (by decide)).trans g1, (gg 2 (by decide)).trans g2, (gg 3 (by decide)).trans g3, (gg 4 (by decide)).trans g4, ?_, ?_, ?_, ?_, by rw [row_set]; exact z9, ?_⟩ ((gg 9 (by decide)).trans g9) ((hd0_put (by decide)).trans hh)
    · rw [r3 5 (by decide), hst3]; simp [row_put]
    · rw [r3 6 (by decide), hst3]; simp [row_put]
    · rw [r3 7 (by decide), hst3]; simp [row_put]
    · rw [r3 8 (by decide), hst3]; simp [row_put]
    · rw [r3 10 (by decide), hst3]; simp [row_put]
  show Q .normal (a.put o.dst (pack [])) w2
  cases ip with
  | false =>
    refine fin hr4 hlen ?_ (fun _ _ => rfl) (fun _ _ => rfl) ?_
    · rw [hst3]; simp [get_put, get_killL, hF.g0 rfl, SV.map, V1.map, At.killL]
    · rw [hst3]; simp [row_put, row_killL, hF.r9 rfl, Row.map]
  | true =>
    obtain ⟨_, g, cap, e1, e2⟩ := hip rfl
    have e2 : N.β 10 = .slice (some ⟨g, 0, none⟩) (l.length + 1) cap := by rw [← h83]; exact e2
    have hflat : ∀ {w w' : World} {E E' : Nat → Prop} {v : IV} {cs : List Value}, Rep tab w E 3 v cs → Rep tab w' E' 3 v cs := fun h => ok.tab.flat 3 rfl _ _ _ _ _ _ h
    have hown : OwnV ⟨P, tab, w0, S, X, β0⟩ N1 w2 2 3 l h0 := by
      refine ⟨okE3, cf, fun i hi => hflat (E := (callCx ⟨P, tab, w0, S, X, β0⟩ N st w ρ75 (fun k => k = 3)).E N2 2) (w := w2) ?_, ?_⟩
      · have := q3 i (by rw [List.length_append]; omega)
        rw [show (l ++ [IV.I c]).getD i .N = l.getD i .N by simp only [List.getD, List.getElem?_append_left hi]] at this
        exact this
      · rw [hβ, e2, List.length_append] at q4
        rw [e1]
        exact owns_take (fun i hi => (q3 i (by rw [List.length_append]; omega)).len okC.tab) (by omega) q4
    have hH : HsOk ⟨P, tab, w0, S, X, β0⟩ N1 st3 w2 [h0] := hs_one (fun bb hbb => by
      refine hhs.own (N2.β 9) (by simp) bb ?_
      rw [hβ, e2]; rw [e1] at hbb; exact hbb)
    obtain ⟨n1, n2⟩ := hr4.newRow ok (k := 9) hH hown
    have hsz : a.tmps.size = 86 := hr.len.trans hF.len
    have hslot : Slot ⟨P, tab, w0, S, X, β0⟩ (N1.upd 9 h0) (st3.newRow 9 (.arr 2 3 l)).sh w2 (.v (.a (.own 9))) (a.tmps.getD 0 undef) := fun _ => ⟨[(N1.upd 9 h0).β 9], ⟨rfl, 3, n2⟩, by show a.tmps.getD 0 undef = (N1.upd 9 h0).β 9; rw [show (N1.upd 9 h0).β 9 = h0 by simp [Nm.upd]]; exact hh⟩
    have n3 := n1.set (d := some 0) hslot
    rw [put_self (by omega)] at n3
    refine fin n3 (by rw [len_set]; simp only [St.newRow, len_put, len_kill]; exact hlen) (get_set_eq (by show 0 < ((st3.kill 9).putRow 9 _).env.length; rw [len_put, len_kill, hlen]; decide)) (fun d hd2 => ?_) (fun j hj => ?_) ?_
    · rw [get_set_ne (by intro e; subst e; revert hd2; decide)]
      simp only [St.newRow, get_put, get_kill]
      simp only [List.mem_cons, List.not_mem_nil, or_false] at hd2
      rcases hd2 with rfl | rfl | rfl | rfl | rfl
      · rw [g1]; rfl
      · rw [g2]; rfl
      · rw [g3]; rfl
      · rw [g4]; rfl
      · rw [g9]; rfl
    · have hj9 : j ≠ 9 := by intro e; subst e; revert hj; decide
      rw [row_set]
      simp only [St.newRow, row_put, if_neg hj9, St.row_kill]
      simp only [List.mem_cons, List.not_mem_nil, or_false] at hj
      rcases hj with rfl | rfl | rfl | rfl | rfl
      all_goals (rw [hst3]; simp [row_put, Row.map, V1.map, At.kill])
    · rw [row_set]; simp [St.newRow, row_put]
end
end Go.Proofs.Ytficdonjodadlaa
end
section
set_option linter.unusedSimpArgs false
set_option linter.unusedVariables false
set_option maxRecDepth 100000
set_option maxHeartbeats 4000000
namespace Go.Proofs.Ytficdonjodadlaa
open Go.Ev Go.Proofs
theorem p75_0 (ext : CallF) (k cur : Nat) (b : IV) (l left out : List IV) (p z : Nat)  (st : St) (hG : G75 b l out left p z st)  : Runs tab fx75 (tab.run ext k) k cur (sq1 (sq1 c75)) st (fun e s => e = .normal ∧ s.get (.tmp 15) = .v (.a (.bool (decide ((left.length : Int) = 0)))) ∧ s.env.length = 86 ∧ s.get (.tmp 0) = .v (.a (.own 9)) ∧ s.get (.tmp 1) = .v (.a (.iv z 46 (.L left))) ∧ s.get (.tmp 2) = .v (.a (.ptr 5 [] 44)) ∧ s.get (.tmp 3) = .v (.a (.ptr 7 [] 29)) ∧ s.get (.tmp 4) = .v (.a (.ptr 8 [] 88)) ∧ s.row 5 = some (.box true 44 [0] (.a (.own 6))) ∧ s.row 6 = some (.arr 2 46 (out)) ∧ s.row 7 = some (.box true 29 [] (.a (.iv p 29 b))) ∧ s.row 8 = some (.box true 88 [] (.a (.fn 75 [5, 7, 8]))) ∧ s.row 9 = some (.arr 2 3 l) ∧ s.row 10 = none) := by
  obtain ⟨hn, g0, g1, g2, g3, g4, r5, r6, r7, r8, r9, r10⟩ := hG
  unfold c75
  rw [co75]
  simp only [Try.f75, Option.getD_some, sq1_seq, sq2_seq, inBlock_block, inLoop_loop, cThen_cond]
  refine rn ?_
  simp (maxDischargeDepth := 9) only [go_sem, Nat.reduceMul, Nat.reduceAdd, Nat.reduceLeDiff, Int.reduceSub, Int.reduceNeg, Int.reduceLT, Int.reduceLE, Int.reduceEq, *, has_ans, List.length_replicate, Nat.le_refl]
theorem p75_1 (ext : CallF) (k cur : Nat) (b : IV) (l left out : List IV) (p z : Nat)  (st : St) (hG : G75 b l out left p z st) (hll : l.length ≤ 1000000) : Runs tab fx75 (tab.run ext k) k cur (sq1 (cThen (sq2 (sq1 c75)))) st (fun e s => e = .normal ∧ s.get (.tmp 7) = .v (.a (.own 1)) ∧ s.row 1 = some (.arr 2 3 (List.replicate l.length (.I 0))) ∧ s.env.length = 86 ∧ s.get (.tmp 0) = .v (.a (.own 9)) ∧ s.get (.tmp 1) = .v (.a (.iv z 46 (.L left))) ∧ s.get (.tmp 2) = .v (.a (.ptr 5 [] 44)) ∧ s.get (.tmp 3) = .v (.a (.ptr 7 [] 29)) ∧ s.get (.tmp 4) = .v (.a (.ptr 8 [] 88)) ∧ s.row 5 = some (.box true 44 [0] (.a (.own 6))) ∧ s.row 6 = some (.arr 2 46 (out)) ∧ s.row 7 = some (.box true 29 [] (.a (.iv p 29 b))) ∧ s.row 8 = some (.box true 88 [] (.a (.fn 75 [5, 7, 8]))) ∧ s.row 9 = some (.arr 2 3 l) ∧ s.row 10 = none) := by
  obtain ⟨hn, g0, g1, g2, g3, g4, r5, r6, r7, r8, r9, r10⟩ := hG
  unfold c75
  rw [co75]
  simp only [Try.f75, Option.getD_some, sq1_seq, sq2_seq, inBlock_block, inLoop_loop, cThen_cond]
  refine rn ?_
  simp (maxDischargeDepth := 9) only [go_sem, Nat.reduceMul, Nat.reduceAdd, Nat.reduceLeDiff, Int.reduceSub, Int.reduceNeg, Int.reduceLT, Int.reduceLE, Int.reduceEq, *, has_ans, List.length_replicate, Nat.le_refl]
theorem p75_3 (ext : CallF) (k cur : Nat) (b : IV) (l left out : List IV) (p z : Nat)  (st : St) (hG : G75 b l out left p z st) (ho : out.length + 1 ≤ 1000000) (hx : st.get (.tmp 7) = .v (.a (.own 1))) (hy : st.row 1 = some (.arr 2 3 l)) : Runs tab fx75 (tab.run ext k) k cur (sq2 (sq2 (cThen (sq2 (sq1 c75))))) st (fun e s => e = .ret ∧ s.env.length = 86 ∧ s.get (.tmp 0) = .v (.a (.own 9)) ∧ s.get (.tmp 1) = .v (.a (.iv z 46 (.L left))) ∧ s.get (.tmp 2) = .v (.a (.ptr 5 [] 44)) ∧ s.get (.tmp 3) = .v (.a (.ptr 7 [] 29)) ∧ s.get (.tmp 4) = .v (.a (.ptr 8 [] 88)) ∧ s.row 5 = some (.box true 44 [0] (.a (.own 6))) ∧ s.row 6 = some (.arr 2 46 (out ++ [.L l])) ∧ s.row 7 = some (.box true 29 [] (.a (.iv p 29 b))) ∧ s.row 8 = some (.box true 88 [] (.a (.fn 75 [5, 7, 8]))) ∧ s.row 9 = some (.arr 2 3 l) ∧ s.row 10 = none) := by
  obtain ⟨hn, g0, g1, g2, g3, g4, r5, r6, r7, r8, r9, r10⟩ := hG
  unfold c75
  rw [co75]
  simp only [Try.f75, Option.getD_some, sq1_seq, sq2_seq, inBlock_block, inLoop_loop, cThen_cond]
  refine rn ?_
  simp (maxDischargeDepth := 9) only [go_sem, Nat.reduceMul, Nat.reduceAdd, Nat.reduceLeDiff, Int.reduceSub, Int.reduceNeg, Int.reduceLT, Int.reduceLE, Int.reduceEq, *, has_ans, List.length_replicate, Nat.le_refl]
theorem p75_4 (ext : CallF) (k cur : Nat) (b : IV) (l left out : List IV) (p z : Nat)  (st : St) (hG : G75 b l out left p z st)  : Runs tab fx75 (tab.run ext k) k cur (sq1 (sq2 c75)) st (fun e s => e = .normal ∧ s.get (.tmp 8) = .v (.a (.int .i64 0)) ∧ s.env.length = 86 ∧ s.get (.tmp 0) = .v (.a (.own 9)) ∧ s.get (.tmp 1) = .v (.a (.iv z 46 (.L left))) ∧ s.get (.tmp 2) = .v (.a (.ptr 5 [] 44)) ∧ s.get (.tmp 3) = .v (.a (.ptr 7 [] 29)) ∧ s.get (.tmp 4) = .v (.a (.ptr 8 [] 88)) ∧ s.row 5 = some (.box true 44 [0] (.a (.own 6))) ∧ s.row 6 = some (.arr 2 46 (out)) ∧ s.row 7 = some (.box true 29 [] (.a (.iv p 29 b))) ∧ s.row 8 = some (.box true 88 [] (.a (.fn 75 [5, 7, 8]))) ∧ s.row 9 = some (.arr 2 3 l) ∧ s.row 10 = none) := by
  obtain ⟨hn, g0, g1, g2, g3, g4, r5, r6, r7, r8, r9, r10⟩ := hG
  unfold c75
  rw [co75]
  simp only [Try.f75, Option.getD_some, sq1_seq, sq2_seq, inBlock_block, inLoop_loop, cThen_cond]
  refine rn ?_
  simp (maxDischargeDepth := 9) only [go_sem, Nat.reduceMul, Nat.reduceAdd, Nat.reduceLeDiff, Int.reduceSub, Int.reduceNeg, Int.reduceLT, Int.reduceLE, Int.reduceEq, *, has_ans, List.length_replicate, Nat.le_refl]
theorem p75_7 (ext : CallF) (k cur : Nat) (b : IV) (l left out : List IV) (p z : Nat) (c : Nat) (st : St) (hG : G75 b l out left p z st) (hx : st.get (.tmp 8) = .v (.a (.int .i64 (c : Nat)))) : Runs tab fx75 (tab.run ext k) k cur (sq1 (sq2 (sq2 (sq2 c75)))) st (fun e s => e = .normal ∧ s.get (.tmp 9) = .v (.a (.int .i64 (c : Nat))) ∧ s.env.length = 86 ∧ s.get (.tmp 0) = .v (.a (.own 9)) ∧ s.get (.tmp 1) = .v (.a (.iv z 46 (.L left))) ∧ s.get (.tmp 2) = .v (.a (.ptr 5 [] 44)) ∧ s.get (.tmp 3) = .v (.a (.ptr 7 [] 29)) ∧ s.get (.tmp 4) = .v (.a (.ptr 8 [] 88)) ∧ s.row 5 = some (.box true 44 [0] (.a (.own 6))) ∧ s.row 6 = some (.arr 2 46 (out)) ∧ s.row 7 = some (.box true 29 [] (.a (.iv p 29 b))) ∧ s.row 8 = some (.box true 88 [] (.a (.fn 75 [5, 7, 8]))) ∧ s.row 9 = some (.arr 2 3 l) ∧ s.row 10 = none) := by
  obtain ⟨hn, g0, g1, g2, g3, g4, r5, r6, r7, r8, r9, r10⟩ := hG
  unfold c75
  rw [co75]
  simp only [Try.f75, Option.getD_some, sq1_seq, sq2_seq, inBlock_block, inLoop_loop, cThen_cond]
  refine rn ?_
  simp (maxDischargeDepth := 9) only [go_sem, Nat.reduceMul, Nat.reduceAdd, Nat.reduceLeDiff, Int.reduceSub, Int.reduceNeg, Int.reduceLT, Int.reduceLE, Int.reduceEq, *, has_ans, List.length_replicate, Nat.le_refl]
theorem p75_9 (ext : CallF) (k cur : Nat) (b : IV) (l left out : List IV) (p z : Nat) (c : Nat) (st : St) (hG : G75 b l out left p z st) (hc : c ≤ 1000000) (hx : st.get (.tmp 9) = .v (.a (.int .i64 (c : Nat)))) : Runs tab fx75 (tab.run ext k) k cur (sq2 (sq2 (inLoop (inBlock (sq2 (sq2 (sq2 (sq2 c75)))))))) st (fun e s => e = .normal ∧ s.get (.tmp 9) = .v (.a (.int .i64 ((c + 1 : Nat) : Int))) ∧ s.env.length = 86 ∧ s.get (.tmp 0) = .v (.a (.own 9)) ∧ s.get (.tmp 1) = .v (.a (.iv z 46 (.L left))) ∧ s.get (.tmp 2) = .v (.a (.ptr 5 [] 44)) ∧ s.get (.tmp 3) = .v (.a (.ptr 7 [] 29)) ∧ s.get (.tmp 4) = .v (.a (.ptr 8 [] 88)) ∧ s.row 5 = some (.box true 44 [0] (.a (.own 6))) ∧ s.row 6 = some (.arr 2 46 (out)) ∧ s.row 7 = some (.box true 29 [] (.a (.iv p 29 b))) ∧ s.row 8 = some (.box true 88 [] (.a (.fn 75 [5, 7, 8]))) ∧ s.row 9 = some (.arr 2 3 l) ∧ s.row 10 = none) := by
  obtain ⟨hn, g0, g1, g2, g3, g4, r5, r6, r7, r8, r9, r10⟩ := hG
  unfold c75
  rw [co75]
  simp only [Try.f75, Option.getD_some, sq1_seq, sq2_seq, inBlock_block, inLoop_loop, cThen_cond]
  refine rn ?_
  have hw9 : IntKind.i64.wrap (((c : Nat) : Int) + 1) = ((c + 1 : Nat) : Int) := by
    rw [Go.IntWalk.i64_in _ (by omega)]; omega
  simp (maxDischargeDepth := 9) only [go_sem, Nat.reduceMul, Nat.reduceAdd, Nat.reduceLeDiff, Int.reduceSub, Int.reduceNeg, Int.reduceLT, Int.reduceLE, Int.reduceEq, *, has_ans, List.length_replicate, Nat.le_refl]
theorem p75_11 (ext : CallF) (k cur : Nat) (b : IV) (l left out : List IV) (p z : Nat) (c : Nat) (st : St) (hG : G75 b l out left p z st) (hx : st.get (.tmp 9) = .v (.a (.int .i64 (c : Nat)))) : Runs tab fx75 (tab.run ext k) k cur (sq1 (sq2 (inBlock (sq1 (sq2 (inLoop (inBlock (sq2 (sq2 (sq2 (sq2 c75))))))))))) st (fun e s => e = .normal ∧ s.get (.tmp 9) = .v (.a (.int .i64 (c : Nat))) ∧ s.get (.tmp 10) = .v (.a (.own 3)) ∧ s.row 3 = some (.arr 2 3 []) ∧ s.env.length = 86 ∧ s.get (.tmp 0) = .v (.a (.own 9)) ∧ s.get (.tmp 1) = .v (.a (.iv z 46 (.L left))) ∧ s.get (.tmp 2) = .v (.a (.ptr 5 [] 44)) ∧ s.get (.tmp 3) = .v (.a (.ptr 7 [] 29)) ∧ s.get (.tmp 4) = .v (.a (.ptr 8 [] 88)) ∧ s.row 5 = some (.box true 44 [0] (.a (.own 6))) ∧ s.row 6 = some (.arr 2 46 (out)) ∧ s.row 7 = some (.box true 29 [] (.a (.iv p 29 b))) ∧ s.row 8 = some (.box true 88 [] (.a (.fn 75 [5, 7, 8]))) ∧ s.row 9 = some (.arr 2 3 l) ∧ s.row 10 = none) := by
  obtain ⟨hn, g0, g1, g2, g3, g4, r5, r6, r7, r8, r9, r10⟩ := hG
  unfold c75
  rw [co75]
  simp only [Try.f75, Option.getD_some, sq1_seq, sq2_seq, inBlock_block, inLoop_loop, cThen_cond]
  refine rn ?_
  simp (maxDischargeDepth := 9) only [go_sem, Nat.reduceMul, Nat.reduceAdd, Nat.reduceLeDiff, Int.reduceSub, Int.reduceNeg, Int.reduceLT, Int.reduceLE, Int.reduceEq, *, has_ans, List.length_replicate, Nat.le_refl]
theorem p75_8t (ext : CallF) (k cur : Nat) (b : IV) (l left out : List IV) (p z : Nat) (c : Nat) (st : St) (hG : G75 b l out left p z st) (hc : c < (asL (fld b 0)).length) (hx : st.get (.tmp 9) = .v (.a (.int .i64 (c : Nat)))) : Runs tab fx75 (tab.run ext k) k cur (sq1 (inLoop (inBlock (sq2 (sq2 (sq2 (sq2 c75))))))) st (fun e s => e = .normal ∧ s.get (.tmp 9) = .v (.a (.int .i64 (c : Nat))) ∧ s.env.length = 86 ∧ s.get (.tmp 0) = .v (.a (.own 9)) ∧ s.get (.tmp 1) = .v (.a (.iv z 46 (.L left))) ∧ s.get (.tmp 2) = .v (.a (.ptr 5 [] 44)) ∧ s.get (.tmp 3) = .v (.a (.ptr 7 [] 29)) ∧ s.get (.tmp 4) = .v (.a (.ptr 8 [] 88)) ∧ s.row 5 = some (.box true 44 [0] (.a (.own 6))) ∧ s.row 6 = some (.arr 2 46 (out)) ∧ s.row 7 = some (.box true 29 [] (.a (.iv p 29 b))) ∧ s.row 8 = some (.box true 88 [] (.a (.fn 75 [5, 7, 8]))) ∧ s.row 9 = some (.arr 2 3 l) ∧ s.row 10 = none) := by
  obtain ⟨hn, g0, g1, g2, g3, g4, r5, r6, r7, r8, r9, r10⟩ := hG
  unfold c75
  rw [co75]
  simp only [Try.f75, Option.getD_some, sq1_seq, sq2_seq, inBlock_block, inLoop_loop, cThen_cond]
  refine rn ?_
  have hci : ((c : Nat) : Int) < ((asL (fld b 0)).length : Int) := by omega
  simp (maxDischargeDepth := 9) only [go_sem, Nat.reduceMul, Nat.reduceAdd, Nat.reduceLeDiff, Int.reduceSub, Int.reduceNeg, Int.reduceLT, Int.reduceLE, Int.reduceEq, *, has_ans, List.length_replicate, Nat.le_refl]
theorem p75_8f (ext : CallF) (k cur : Nat) (b : IV) (l left out : List IV) (p z : Nat) (c : Nat) (st : St) (hG : G75 b l out left p z st) (hc : (asL (fld b 0)).length ≤ c) (hx : st.get (.tmp 9) = .v (.a (.int .i64 (c : Nat)))) : Runs tab fx75 (tab.run ext k) k cur (sq1 (inLoop (inBlock (sq2 (sq2 (sq2 (sq2 c75))))))) st (fun e s => e = .exit 0 ∧ s.env.length = 86 ∧ s.get (.tmp 0) = .v (.a (.own 9)) ∧ s.get (.tmp 1) = .v (.a (.iv z 46 (.L left))) ∧ s.get (.tmp 2) = .v (.a (.ptr 5 [] 44)) ∧ s.get (.tmp 3) = .v (.a (.ptr 7 [] 29)) ∧ s.get (.tmp 4) = .v (.a (.ptr 8 [] 88)) ∧ s.row 5 = some (.box true 44 [0] (.a (.own 6))) ∧ s.row 6 = some (.arr 2 46 (out)) ∧ s.row 7 = some (.box true 29 [] (.a (.iv p 29 b))) ∧ s.row 8 = some (.box true 88 [] (.a (.fn 75 [5, 7, 8]))) ∧ s.row 9 = some (.arr 2 3 l) ∧ s.row 10 = none) := by
  obtain ⟨hn, g0, g1, g2, g3, g4, r5, r6, r7, r8, r9, r10⟩ := hG
  unfold c75
  rw [co75]
  simp only [Try.f75, Option.getD_some, sq1_seq, sq2_seq, inBlock_block, inLoop_loop, cThen_cond]
  refine rn ?_
  have hci : ¬((c : Nat) : Int) < ((asL (fld b 0)).length : Int) := by omega
  have hci2 : ((asL (fld b 0)).length : Int) ≤ ((c : Nat) : Int) := by omega
  simp (maxDischargeDepth := 9) only [go_sem, Nat.reduceMul, Nat.reduceAdd, Nat.reduceLeDiff, Int.reduceSub, Int.reduceNeg, Int.reduceLT, Int.reduceLE, Int.reduceEq, *, has_ans, List.length_replicate, Nat.le_refl]
theorem p75_5a (ext : CallF) (k cur : Nat) (b : IV) (l left out : List IV) (p z : Nat)  (st : St) (hG : G75 b l out left p z st) (he : l = []) (hx : st.get (.tmp 8) = .v (.a (.int .i64 0))) : Runs tab fx75 (tab.run ext k) k cur (sq1 (sq2 (sq2 c75))) st (fun e s => e = .normal ∧ s.get (.tmp 8) = .v (.a (.int .i64 0)) ∧ s.env.length = 86 ∧ s.get (.tmp 0) = .v (.a (.own 9)) ∧ s.get (.tmp 1) = .v (.a (.iv z 46 (.L left))) ∧ s.get (.tmp 2) = .v (.a (.ptr 5 [] 44)) ∧ s.get (.tmp 3) = .v (.a (.ptr 7 [] 29)) ∧ s.get (.tmp 4) = .v (.a (.ptr 8 [] 88)) ∧ s.row 5 = some (.box true 44 [0] (.a (.own 6))) ∧ s.row 6 = some (.arr 2 46 (out)) ∧ s.row 7 = some (.box true 29 [] (.a (.iv p 29 b))) ∧ s.row 8 = some (.box true 88 [] (.a (.fn 75 [5, 7, 8]))) ∧ s.row 9 = some (.arr 2 3 l) ∧ s.row 10 = none) := by
  obtain ⟨hn, g0, g1, g2, g3, g4, r5, r6, r7, r8, r9, r10⟩ := hG
  unfold c75
  rw [co75]
  simp only [Try.f75, Option.getD_some, sq1_seq, sq2_seq, inBlock_block, inLoop_loop, cThen_cond]
  refine rn ?_
  have hl0 : l.length = 0 := by rw [he]; rfl
  have hl0i : ((l.length : Nat) : Int) = 0 := by omega
  simp (maxDischargeDepth := 9) only [go_sem, Nat.reduceMul, Nat.reduceAdd, Nat.reduceLeDiff, Int.reduceSub, Int.reduceNeg, Int.reduceLT, Int.reduceLE, Int.reduceEq, *, has_ans, Nat.lt_irrefl]
theorem p75_5b (ext : CallF) (k cur : Nat) (b : IV) (l left out : List IV) (p z : Nat) (c : Nat) (st : St) (hG : G75 b l out left p z st) (hc : c ≤ 1000000) (hll : l.length ≤ 1000000) (hl0 : 0 < l.length) (hlast : l.getD (l.length - 1) .N = .I (c : Int)) : Runs tab fx75 (tab.run ext k) k cur (sq1 (sq2 (sq2 c75))) st (fun e s => e = .normal ∧ s.get (.tmp 8) = .v (.a (.int .i64 ((c + 1 : Nat) : Int))) ∧ s.env.length = 86 ∧ s.get (.tmp 0) = .v (.a (.own 9)) ∧ s.get (.tmp 1) = .v (.a (.iv z 46 (.L left))) ∧ s.get (.tmp 2) = .v (.a (.ptr 5 [] 44)) ∧ s.get (.tmp 3) = .v (.a (.ptr 7 [] 29)) ∧ s.get (.tmp 4) = .v (.a (.ptr 8 [] 88)) ∧ s.row 5 = some (.box true 44 [0] (.a (.own 6))) ∧ s.row 6 = some (.arr 2 46 (out)) ∧ s.row 7 = some (.box true 29 [] (.a (.iv p 29 b))) ∧ s.row 8 = some (.box true 88 [] (.a (.fn 75 [5, 7, 8]))) ∧ s.row 9 = some (.arr 2 3 l) ∧ s.row 10 = none) := by
  obtain ⟨hn, g0, g1, g2, g3, g4, r5, r6, r7, r8, r9, r10⟩ := hG
  unfold c75
  rw [co75]
  simp only [Try.f75, Option.getD_some, sq1_seq, sq2_seq, inBlock_block, inLoop_loop, cThen_cond]
  refine rn ?_
  have hl1 : (0 : Int) < (l.length : Int) := by omega
  have hl2 : l.length - 1 < l.length := by omega
  have hw1 : IntKind.i64.wrap ((l.length : Int) - 1) = ((l.length - 1 : Nat) : Int) := by
    rw [Go.IntWalk.i64_in _ (by omega)]; omega
  have hw2 : IntKind.i64.wrap ((c : Int) + 1) = ((c + 1 : Nat) : Int) := by
    rw [Go.IntWalk.i64_in _ (by omega)]; omega
  simp (maxDischargeDepth := 9) only [go_sem, Nat.reduceMul, Nat.reduceAdd, Nat.reduceLeDiff, Int.reduceSub, Int.reduceNeg, Int.reduceLT, Int.reduceLE, Int.reduceEq, *, has_ans, List.length_replicate, Nat.le_refl]
theorem p75_10a (ext : CallF) (k cur : Nat) (b : IV) (l left out : List IV) (p z : Nat) (c : Nat) (st : St) (hG : G75 b l out left p z st) (hk : maxLen + (D0 + 40) ≤ k) (hE : ExC ext) (hU : ExU ext) (hb : Ok b) (hp : p ≠ 0) (hfd : FD b = true) (hz : (asL (fld b 1)).length ≤ 1000000) (hol : Ok (.L l)) (hoe : Ok (.L left)) (hc : c < (asL (fld b 0)).length) (hlr : ∀ x ∈ l, 0 ≤ asI x ∧ asI x < ((asL (fld b 0)).length : Int)) (hx : st.get (.tmp 9) = .v (.a (.int .i64 (c : Nat)))) (ha : (left.any fun x => decide (asI x = plo b c)) = false) : Runs tab fx75 (tab.run ext k) k cur (sq1 (inBlock (sq1 (sq2 (inLoop (inBlock (sq2 (sq2 (sq2 (sq2 c75)))))))))) st (fun e s => e = .exit 1 ∧ s.get (.tmp 9) = .v (.a (.int .i64 (c : Nat))) ∧ s.env.length = 86 ∧ s.get (.tmp 0) = .v (.a (.own 9)) ∧ s.get (.tmp 1) = .v (.a (.iv z 46 (.L left))) ∧ s.get (.tmp 2) = .v (.a (.ptr 5 [] 44)) ∧ s.get (.tmp 3) = .v (.a (.ptr 7 [] 29)) ∧ s.get (.tmp 4) = .v (.a (.ptr 8 [] 88)) ∧ s.row 5 = some (.box true 44 [0] (.a (.own 6))) ∧ s.row 6 = some (.arr 2 46 (out)) ∧ s.row 7 = some (.box true 29 [] (.a (.iv p 29 b))) ∧ s.row 8 = some (.box true 88 [] (.a (.fn 75 [5, 7, 8]))) ∧ s.row 9 = some (.arr 2 3 l) ∧ s.row 10 = none) := by
  obtain ⟨hn, g0, g1, g2, g3, g4, r5, r6, r7, r8, r9, r10⟩ := hG
  unfold c75
  rw [co75]
  simp only [Try.f75, Option.getD_some, sq1_seq, sq2_seq, inBlock_block, inLoop_loop, cThen_cond]
  refine rn ?_
  have hk2 : maxLen + 2 ≤ k := by have := D0_ge; omega
  have hci : ((c : Nat) : Int) < ((asL (fld b 0)).length : Int) := by omega
  have hha := has_ans ext k (.L left) (plo b c) z (by omega) hoe
  have hfa := fits_ans ext k hE hU b (.L l) (c : Int) p 0 (by omega) hb hp hfd hol (by omega) hci hz hlr
  have hpl : asI (fld ((asL (fld b 0)).getD c .N) 0) = plo b c := rfl
  simp (maxDischargeDepth := 9) only [go_sem, Nat.reduceMul, Nat.reduceAdd, Nat.reduceLeDiff, Int.reduceSub, Int.reduceNeg, Int.reduceLT, Int.reduceLE, Int.reduceEq, *, has_ans]
theorem p75_10b (ext : CallF) (k cur : Nat) (b : IV) (l left out : List IV) (p z : Nat) (c : Nat) (st : St) (hG : G75 b l out left p z st) (hk : maxLen + (D0 + 40) ≤ k) (hE : ExC ext) (hU : ExU ext) (hb : Ok b) (hp : p ≠ 0) (hfd : FD b = true) (hz : (asL (fld b 1)).length ≤ 1000000) (hol : Ok (.L l)) (hoe : Ok (.L left)) (hc : c < (asL (fld b 0)).length) (hlr : ∀ x ∈ l, 0 ≤ asI x ∧ asI x < ((asL (fld b 0)).length : Int)) (hx : st.get (.tmp 9) = .v (.a (.int .i64 (c : Nat)))) (ha : (left.any fun x => decide (asI x = plo b c)) = true) (hf : FT b (.L l) (c : Int) = false) : Runs tab fx75 (tab.run ext k) k cur (sq1 (inBlock (sq1 (sq2 (inLoop (inBlock (sq2 (sq2 (sq2 (sq2 c75)))))))))) st (fun e s => e = .exit 1 ∧ s.get (.tmp 9) = .v (.a (.int .i64 (c : Nat))) ∧ s.env.length = 86 ∧ s.get (.tmp 0) = .v (.a (.own 9)) ∧ s.get (.tmp 1) = .v (.a (.iv z 46 (.L left))) ∧ s.get (.tmp 2) = .v (.a (.ptr 5 [] 44)) ∧ s.get (.tmp 3) = .v (.a (.ptr 7 [] 29)) ∧ s.get (.tmp 4) = .v (.a (.ptr 8 [] 88)) ∧ s.row 5 = some (.box true 44 [0] (.a (.own 6))) ∧ s.row 6 = some (.arr 2 46 (out)) ∧ s.row 7 = some (.box true 29 [] (.a (.iv p 29 b))) ∧ s.row 8 = some (.box true 88 [] (.a (.fn 75 [5, 7, 8]))) ∧ s.row 9 = some (.arr 2 3 l) ∧ s.row 10 = none) := by
  obtain ⟨hn, g0, g1, g2, g3, g4, r5, r6, r7, r8, r9, r10⟩ := hG
  unfold c75
  rw [co75]
  simp only [Try.f75, Option.getD_some, sq1_seq, sq2_seq, inBlock_block, inLoop_loop, cThen_cond]
  refine rn ?_
  have hk2 : maxLen + 2 ≤ k := by have := D0_ge; omega
  have hci : ((c : Nat) : Int) < ((asL (fld b 0)).length : Int) := by omega
  have hha := has_ans ext k (.L left) (plo b c) z (by omega) hoe
  have hfa := fits_ans ext k hE hU b (.L l) (c : Int) p 0 (by omega) hb hp hfd hol (by omega) hci hz hlr
  have hpl : asI (fld ((asL (fld b 0)).getD c .N) 0) = plo b c := rfl
  simp (maxDischargeDepth := 9) only [go_sem, Nat.reduceMul, Nat.reduceAdd, Nat.reduceLeDiff, Int.reduceSub, Int.reduceNeg, Int.reduceLT, Int.reduceLE, Int.reduceEq, *, has_ans]
theorem p75_10c (ext : CallF) (k cur : Nat) (b : IV) (l left out : List IV) (p z : Nat) (c : Nat) (st : St) (hG : G75 b l out left p z st) (hk : maxLen + (D0 + 40) ≤ k) (hE : ExC ext) (hU : ExU ext) (hb : Ok b) (hp : p ≠ 0) (hfd : FD b = true) (hz : (asL (fld b 1)).length ≤ 1000000) (hol : Ok (.L l)) (hoe : Ok (.L left)) (hc : c < (asL (fld b 0)).length) (hlr : ∀ x ∈ l, 0 ≤ asI x ∧ asI x < ((asL (fld b 0)).length : Int)) (hx : st.get (.tmp 9) = .v (.a (.int .i64 (c : Nat)))) (ha : (left.any fun x => decide (asI x = plo b c)) = true) (hf : FT b (.L l) (c : Int) = true) : Runs tab fx75 (tab.run ext k) k cur (sq1 (inBlock (sq1 (sq2 (inLoop (inBlock (sq2 (sq2 (sq2 (sq2 c75)))))))))) st (fun e s => e = .normal ∧ s.get (.tmp 9) = .v (.a (.int .i64 (c : Nat))) ∧ s.env.length = 86 ∧ s.get (.tmp 0) = .v (.a (.own 9)) ∧ s.get (.tmp 1) = .v (.a (.iv z 46 (.L left))) ∧ s.get (.tmp 2) = .v (.a (.ptr 5 [] 44)) ∧ s.get (.tmp 3) = .v (.a (.ptr 7 [] 29)) ∧ s.get (.tmp 4) = .v (.a (.ptr 8 [] 88)) ∧ s.row 5 = some (.box true 44 [0] (.a (.own 6))) ∧ s.row 6 = some (.arr 2 46 (out)) ∧ s.row 7 = some (.box true 29 [] (.a (.iv p 29 b))) ∧ s.row 8 = some (.box true 88 [] (.a (.fn 75 [5, 7, 8]))) ∧ s.row 9 = some (.arr 2 3 l) ∧ s.row 10 = none) := by
  obtain ⟨hn, g0, g1, g2, g3, g4, r5, r6, r7, r8, r9, r10⟩ := hG
  unfold c75
  rw [co75]
  simp only [Try.f75, Option.getD_some, sq1_seq, sq2_seq, inBlock_block, inLoop_loop, cThen_cond]
  refine rn ?_
  have hk2 : maxLen + 2 ≤ k := by have := D0_ge; omega
  have hci : ((c : Nat) : Int) < ((asL (fld b 0)).length : Int) := by omega
  have hha := has_ans ext k (.L left) (plo b c) z (by omega) hoe
  have hfa := fits_ans ext k hE hU b (.L l) (c : Int) p 0 (by omega) hb hp hfd hol (by omega) hci hz hlr
  have hpl : asI (fld ((asL (fld b 0)).getD c .N) 0) = plo b c := rfl
  simp (maxDischargeDepth := 9) only [go_sem, Nat.reduceMul, Nat.reduceAdd, Nat.reduceLeDiff, Int.reduceSub, Int.reduceNeg, Int.reduceLT, Int.reduceLE, Int.reduceEq, *, has_ans]
theorem p75_12 (ext : CallF) (k cur : Nat) (b : IV) (l left out : List IV) (p z : Nat) (c : Nat) (st : St) (hG : G75 b l out left p z st) (hk : left.length < k) (hoe : left.length ≤ 100000) (hc : c < (asL (fld b 0)).length) (hx : st.get (.tmp 9) = .v (.a (.int .i64 (c : Nat)))) (hx10 : st.get (.tmp 10) = .v (.a (.own 3))) (hx3 : st.row 3 = some (.arr 2 3 [])) : Runs tab fx75 (tab.run ext k) k cur (sq1 (sq2 (sq2 (inBlock (sq1 (sq2 (inLoop (inBlock (sq2 (sq2 (sq2 (sq2 c75)))))))))))) st (fun e s => e = .normal ∧ s.get (.tmp 9) = .v (.a (.int .i64 (c : Nat))) ∧ s.get (.tmp 10) = .v (.a (.own 3)) ∧ s.row 3 = some (.arr 2 3 (rst (plo b c) left)) ∧ s.env.length = 86 ∧ s.get (.tmp 0) = .v (.a (.own 9)) ∧ s.get (.tmp 1) = .v (.a (.iv z 46 (.L left))) ∧ s.get (.tmp 2) = .v (.a (.ptr 5 [] 44)) ∧ s.get (.tmp 3) = .v (.a (.ptr 7 [] 29)) ∧ s.get (.tmp 4) = .v (.a (.ptr 8 [] 88)) ∧ s.row 5 = some (.box true 44 [0] (.a (.own 6))) ∧ s.row 6 = some (.arr 2 46 (out)) ∧ s.row 7 = some (.box true 29 [] (.a (.iv p 29 b))) ∧ s.row 8 = some (.box true 88 [] (.a (.fn 75 [5, 7, 8]))) ∧ s.row 9 = some (.arr 2 3 l) ∧ s.row 10 = none) := by
  obtain ⟨hn, g0, g1, g2, g3, g4, r5, r6, r7, r8, r9, r10⟩ := hG
  unfold c75
  rw [co75]
  simp only [Try.f75, Option.getD_some, sq1_seq, sq2_seq, inBlock_block, inLoop_loop, cThen_cond]
  refine rn ?_
  simp (maxDischargeDepth := 9) only [go_sem, Nat.reduceMul, Nat.reduceAdd, Nat.reduceLeDiff, Int.reduceSub, Int.reduceNeg, Int.reduceLT, Int.reduceLE, Int.reduceEq, *]
  refine gen_st (fun s0 hg hr hn0 => ?_)
  have e0 := hg 0
  have e1 := hg 1
  have e2 := hg 2
  have e3 := hg 3
  have e4 := hg 4
  have e9 := hg 9
  have e60 := hg 60
  have e61 := hg 61
  have e62 := hg 62
  have e10 := hg 10
  have q3 := hr 3
  have q5 := hr 5
  have q6 := hr 6
  have q7 := hr 7
  have q8 := hr 8
  have q9 := hr 9
  have q10 := hr 10
  clear hg hr
  simp only [go_sem, *] at hn0 e0 e1 e2 e3 e4 e9 e60 e61 e62 e10 q3 q5 q6 q7 q8 q9 q10
  refine nr (runs_for left (fun (acc : List IV) x => Stp.next (ρ := Unit) (if asI x = plo b c then acc else acc ++ [.I (asI x)])) [] 86 (fun j acc => [(0, .v (.a (.own 9))), (1, .v (.a (.iv z 46 (.L left)))), (2, .v (.a (.ptr 5 [] 44))), (3, .v (.a (.ptr 7 [] 29))), (4, .v (.a (.ptr 8 [] 88))), (9, .v (.a (.int .i64 (c : Nat)))), (10, .v (.a (.own 3))), (60, .v (.a (.iv z 46 (.L left)))), (61, .v (.a (.int .i64 (left.length : Nat)))), (62, .v (.a (.int .i64 (j : Nat))))]) (fun j acc => [(3, some (.arr 2 3 acc)), (5, some (.box true 44 [0] (.a (.own 6)))), (6, some (.arr 2 46 out)), (7, some (.box true 29 [] (.a (.iv p 29 b)))), (8, some (.box true 88 [] (.a (.fn 75 [5, 7, 8])))), (9, some (.arr 2 3 l)), (10, none)]) (fun j acc => (acc.length ≤ j)) (by omega) ?_ (Nat.zero_le _) ?_ ?_ ?_ ?_)
  · simp (maxDischargeDepth := 9) only [go_sem, Nat.reduceMul, Nat.reduceAdd, Nat.reduceLeDiff, Int.reduceSub, Int.reduceNeg, Int.reduceLT, Int.reduceLE, Int.reduceEq, *]
  · intro i a; simp (maxDischargeDepth := 9) only [go_sem, Nat.reduceMul, Nat.reduceAdd, Nat.reduceLeDiff, Int.reduceSub, Int.reduceNeg, Int.reduceLT, Int.reduceLE, Int.reduceEq, *]
  · intro i a; simp (maxDischargeDepth := 9) only [go_sem, Nat.reduceMul, Nat.reduceAdd, Nat.reduceLeDiff, Int.reduceSub, Int.reduceNeg, Int.reduceLT, Int.reduceLE, Int.reduceEq, *]
  · intro j x acc s hx hi hI hS
    clear hn0 e0 e1 e2 e3 e4 e9 e60 e61 e62 e10 q3 q5 q6 q7 q8 q9 q10
    simp only [go_sem] at hS
    obtain ⟨f0, f1, f2, f3, f4, f9, f10, f60, f61, f62, m3, m5, m6, m7, m8, m9, m10, hn⟩ := hS
    have hw := wrap_succ hi (Nat.le_trans hoe (by unfold maxLen; omega))
    have hacc : acc.length + 1 ≤ 1000000 := by omega
    have hpl : asI (fld ((asL (fld b 0)).getD c .N) 0) = plo b c := rfl
    refine rn ?_
    simp (maxDischargeDepth := 9) only [go_sem, Nat.reduceMul, Nat.reduceAdd, Nat.reduceLeDiff, Int.reduceSub, Int.reduceNeg, Int.reduceLT, Int.reduceLE, Int.reduceEq, *]
    by_cases hpx : asI x = plo b c
    case pos =>
      simp (maxDischargeDepth := 9) only [go_sem, Nat.reduceMul, Nat.reduceAdd, Nat.reduceLeDiff, Int.reduceSub, Int.reduceNeg, Int.reduceLT, Int.reduceLE, Int.reduceEq, *]
      try omega
    simp (maxDischargeDepth := 9) only [go_sem, Nat.reduceMul, Nat.reduceAdd, Nat.reduceLeDiff, Int.reduceSub, Int.reduceNeg, Int.reduceLT, Int.reduceLE, Int.reduceEq, *]
    all_goals (try (rw [List.length_append]; show acc.length + 1 ≤ j + 1; omega))
    all_goals (try omega)
  · intro acc s hI hf hS
    clear hn0 e0 e1 e2 e3 e4 e9 e60 e61 e62 e10 q3 q5 q6 q7 q8 q9 q10
    simp only [go_sem] at hS
    obtain ⟨f0, f1, f2, f3, f4, f9, f10, f60, f61, f62, m3, m5, m6, m7, m8, m9, m10, hn⟩ := hS
    try simp only [go_sem] at hf
    have hrs := rst_eq (pl := plo b c) hf
    refine rn ?_
    simp (maxDischargeDepth := 9) only [go_sem, Nat.reduceMul, Nat.reduceAdd, Nat.reduceLeDiff, Int.reduceSub, Int.reduceNeg, Int.reduceLT, Int.reduceLE, Int.reduceEq, *]
    skip
end Go.Proofs.Ytficdonjodadlaa
end
section
set_option linter.unusedVariables false
set_option linter.unusedSimpArgs false
namespace Go.Proofs.Ytficdonjodadlaa
open Go.Ev Go.Proofs
section
set_option maxHeartbeats 4000000
set_option maxRecDepth 10000
structure K75 (P : Program) (ext : CallF) (k : Nat) (b : IV) (p : Nat) : Prop where
  hm : P.follows .mixedOrders = true
  hF : FnsOk tab P
  hrun : RunOk P tab (tab.run ext k)
  hE : ExC ext
  hU : ExU ext
  hb : Ok b
  hp : p ≠ 0
  hfd : FD b = true
  hz : (asL (fld b 1)).length ≤ 1000000
  hL : (asL (fld b 0)).length ≤ 100000
  hk : maxLen + (D0 + 40) ≤ k
theorem callable75 {P : Program} (hF : FnsOk tab P) : Callable P 75 := by
  obtain ⟨fn, f1, f2, f3, _⟩ := hF 75 fx75 rfl
  exact ⟨fn, f1, f2, by rw [f3]; rfl⟩
variable {b : IV} {l out left : List IV} {p z k : Nat} {h0 : Value} {ext : CallF}
variable {P : Program} {w0 : World} {S : Nat → Nat → Prop} {X : Nat → Prop} {β0 : Nat → Value} {Q : Exit → Act → World → Prop}
variable {N : Nm} {st : St} {a : Act} {w : World}
noncomputable def lp75 : Code := inLoop (inBlock (sq2 (sq2 (sq2 (sq2 c75)))))
theorem do75 {part : Code} {F : Ex → St → Prop} (ok : Cx.Ok ⟨P, tab, w0, S, X, β0⟩) (hrun : RunOk P tab (tab.run ext k)) (hr : Rel ⟨P, tab, w0, S, X, β0⟩ N st a w) (hpin : Pin part = true) (hR : Runs tab fx75 (tab.run ext k) k 0 part st F) (hq : ∀ e N' st' a' w', F e st' → Rel ⟨P, tab, w0, S, X, β0⟩ N' st' a' w' → hd0 a' = hd0 a → Q e.out a' w') : part.wp P Q a w := by
  obtain ⟨e, s, h1, h2⟩ := hR
  exact code_pin ok (fun o => call_sound ok hrun) part hpin h1 hr (fun N' a' w' h' hp => hq e N' s a' w' h2 h' hp)
theorem round75 {d c : Nat} (ok : Cx.Ok ⟨P, tab, w0, S, X, β0⟩) (K : K75 P ext k b p) (hl : ∀ x ∈ l, ∃ c : Nat, x = .I (c : Int) ∧ c < (asL (fld b 0)).length) (hll : l.length ≤ 1000) (hle : left.length ≤ 100000) (hlo : Ok (.L left)) (hleft : ∀ x ∈ left, ∃ n, x = .I n)
    (ih : ∀ c : Nat, c < (asL (fld b 0)).length → (rst (plo b c) left).length < left.length → S75 P b p (rst (plo b c) left) (l ++ [.I (c : Int)]) (cho b d (rst (plo b c) left) (l ++ [.I (c : Int)])))
    (hr : Rel ⟨P, tab, w0, S, X, β0⟩ N st a w) (hG : G75 b l out left p z st) (hc : c < (asL (fld b 0)).length) (h9 : st.get (.tmp 9) = .v (.a (.int .i64 (c : Nat)))) (hh : hd0 a = h0) (hbd : out.length + (cxo b d left l c).length ≤ 1000000)
    (hq : ∀ N' st' a' w', Rel ⟨P, tab, w0, S, X, β0⟩ N' st' a' w' → G75 b l (out ++ cxo b d left l c) left p z st' → st'.get (.tmp 9) = .v (.a (.int .i64 ((c + 1 : Nat) : Int))) → hd0 a' = h0 → Q .normal a' w') : (sq2 lp75).wp P Q a w := by
  have hol : Ok (.L l) := .L (by unfold maxLen; omega) (fun x hx => by obtain ⟨c, h, h2⟩ := hl x hx; rw [h]; have := K.hL; exact .I (by omega))
  have hlr : ∀ x ∈ l, 0 ≤ asI x ∧ asI x < ((asL (fld b 0)).length : Int) := fun x hx => by
    obtain ⟨c, h, h2⟩ := hl x hx
    rw [h]; exact ⟨by show (0 : Int) ≤ (c : Int); omega, by show (c : Int) < _; omega⟩
  show (Code.seq (.block 1 (inBlock (sq1 (sq2 lp75)))) (sq2 (sq2 lp75))).wp P Q a w
  have tail : ∀ {N' st' a' w'}, Rel ⟨P, tab, w0, S, X, β0⟩ N' st' a' w' → G75 b l (out ++ cxo b d left l c) left p z st' → st'.get (.tmp 9) = .v (.a (.int .i64 (c : Nat))) → hd0 a' = h0 → Exit.then (Code.wp P (sq2 (sq2 lp75)) Q) Q .normal a' w' := by
    intro N' st' a' w' hr' hG' h9' hh'
    exact do75 ok K.hrun hr' rfl (p75_9 ext k 0 b l left _ p z c st' hG' (by have := K.hL; omega) h9') (fun e N2 s2 a2 w2 ⟨he, h1, hF⟩ hr2 hp2 => by
      subst he
      obtain ⟨f1, f2, f3, f4, f5, f6, f7, f8, f9, f10, f11, f12⟩ := hF
      exact hq N2 s2 a2 w2 hr2 ⟨f1, f2, f3, f4, f5, f6, f7, f8, f9, f10, f11, f12⟩ h1 (hp2.trans hh'))
  refine wp_seq (wp_block ?_)
  show (Code.seq (sq1 (inBlock (sq1 (sq2 lp75)))) (sq2 (inBlock (sq1 (sq2 lp75))))).wp P _ a w
  refine wp_seq ?_
  have hk := K.hk
  by_cases ha : (left.any fun x => decide (asI x = plo b c)) = true
  case neg =>
    have ha : (left.any fun x => decide (asI x = plo b c)) = false := by simpa using ha
    have e0 : cxo b d left l c = [] := by unfold cxo; rw [ha]; rfl
    refine do75 ok K.hrun hr rfl (p75_10a ext k 0 b l left out p z c st hG hk K.hE K.hU K.hb K.hp K.hfd K.hz hol hlo hc hlr h9 ha) (fun e N2 s2 a2 w2 ⟨he, h1, hF⟩ hr2 hp2 => ?_)
    subst he
    obtain ⟨f1, f2, f3, f4, f5, f6, f7, f8, f9, f10, f11, f12⟩ := hF
    exact tail hr2 (by rw [e0, List.append_nil]; exact ⟨f1, f2, f3, f4, f5, f6, f7, f8, f9, f10, f11, f12⟩) h1 (hp2.trans hh)
  by_cases hf : FT b (.L l) (c : Int) = true
  case neg =>
    have hf : FT b (.L l) (c : Int) = false := by simpa using hf
    have e0 : cxo b d left l c = [] := by unfold cxo; rw [if_pos ha, hf]; rfl
    refine do75 ok K.hrun hr rfl (p75_10b ext k 0 b l left out p z c st hG hk K.hE K.hU K.hb K.hp K.hfd K.hz hol hlo hc hlr h9 ha hf) (fun e N2 s2 a2 w2 ⟨he, h1, hF⟩ hr2 hp2 => ?_)
    subst he
    obtain ⟨f1, f2, f3, f4, f5, f6, f7, f8, f9, f10, f11, f12⟩ := hF
    exact tail hr2 (by rw [e0, List.append_nil]; exact ⟨f1, f2, f3, f4, f5, f6, f7, f8, f9, f10, f11, f12⟩) h1 (hp2.trans hh)
  have e0 : cxo b d left l c = cho b d (rst (plo b c) left) (l ++ [.I (c : Int)]) := by unfold cxo; rw [if_pos ha, if_pos hf]
  refine do75 ok K.hrun hr rfl (p75_10c ext k 0 b l left out p z c st hG hk K.hE K.hU K.hb K.hp K.hfd K.hz hol hlo hc hlr h9 ha hf) (fun e N2 s2 a2 w2 ⟨he, h1, hF⟩ hr2 hp2 => ?_)
  subst he
  obtain ⟨f1, f2, f3, f4, f5, f6, f7, f8, f9, f10, f11, f12⟩ := hF
  show (Code.seq (sq1 (sq2 (inBlock (sq1 (sq2 lp75))))) (sq2 (sq2 (inBlock (sq1 (sq2 lp75)))))).wp P _ a2 w2
  refine wp_seq (do75 ok K.hrun hr2 rfl (p75_11 ext k 0 b l left out p z c s2 ⟨f1, f2, f3, f4, f5, f6, f7, f8, f9, f10, f11, f12⟩ h1) (fun e N3 s3 a3 w3 ⟨he, k1, k2, k3, hF⟩ hr3 hp3 => ?_))
  subst he
  clear f1 f2 f3 f4 f5 f6 f7 f8 f9 f10 f11 f12
  obtain ⟨f1, f2, f3, f4, f5, f6, f7, f8, f9, f10, f11, f12⟩ := hF
  show (Code.seq (sq1 (sq2 (sq2 (inBlock (sq1 (sq2 lp75)))))) (sq2 (sq2 (sq2 (inBlock (sq1 (sq2 lp75))))))).wp P _ a3 w3
  refine wp_seq (do75 ok K.hrun hr3 rfl (p75_12 ext k 0 b l left out p z c s3 ⟨f1, f2, f3, f4, f5, f6, f7, f8, f9, f10, f11, f12⟩ (by unfold maxLen at hk; omega) hle hc k1 k2 k3) (fun e N4 s4 a4 w4 ⟨he, m1, m2, m3, hF⟩ hr4 hp4 => ?_))
  subst he
  clear f1 f2 f3 f4 f5 f6 f7 f8 f9 f10 f11 f12
  obtain ⟨f1, f2, f3, f4, f5, f6, f7, f8, f9, f10, f11, f12⟩ := hF
  have hh4 : hd0 a4 = h0 := hp4.trans (hp3.trans (hp2.trans hh))
  show (Code.region 18 o18 true).wp P _ a4 w4
  refine r18_wp (b := b) (l := l) (rest := rst (plo b c) left) (out := out) (left := left) (p := p) (q := 2) (z := z) (c := (c : Int)) ok K.hm (by omega) hr4 ⟨f1, fun _ => f2, f3, f4, f5, f6, m1, m2, m3, f7, f8, f9, f10, fun _ => f11, (fun h => by cases h), fun _ => f12, (fun h => by cases h), (fun h => by cases h), (fun h => by cases h), (fun h => by cases h), (fun h => by cases h), (fun h => by cases h)⟩ (fun o t a5 w5 ho hd b0 b4 b5 hI => ?_)
  refine call75 ok (callable75 K.hF) K.hp (res := cho b d (rst (plo b c) left) (l ++ [.I (c : Int)])) (by rw [← e0]; exact hbd) (ih c hc (rst_lt ha)) ho hd b0 b4 b5 hI (fun N6 s6 a6 w6 hr6 hG6 h96 hh6 => ?_)
  exact tail hr6 (by rw [e0]; exact hG6) h96 (hh6.trans hh4)
theorem loop75 {d : Nat} (ok : Cx.Ok ⟨P, tab, w0, S, X, β0⟩) (K : K75 P ext k b p) (hl : ∀ x ∈ l, ∃ c : Nat, x = .I (c : Int) ∧ c < (asL (fld b 0)).length) (hll : l.length ≤ 1000) (hle : left.length ≤ 100000) (hlo : Ok (.L left)) (hleft : ∀ x ∈ left, ∃ n, x = .I n)
    (ih : ∀ c : Nat, c < (asL (fld b 0)).length → (rst (plo b c) left).length < left.length → S75 P b p (rst (plo b c) left) (l ++ [.I (c : Int)]) (cho b d (rst (plo b c) left) (l ++ [.I (c : Int)]))) :
    ∀ (n c : Nat) (out : List IV) (N : Nm) (st : St) (a : Act) (w : World), (asL (fld b 0)).length - c ≤ n → Rel ⟨P, tab, w0, S, X, β0⟩ N st a w → G75 b l out left p z st → st.get (.tmp 9) = .v (.a (.int .i64 (c : Nat))) → hd0 a = h0 → out.length + (ctl b d left l c).length ≤ 1000000 →
      (∀ N' st' a' w', Rel ⟨P, tab, w0, S, X, β0⟩ N' st' a' w' → G75 b l (out ++ ctl b d left l c) left p z st' → hd0 a' = h0 → Q (.exit 0) a' w') → Code.rounds P lp75 Q (n + 1) a w := by
  intro n
  induction n with
  | zero =>
    intro c out N st a w hn hr hG h9 hh hbd hq
    have hc : (asL (fld b 0)).length ≤ c := by omega
    rw [rounds_succ]
    show (Code.seq (sq1 lp75) (sq2 lp75)).wp P _ a w
    refine wp_seq (do75 ok K.hrun hr rfl (p75_8f ext k 0 b l left out p z c st hG hc h9) (fun e N2 s2 a2 w2 ⟨he, hF⟩ hr2 hp2 => ?_))
    subst he
    obtain ⟨f1, f2, f3, f4, f5, f6, f7, f8, f9, f10, f11, f12⟩ := hF
    exact hq N2 s2 a2 w2 hr2 (by rw [ctl_end hc, List.append_nil]; exact ⟨f1, f2, f3, f4, f5, f6, f7, f8, f9, f10, f11, f12⟩) (hp2.trans hh)
  | succ n ihn =>
    intro c out N st a w hn hr hG h9 hh hbd hq
    rw [rounds_succ]
    show (Code.seq (sq1 lp75) (sq2 lp75)).wp P _ a w
    by_cases hc : c < (asL (fld b 0)).length
    · rw [ctl_step hc] at hbd hq
      rw [List.length_append] at hbd
      refine wp_seq (do75 ok K.hrun hr rfl (p75_8t ext k 0 b l left out p z c st hG hc h9) (fun e N2 s2 a2 w2 ⟨he, h1, hF⟩ hr2 hp2 => ?_))
      subst he
      obtain ⟨f1, f2, f3, f4, f5, f6, f7, f8, f9, f10, f11, f12⟩ := hF
      refine round75 (h0 := h0) (d := d) ok K hl hll hle hlo hleft ih hr2 ⟨f1, f2, f3, f4, f5, f6, f7, f8, f9, f10, f11, f12⟩ hc h1 (hp2.trans hh) (by omega) (fun N3 s3 a3 w3 hr3 hG3 h93 hh3 => ?_)
      exact ihn (c + 1) _ N3 s3 a3 w3 (by omega) hr3 hG3 h93 hh3 (by rw [List.length_append]; omega) (fun N4 s4 a4 w4 hr4 hG4 hh4 => hq N4 s4 a4 w4 hr4 (by rw [← List.append_assoc]; exact hG4) hh4)
    · have hc : (asL (fld b 0)).length ≤ c := by omega
      refine wp_seq (do75 ok K.hrun hr rfl (p75_8f ext k 0 b l left out p z c st hG hc h9) (fun e N2 s2 a2 w2 ⟨he, hF⟩ hr2 hp2 => ?_))
      subst he
      obtain ⟨f1, f2, f3, f4, f5, f6, f7, f8, f9, f10, f11, f12⟩ := hF
      exact hq N2 s2 a2 w2 hr2 (by rw [ctl_end hc, List.append_nil]; exact ⟨f1, f2, f3, f4, f5, f6, f7, f8, f9, f10, f11, f12⟩) (hp2.trans hh)
end
end Go.Proofs.Ytficdonjodadlaa
end
section
set_option linter.unusedVariables false
set_option linter.unusedSimpArgs false
namespace Go.Proofs.Ytficdonjodadlaa
open Go.Ev Go.Proofs
section
set_option maxHeartbeats 4000000
set_option maxRecDepth 10000
variable {b : IV} {l out left : List IV} {p z k : Nat} {h0 : Value} {ext : CallF}
variable {P : Program} {w0 : World} {S : Nat → Nat → Prop} {X : Nat → Prop} {β0 : Nat → Value} {Q : Exit → Act → World → Prop}
variable {N : Nm} {st : St} {a : Act} {w : World}
theorem list_pin {C : Cx} {o : Oper} {ops : Array Oper} {L : List Oper} {st1 : St} (hg : o.guard = none) (hd : o.dst ≠ some 0) (snd : Sound C o st st1) (h : Rel C N st a w) (next : ∀ N' a' w', Rel C N' st1 a' w' → hd0 a' = hd0 a → wpList C.P ops Q L a' w') : wpList C.P ops Q (o :: L) a w :=
  wpList_step fun K hK => by
    rw [if_pos (by unfold Region.wanted; rw [hg])]
    exact wp_pin hd (snd h (fun N' a' w' h' hp => hK _ _ (next N' a' w' h' hp)))
noncomputable def t275 : Code := sq1 (sq2 (cThen (sq2 (sq1 c75))))
theorem t275_eq : t275 = .region 2 (opsOf t275) false := (rfl)
theorem t275_ops : ∃ o0 o1 o2, (opsOf t275).toList = [o0, o1, o2] ∧ (o0.op = .move (.tmp 7) ∧ o0.dst = some 19 ∧ o0.guard = none) ∧ (o1.op = .move (.tmp 0) ∧ o1.dst = some 20 ∧ o1.guard = none) ∧ (o2.op = .call { callee := .builtin .copy, args := #[.tmp 19, .tmp 20], argTypes := #[46, 46] } ∧ o2.dst = some 21 ∧ o2.guard = none) := ⟨_, _, _, rfl, ⟨rfl, rfl, rfl⟩, ⟨rfl, rfl, rfl⟩, ⟨rfl, rfl, rfl⟩⟩
theorem copy75 (ok : Cx.Ok ⟨P, tab, w0, S, X, β0⟩) (hr : Rel ⟨P, tab, w0, S, X, β0⟩ N st a w) (hG : G75 b l out left p z st) (h7 : st.get (.tmp 7) = .v (.a (.own 1))) (h1 : st.row 1 = some (.arr 2 3 (List.replicate l.length (.I 0)))) (hh : hd0 a = h0)
    (hq : ∀ N' st' a' w', Rel ⟨P, tab, w0, S, X, β0⟩ N' st' a' w' → G75 b l out left p z st' → st'.get (.tmp 7) = .v (.a (.own 1)) → st'.row 1 = some (.arr 2 3 l) → hd0 a' = h0 → Q .normal a' w') : t275.wp P Q a w := by
  rw [t275_eq]
  obtain ⟨o0, o1, o2, e0, ⟨a1, a2, a3⟩, ⟨b1, b2, b3⟩, ⟨c1, c2, c3⟩⟩ := t275_ops
  obtain ⟨hn, g0, g1, g2, g3, g4, r5, r6, r7, r8, r9, r10⟩ := hG
  refine wp_region_list ?_
  rw [e0]
  have s0 := s_move (C := ⟨P, tab, w0, S, X, β0⟩) (st := st) (o := o0) (.inl a1)
  rw [a2, h7] at s0
  refine list_pin a3 (by rw [a2]; decide) s0 hr (fun N1 x1 w1 hr1 hp1 => ?_)
  have s1 := s_move (C := ⟨P, tab, w0, S, X, β0⟩) (st := st.set (some 19) (.v (.a (.own 1)))) (o := o1) (.inl b1)
  rw [b2, get_set_ne (by decide), g0] at s1
  refine list_pin b3 (by rw [b2]; decide) s1 hr1 (fun N2 x2 w2 hr2 hp2 => ?_)
  obtain ⟨st2, hst2⟩ : ∃ st2, st2 = (st.set (some 19) (.v (.a (.own 1)))).set (some 20) (.v (.a (.own 9))) := ⟨_, rfl⟩
  rw [← hst2] at hr2
  have hn2 : st2.env.length = 86 := by rw [hst2, len_set, len_set]; exact hn
  have k19 : get1 st2 (.tmp 19) = some (.own 1) := by unfold get1; rw [hst2, get_set_ne (by decide), get_set_eq (by rw [hn]; decide)]
  have k20 : get1 st2 (.tmp 20) = some (.own 9) := by unfold get1; rw [hst2, get_set_eq (by rw [len_set, hn]; decide)]
  have rows2 : ∀ j, st2.row j = st.row j := fun j => by rw [hst2, row_set, row_set]
  have s2 := s_copy2 (C := ⟨P, tab, w0, S, X, β0⟩) (st := st2) (o := o2) (t := 46) (e := 3) (q := 2) (k := 1) (p := 2) (b0 := .own 9) (news := l) (l := List.replicate l.length (.I 0)) ok c1 rfl rfl rfl ty46 k19 k20 (by simp [St.elems, rows2, r9]) (by rw [rows2]; exact h1) (by simp) okE3
  rw [c2] at s2
  refine list_pin c3 (by rw [c2]; decide) s2 hr2 (fun N3 x3 w3 hr3 hp3 => ?_)
  have hrow : ∀ j, j ≠ 1 → ((st2.putRow 1 (some (.arr (mn 2 2) 3 l))).setA (some 21) (.int .i64 (List.replicate l.length (IV.I 0)).length)).row j = st.row j := fun j hj => by
    unfold St.setA; rw [row_set, row_put, if_neg hj, rows2]
  have hget : ∀ d, d ∈ [0, 1, 2, 3, 4, 7] → ((st2.putRow 1 (some (.arr (mn 2 2) 3 l))).setA (some 21) (.int .i64 (List.replicate l.length (IV.I 0)).length)).get (.tmp d) = st.get (.tmp d) := fun d hd => by
    have h21 : (21 : Nat) ≠ d := by intro e; subst e; revert hd; decide
    have h20 : (20 : Nat) ≠ d := by intro e; subst e; revert hd; decide
    have h19 : (19 : Nat) ≠ d := by intro e; subst e; revert hd; decide
    unfold St.setA; rw [get_set_ne h21, get_put, hst2, get_set_ne h20, get_set_ne h19]
  exact hq N3 _ x3 w3 hr3 ⟨by unfold St.setA; rw [len_set, len_put]; exact hn2, (hget 0 (by decide)).trans g0, (hget 1 (by decide)).trans g1, (hget 2 (by decide)).trans g2, (hget 3 (by decide)).trans g3, (hget 4 (by decide)).trans g4, (hrow 5 (by decide)).trans r5, (hrow 6 (by decide)).trans r6, (hrow 7 (by decide)).trans r7, (hrow 8 (by decide)).trans r8, (hrow 9 (by decide)).trans r9, (hrow 10 (by decide)).trans r10⟩
    ((hget 7 (by decide)).trans h7) (by unfold St.setA; rw [row_set, row_put, if_pos rfl]; rfl) (hp3.trans (hp2.trans (hp1.trans hh)))
theorem end75 {fn : Func} {vs : List Value} {res : List IV} (hres : fn.results = #[]) (hr : Rel ⟨P, tab, w0, S, X, β0⟩ N st a w) (hG : G75 b l (out ++ res) left p z st) (hh : hd0 a = vs.getD 0 undef) {e : Exit} (he : e = .ret ∨ e = .normal) :
    bodyPost P fn (fun e w' => ∃ N' mem', e = .returned (pack []) ∧ Rel ⟨P, tab, w0, S, X, β0⟩ N' ⟨[], mem'⟩ { tmps := #[], defers := [] } w' ∧
      rowIn mem' 5 = some (.box true 44 [0] (.a (.own 6))) ∧ rowIn mem' 6 = some (.arr 2 46 (out ++ res)) ∧ rowIn mem' 7 = some (.box true 29 [] (.a (.iv p 29 b))) ∧ rowIn mem' 8 = some (.box true 88 [] (.a (.fn 75 [5, 7, 8]))) ∧ rowIn mem' 9 = some (.arr 2 3 l) ∧ N'.β 9 = vs.getD 0 undef) e a w := by
  have hrun : (fn.results.toList.mapM (fun | .tmp t => pure (a.tmps.getD t undef) | .cell x t => do loadVar t (← asAddr (a.tmps.getD x undef)) : ResultVar → Sem Value)).run P w = .ok [] w := by
    rw [hres]; simp
  have h0 : a.tmps.getD 0 undef = N.β 9 := slot_own (get1_slot hr (x := .tmp 0) (y := .own 9) (by unfold get1; rw [hG.g0]))
  have key : a.defers = [] ∧ ∃ v, (results fn a.tmps).run P w = .ok v w ∧ ∃ N' mem', Ending.returned v = .returned (pack []) ∧ Rel ⟨P, tab, w0, S, X, β0⟩ N' ⟨[], mem'⟩ { tmps := #[], defers := [] } w ∧
      rowIn mem' 5 = some (.box true 44 [0] (.a (.own 6))) ∧ rowIn mem' 6 = some (.arr 2 46 (out ++ res)) ∧ rowIn mem' 7 = some (.box true 29 [] (.a (.iv p 29 b))) ∧ rowIn mem' 8 = some (.box true 88 [] (.a (.fn 75 [5, 7, 8]))) ∧ rowIn mem' 9 = some (.arr 2 3 l) ∧ N'.β 9 = vs.getD 0 undef :=
    ⟨hr.dfr, pack [], run_results hrun, N, st.mem, rfl, hr.noEnv, hG.r5, hG.r6, hG.r7, hG.r8, hG.r9, h0.symm.trans hh⟩
  rcases he with rfl | rfl <;> exact key
theorem step75 {d : Nat} (K : K75 P ext k b p) (hd : left.length ≤ d) (hle : l.length + d ≤ 1000) (hlo : Ok (.L left)) (hleft : ∀ x ∈ left, ∃ n, x = .I n) (hl : ∀ x ∈ l, ∃ c : Nat, x = .I (c : Int) ∧ c < (asL (fld b 0)).length)
    (ih : ∀ d' : Nat, d = d' + 1 → ∀ c : Nat, c < (asL (fld b 0)).length → (rst (plo b c) left).length < left.length → S75 P b p (rst (plo b c) left) (l ++ [.I (c : Int)]) (cho b d' (rst (plo b c) left) (l ++ [.I (c : Int)]))) : S75 P b p left l (cho b d left l) := by
  intro out z C N vs mem hbd hP hT ok m5 m6 m7 m8 m9 m10 hr
  obtain ⟨P', T', w0, S, X, β0⟩ := C
  obtain rfl : P' = P := hP
  obtain rfl : T' = tab := hT
  obtain ⟨fn, f1, f2, f3, f4, f5⟩ := K.hF 75 fx75 rfl
  have hres : fn.results = #[] := by
    have : fn.results.toList = [] := f5
    exact Array.toList_eq_nil_iff.1 this
  refine calls_of_wp f1 f3 ?_
  have hlen := hr.len
  have hlen : vs.length = 5 := by simpa using hlen
  have hpad := hr.pad (fn.ntmps - vs.length)
  have hsz : vs.toArray.size = vs.length := by simp
  rw [hsz]
  have hnt : fn.ntmps = 86 := f4
  rw [hnt, hlen] at hpad ⊢
  obtain ⟨st0, hst0⟩ : ∃ st0 : St, st0 = ⟨[At.own 9, .iv z 46 (.L left), .ptr 5 [] 44, .ptr 7 [] 29, .ptr 8 [] 88].map (fun x => .v (.a x)) ++ List.replicate (86 - 5) U, mem⟩ := ⟨_, rfl⟩
  rw [← hst0] at hpad
  have hG : G75 b l out left p z st0 := by
    rw [hst0]
    exact ⟨rfl, rfl, rfl, rfl, rfl, rfl, m5, m6, m7, m8, m9, m10⟩
  obtain ⟨a0, ha0⟩ : ∃ a0 : Act, a0 = { tmps := vs.toArray ++ Array.replicate (86 - 5) undef, defers := [] } := ⟨_, rfl⟩
  rw [← ha0] at hpad ⊢
  have hh : hd0 a0 = vs.getD 0 undef := by
    rw [ha0]
    unfold hd0
    rw [Array.getD_eq_getD_getElem?, Array.getElem?_append_left (by rw [hsz, hlen]; decide)]
    simp [List.getD]
  clear ha0 hst0 m5 m6 m7 m8 m9 m10 hr
  show (Code.seq (.seq (sq1 (sq1 c75)) (.cond (.tmp 15) (cThen (sq2 (sq1 c75))) .skip)) (sq2 c75)).wp P' _ a0 w0
  refine wp_seq (wp_seq (do75 ok K.hrun hpad rfl (p75_0 ext k 0 b l left out p z st0 hG) (fun e N1 s1 a1 w1 ⟨he, h15, hF⟩ hr1 hp1 => ?_)))
  subst he
  obtain ⟨e1, e2, e3, e4, e5, e6, e7, e8, e9, e10, e11, e12⟩ := hF
  have hG1 : G75 b l out left p z s1 := ⟨e1, e2, e3, e4, e5, e6, e7, e8, e9, e10, e11, e12⟩
  clear e1 e2 e3 e4 e5 e6 e7 e8 e9 e10 e11 e12
  have hsl := hr1.get (.tmp 15)
  rw [h15] at hsl
  refine wp_cond (slot_bool hsl) ?_
  by_cases hnil : left = []
  · have ht : decide ((left.length : Int) = 0) = true := by rw [hnil]; rfl
    rw [ht, if_pos rfl]
    rw [hnil, cho_nil] at hbd
    have hbd : out.length + 1 ≤ 1000000 := hbd
    show (Code.seq (sq1 (cThen (sq2 (sq1 c75)))) (.seq t275 (sq2 (sq2 (cThen (sq2 (sq1 c75))))))).wp P' _ a1 w1
    refine wp_seq (do75 ok K.hrun hr1 rfl (p75_1 ext k 0 b l left out p z s1 hG1 (by omega)) (fun e N2 s2 a2 w2 ⟨he, h7, h1, hF⟩ hr2 hp2 => ?_))
    subst he
    obtain ⟨e1, e2, e3, e4, e5, e6, e7, e8, e9, e10, e11, e12⟩ := hF
    refine wp_seq (copy75 ok hr2 ⟨e1, e2, e3, e4, e5, e6, e7, e8, e9, e10, e11, e12⟩ h7 h1 (hp2.trans (hp1.trans hh)) (fun N3 s3 a3 w3 hr3 hG3 h73 h13 hh3 => ?_))
    refine do75 ok K.hrun hr3 rfl (p75_3 ext k 0 b l left out p z s3 hG3 hbd h73 h13) (fun e N4 s4 a4 w4 ⟨he, hF⟩ hr4 hp4 => ?_)
    subst he
    obtain ⟨e1, e2, e3, e4, e5, e6, e7, e8, e9, e10, e11, e12⟩ := hF
    have := end75 (fn := fn) (vs := vs) (res := cho b d left l) hres hr4 (by rw [hnil, cho_nil]; rw [hnil] at e3; exact ⟨e1, e2, e3, e4, e5, e6, e7, e8, e9, e10, e11, e12⟩) (hp4.trans hh3) (e := .ret) (.inl rfl)
    exact this
  · have hpos : 0 < left.length := List.length_pos_iff.2 hnil
    have ht : decide ((left.length : Int) = 0) = false := decide_eq_false (by omega)
    rw [ht, if_neg (by decide)]
    obtain ⟨d, rfl⟩ : ∃ d', d = d' + 1 := ⟨d - 1, by omega⟩
    have ih := ih d rfl
    rw [cho_succ hnil] at hbd ⊢
    refine wp_skip ?_
    show (Code.seq (sq1 (sq2 c75)) (.seq (sq1 (sq2 (sq2 c75))) (.seq (sq1 (sq2 (sq2 (sq2 c75)))) (.block 0 (.loop lp75))))).wp P' _ a1 w1
    refine wp_seq (do75 ok K.hrun hr1 rfl (p75_4 ext k 0 b l left out p z s1 hG1) (fun e N2 s2 a2 w2 ⟨he, h8, hF⟩ hr2 hp2 => ?_))
    subst he
    obtain ⟨e1, e2, e3, e4, e5, e6, e7, e8, e9, e10, e11, e12⟩ := hF
    have hG2 : G75 b l out left p z s2 := ⟨e1, e2, e3, e4, e5, e6, e7, e8, e9, e10, e11, e12⟩
    clear e1 e2 e3 e4 e5 e6 e7 e8 e9 e10 e11 e12
    have from_ : Code.wp P' (sq1 (sq2 (sq2 c75))) (fun e a' w' => e = .normal ∧ hd0 a' = hd0 a2 ∧ ∃ N' st', Rel ⟨P', tab, w0, S, X, β0⟩ N' st' a' w' ∧ G75 b l out left p z st' ∧ st'.get (.tmp 8) = .v (.a (.int .i64 ((frL l : Nat) : Int)))) a2 w2 := by
      by_cases hl0 : l = []
      · refine do75 ok K.hrun hr2 rfl (p75_5a ext k 0 b l left out p z s2 hG2 hl0 h8) (fun e N3 s3 a3 w3 ⟨he, h83, hF⟩ hr3 hp3 => ?_)
        subst he
        obtain ⟨e1, e2, e3, e4, e5, e6, e7, e8, e9, e10, e11, e12⟩ := hF
        exact ⟨rfl, hp3, N3, s3, hr3, ⟨e1, e2, e3, e4, e5, e6, e7, e8, e9, e10, e11, e12⟩, by rw [h83]; unfold frL; rw [if_pos hl0]; rfl⟩
      · have hlp : 0 < l.length := List.length_pos_iff.2 hl0
        obtain ⟨c, hc1, hc2⟩ := hl _ (memD (l := l) (i := l.length - 1) (by omega))
        refine do75 ok K.hrun hr2 rfl (p75_5b ext k 0 b l left out p z c s2 hG2 (by have := K.hL; omega) (by omega) hlp hc1) (fun e N3 s3 a3 w3 ⟨he, h83, hF⟩ hr3 hp3 => ?_)
        subst he
        obtain ⟨e1, e2, e3, e4, e5, e6, e7, e8, e9, e10, e11, e12⟩ := hF
        exact ⟨rfl, hp3, N3, s3, hr3, ⟨e1, e2, e3, e4, e5, e6, e7, e8, e9, e10, e11, e12⟩, by rw [h83]; unfold frL; rw [if_neg hl0, hc1]; rfl⟩
    refine wp_seq (wp_mono from_ (fun e a3 w3 ⟨he, hp3, N3, s3, hr3, hG3, h83⟩ => ?_))
    subst he
    refine wp_seq (do75 ok K.hrun hr3 rfl (p75_7 ext k 0 b l left out p z (frL l) s3 hG3 h83) (fun e N4 s4 a4 w4 ⟨he, h94, hF⟩ hr4 hp4 => ?_))
    subst he
    obtain ⟨e1, e2, e3, e4, e5, e6, e7, e8, e9, e10, e11, e12⟩ := hF
    have hG4 : G75 b l out left p z s4 := ⟨e1, e2, e3, e4, e5, e6, e7, e8, e9, e10, e11, e12⟩
    clear e1 e2 e3 e4 e5 e6 e7 e8 e9 e10 e11 e12
    have hh4 : hd0 a4 = vs.getD 0 undef := hp4.trans (hp3.trans (hp2.trans (hp1.trans hh)))
    refine wp_block (wp_loop_rounds _ (loop75 (h0 := vs.getD 0 undef) (d := d) ok K hl (by omega) (by omega) hlo hleft ih ((asL (fld b 0)).length) (frL l) out N4 s4 a4 w4 (by omega) hr4 hG4 h94 hh4 hbd (fun N5 s5 a5 w5 hr5 hG5 hh5 => ?_)))
    exact end75 (fn := fn) (vs := vs) (res := ctl b d left l (frL l)) hres hr5 hG5 hh5 (e := .normal) (.inr rfl)
theorem s75 (K : K75 P ext k b p) : ∀ (d : Nat) (left l : List IV), left.length ≤ d → l.length + d ≤ 1000 → Ok (.L left) → (∀ x ∈ left, ∃ n, x = .I n) → (∀ x ∈ l, ∃ c : Nat, x = .I (c : Int) ∧ c < (asL (fld b 0)).length) → S75 P b p left l (cho b d left l) := by
  intro d
  induction d with
  | zero => exact fun left l hd hle hlo hleft hl => step75 K hd hle hlo hleft hl (fun d' h => by cases h)
  | succ d ih =>
    intro left l hd hle hlo hleft hl
    refine step75 K hd hle hlo hleft hl (fun d' h c hc hlt => ?_)
    obtain rfl : d = d' := by omega
    refine ih _ _ (by omega) (by rw [List.length_append]; show _ + 1 + d ≤ 1000; omega) ?_ (fun x hx => hleft x ((rst_mem hleft).1 hx).1) (fun x hx => ?_)
    · exact .L (Nat.le_trans rst_len (ok_len hlo)) (fun x hx => ok_mem hlo ((rst_mem hleft).1 hx).1)
    · rcases List.mem_append.1 hx with hx | hx
      · exact hl x hx
      · exact ⟨c, List.mem_singleton.1 hx, hc⟩
end
end Go.Proofs.Ytficdonjodadlaa
end
