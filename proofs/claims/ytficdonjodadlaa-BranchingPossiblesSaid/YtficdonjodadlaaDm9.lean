/- Part 9 of a proof: Dm. Words and walks that a program printed for this claim stand here without what the claim does not use. -/
import Derived.Test.YtficdonjodadlaaDm5
import Derived.Test.YtficdonjodadlaaDm6
import Derived.Test.YtficdonjodadlaaDm7
import Derived.Test.YtficdonjodadlaaDm8
set_option linter.unusedSimpArgs false
set_option linter.unusedVariables false
section
set_option linter.unusedVariables false
namespace Go.Ev
theorem ints_len {s : List Nat} : (ints s).length = s.length := by simp [ints]
theorem ints_mem {s : List Nat} {x : IV} : x ∈ ints s ↔ ∃ c ∈ s, x = .I (c : Int) := by
  simp only [ints, List.mem_map]
  constructor
  · rintro ⟨c, h, rfl⟩; exact ⟨c, h, rfl⟩
  · rintro ⟨c, h, rfl⟩; exact ⟨c, h, rfl⟩
theorem lst_full {b : IV} {t : Int} {l : IV} : lst b (asL (fld b 1)).length t l = KN b t l := by
  unfold lst KN
  rw [← any_range]
theorem wgt_ne {l : IV} {q : Int} (hw : ∀ z ∈ asL l, asI (fld z 1) = 1) (h : ∃ z ∈ asL l, asI (fld z 0) = q) : ¬wgt l q = 0 := by
  unfold wgt
  obtain ⟨z, hz, hq⟩ := h
  revert hw hz
  generalize asL l = L
  intro hw hz
  induction L with
  | nil => cases hz
  | cons y L ih =>
    simp only [foldS]
    by_cases hy : asI (fld y 0) = q
    · rw [if_pos hy]
      have := hw y (List.mem_cons_self ..)
      simp only [this]; decide
    · rw [if_neg hy]
      rcases List.mem_cons.1 hz with rfl | hz
      · exact absurd hq hy
      · exact ih (fun z hz => hw z (List.mem_cons_of_mem _ hz)) hz
theorem ON_w {n : IV} (h : ON n = true) {t : IV} (ht : t ∈ asL (fld n 2)) : ∀ z ∈ asL (fld t 1), asI (fld z 1) = 1 := by
  intro z hz
  simp only [ON, Bool.and_eq_true, Bool.not_eq_true', List.any_eq_false] at h
  have h1 := h.1 t ht
  have h2 : (asL (fld t 1)).any (fun z => !decide (asI (fld z 1) = 1)) = false := by
    cases hh : (asL (fld t 1)).any (fun z => !decide (asI (fld z 1) = 1)) with
    | false => rfl
    | true => exact absurd (List.any_eq_true.2 ⟨fld t 1, List.mem_cons_self .., hh⟩) h1
  have := List.any_eq_false.1 h2 z hz
  simpa using this
section
variable {n b l : IV} {t : Int} {s : List Nat}
end
end Go.Ev
end
section
set_option linter.unusedVariables false
namespace Go.Ev
section
variable {n : IV} {C E C2 : List IV} {x : IV}
end
theorem rPS_mem {n b x : IV} (h : x ∈ rPS n b) : ∃ (i : Nat) (s : List Nat), x = .L (.I (i : Int) :: ints s) ∧ i < (asL (fld n 2)).length ∧ s.length = (asL (fld ((asL (fld n 2)).getD i .N) 1)).length ∧ ∀ c ∈ s, c < (asL (fld b 0)).length := by
  unfold rPS at h
  split at h
  · unfold rPO at h
    obtain ⟨t, ht, h⟩ := List.mem_flatMap.1 h
    unfold rPI at h
    obtain ⟨k, hk, rfl⟩ := List.mem_map.1 h
    have hu := memD (List.mem_range.1 hk)
    generalize (rCH n b t).getD k .N = u at hu
    unfold rCH at hu
    obtain ⟨s, h1, h2, _, _, rfl⟩ := mem_chs.1 hu
    exact ⟨t, s, rfl, List.mem_range.1 ht, h1, fun c hc => ((of_xt h2).1 c hc).2⟩
  · cases h
end Go.Ev
end
section
set_option linter.unusedVariables false
namespace Go.Ev
theorem poS_1 {n b : IV} {i m k : Nat} {a : Unit} (p1 : ¬asI ((asL (fld ((asL (fld b 1)).getD i .N) 2)).getD k .N) = (m : Int) + (k : Int)) : poS n b (i : Int) (m : Int) a k = .ret true := by
  unfold poS; rw [el_nat, if_neg p1]
theorem poS_2 {n b : IV} {i m k : Nat} {a : Unit} (p1 : asI ((asL (fld ((asL (fld b 1)).getD i .N) 2)).getD k .N) = (m : Int) + (k : Int)) (p2 : ((asL (fld b 0)).length : Int) ≤ (m : Int) + (k : Int)) : poS n b (i : Int) (m : Int) a k = .ret true := by
  unfold poS; rw [el_nat, if_pos p1, p1, if_pos p2]
theorem poS_3 {n b : IV} {i m k : Nat} {a : Unit} (p1 : asI ((asL (fld ((asL (fld b 1)).getD i .N) 2)).getD k .N) = (m : Int) + (k : Int)) (p2 : (m : Int) + (k : Int) < ((asL (fld b 0)).length : Int)) (hk : k < (asL (fld (el (asL (fld n 2)) (asI (fld ((asL (fld b 1)).getD i .N) 0))) 2)).length)
    (h : ¬(asI (fld (el (asL (fld b 0)) ((m : Int) + (k : Int))) 0) = asI (fld ((asL (fld (el (asL (fld n 2)) (asI (fld ((asL (fld b 1)).getD i .N) 0))) 2)).getD k .N) 0) ∧ asI (fld (el (asL (fld b 0)) ((m : Int) + (k : Int))) 1) = (i : Int))) : poS n b (i : Int) (m : Int) a k = .ret true := by
  unfold poS outs
  rw [el_nat, if_pos p1, p1, if_neg (by omega), tgs_get hk, if_neg]
  intro hh
  rw [Bool.and_eq_true] at hh
  exact h ⟨of_decide_eq_true hh.1, of_decide_eq_true hh.2⟩
theorem poS_5 {n b : IV} {i m k : Nat} {a : Unit} (p1 : asI ((asL (fld ((asL (fld b 1)).getD i .N) 2)).getD k .N) = (m : Int) + (k : Int)) (p2 : (m : Int) + (k : Int) < ((asL (fld b 0)).length : Int)) (hk : k < (asL (fld (el (asL (fld n 2)) (asI (fld ((asL (fld b 1)).getD i .N) 0))) 2)).length)
    (p3 : asI (fld (el (asL (fld b 0)) ((m : Int) + (k : Int))) 0) = asI (fld ((asL (fld (el (asL (fld n 2)) (asI (fld ((asL (fld b 1)).getD i .N) 0))) 2)).getD k .N) 0)) (p4 : asI (fld (el (asL (fld b 0)) ((m : Int) + (k : Int))) 1) = (i : Int)) : poS n b (i : Int) (m : Int) a k = .next () := by
  unfold poS outs
  rw [el_nat, if_pos p1, p1, if_neg (by omega), tgs_get hk, if_pos]
  rw [Bool.and_eq_true]
  exact ⟨decide_eq_true p3, decide_eq_true p4⟩
end Go.Ev
end
section
set_option linter.unusedSimpArgs false
set_option linter.unusedVariables false
set_option maxRecDepth 100000
set_option maxHeartbeats 100000000
namespace Go.Proofs.Ytficdonjodadlaa
open Go.Ev Go.Proofs
theorem AU_rcheckb {p : Prop} (h : p := by
  repeat' (first | (with_reducible refine condLt (fun h h' => ?_) (fun h h' => ?_)) | (with_reducible refine condLe (fun h h' => ?_) (fun h h' => ?_)) | (with_reducible refine dop_val ?_) | (with_reducible refine YsLt (fun h h' => ?_) (fun h h' => ?_)) | (with_reducible refine YsLe (fun h h' => ?_) (fun h h' => ?_)) | (with_reducible refine condP (fun h => ?_) (fun h => ?_)) | (with_reducible refine condN (fun h => ?_) (fun h => ?_)) | (with_reducible refine condB (fun h => ?_) (fun h => ?_)) | (with_reducible refine condR (fun h => ?_) (fun h => ?_)) | (with_reducible refine YsB (fun h => ?_) (fun h => ?_)) | (with_reducible refine YsC (fun h => ?_) (fun h => ?_)) | (with_reducible refine Ys_ite (fun h => ?_) (fun h => ?_)) | (intro h) | (with_reducible refine draw_look (by kernel_rfl) (by kernel_rfl) ?_) | (simp (maxDischargeDepth := 9) only [go_sem, Nat.reduceMul, Nat.reduceAdd, Nat.reduceLeDiff, Int.reduceSub, Int.reduceNeg, Int.reduceLT, Int.reduceLE, Int.reduceEq, *, rinitial_ans, rcoset_ans, rrise_ans, rlisted_ans, Tab.eqF, Function.comp_apply, R1.frozenL, RV.frozenT, cutB_eqn, tgs_len]) | (exfalso; omega))) : p := h
theorem rcheckb_ans (ext : CallF) (k : Nat) (n b : IV) (hk : maxLen + (40) ≤ k) (hnn : Ok n) (hb : Ok b) (hz : (asL (fld b 1)).length ≤ 1000000) (hzc : (asL (fld b 0)).length ≤ 1000000) (hzp : (asL (fld n 1)).length ≤ 1000) (hg : IE n = 0 → NG n) : ans (tab.run ext k) 16 [.iv 2 25 n, .iv 2 29 b] 6 = some ([.one (.at (.iv 2 38 (.A [.I (CK n b).1, .I (CK n b).2])))], [38]) := by
  obtain ⟨k, rfl⟩ : ∃ k', k = k' + 1 := ⟨k - 1, by omega⟩
  have hk1 : maxLen < k := by omega
  have hk0 : 0 < k := by omega
  have hk_0 : maxLen + (14) ≤ k := by omega
  have hk_1 : maxLen + (2) ≤ k := by omega
  have hk_2 : maxLen + (24) ≤ k := by omega
  have hk_3 : maxLen + (6) ≤ k := by omega
  refine fn_run (fx := fx16) (m := 238) 240 rfl rfl rfl rfl (fun st hn hg hr => ?_)
  have g0 : st.get (.tmp 0) = .v (.a (.iv 2 25 n)) := hg 0 (of_decide_eq_true rfl)
  have g1 : st.get (.tmp 1) = .v (.a (.iv 2 29 b)) := hg 1 (of_decide_eq_true rfl)
  have r0 := hr 0
  have r1 := hr 1
  have r2 := hr 2
  have r3 := hr 3
  have r4 := hr 4
  have r5 := hr 5
  clear hg hr
  rw [co16]
  simp only [Try.f16, Option.getD_some]
  unfold CK
  have hl0 := ok_len (ok_fld (j := 0) hb)
  have hl1 := ok_len (ok_fld (j := 1) hb)
  have hlf := fcs_len (n := n)
  have hlf2 : (fcs n).length ≤ 1000000 := by omega
  by_cases h1 : IE n = 0
  case neg =>
    have hib := ibR_no h1
    simp (maxDischargeDepth := 9) only [go_sem, Nat.reduceMul, Nat.reduceAdd, Nat.reduceLeDiff, Int.reduceSub, Int.reduceNeg, Int.reduceLT, Int.reduceLE, Int.reduceEq, *, rinitial_ans, rcoset_ans, rrise_ans, rlisted_ans, Tab.eqF, Function.comp_apply, R1.frozenL, RV.frozenT, cutB_eqn, tgs_len]
    all_goals exact AU_rcheckb
  have hib := ibR_ok h1
  have hg := hg h1
  have hr := rg_of h1
  simp (maxDischargeDepth := 9) only [go_sem, Nat.reduceMul, Nat.reduceAdd, Nat.reduceLeDiff, Int.reduceSub, Int.reduceNeg, Int.reduceLT, Int.reduceLE, Int.reduceEq, *, rinitial_ans, rcoset_ans, rrise_ans, rlisted_ans, Tab.eqF, Function.comp_apply, R1.frozenL, RV.frozenT, cutB_eqn, tgs_len]
  repeat' (first | (with_reducible refine condLt (fun h h' => ?_) (fun h h' => ?_)) | (with_reducible refine condLe (fun h h' => ?_) (fun h h' => ?_)) | (with_reducible refine dop_val ?_) | (with_reducible refine YsLt (fun h h' => ?_) (fun h h' => ?_)) | (with_reducible refine YsLe (fun h h' => ?_) (fun h h' => ?_)) | (with_reducible refine condP (fun h => ?_) (fun h => ?_)) | (with_reducible refine condN (fun h => ?_) (fun h => ?_)) | (with_reducible refine condB (fun h => ?_) (fun h => ?_)) | (with_reducible refine condR (fun h => ?_) (fun h => ?_)) | (with_reducible refine YsB (fun h => ?_) (fun h => ?_)) | (with_reducible refine YsC (fun h => ?_) (fun h => ?_)) | (with_reducible refine Ys_ite (fun h => ?_) (fun h => ?_)) | (intro h) | (with_reducible refine draw_look (by kernel_rfl) (by kernel_rfl) ?_) | (simp (maxDischargeDepth := 9) only [go_sem, Nat.reduceMul, Nat.reduceAdd, Nat.reduceLeDiff, Int.reduceSub, Int.reduceNeg, Int.reduceLT, Int.reduceLE, Int.reduceEq, *, rinitial_ans, rcoset_ans, rrise_ans, rlisted_ans, Tab.eqF, Function.comp_apply, R1.frozenL, RV.frozenT, cutB_eqn, tgs_len]) | (exfalso; omega))
  unfold CK1
  refine gen_st (fun s0 hg hr hn0 => ?_)
  have e2 := hg 2
  have e3 := hg 3
  have e4 := hg 4
  have e5 := hg 5
  have e7 := hg 7
  have q0 := hr 0
  have q1 := hr 1
  have q2 := hr 2
  have q3 := hr 3
  clear hg hr
  simp only [go_sem, *] at hn0 e2 e3 e4 e5 e7 q0 q1 q2 q3
  refine nr (runs_forN (fcs n).length (ckF n b) () 240 (fun i a => [(2, s0.get (.tmp 2)), (3, s0.get (.tmp 3)), (4, s0.get (.tmp 4)), (5, s0.get (.tmp 5)), (7, .v (.a (.int .i64 (i : Nat))))]) (fun i a => [(0, s0.row 0), (1, s0.row 1), (2, s0.row 2), (3, s0.row 3)]) (fun i a => True) (by omega) ?_ (trivial) ?_ ?_ ?_ ?_)
  · simp (maxDischargeDepth := 9) only [go_sem, Nat.reduceMul, Nat.reduceAdd, Nat.reduceLeDiff, Int.reduceSub, Int.reduceNeg, Int.reduceLT, Int.reduceLE, Int.reduceEq, *, rinitial_ans, rcoset_ans, rrise_ans, rlisted_ans, Tab.eqF, Function.comp_apply, R1.frozenL, RV.frozenT, cutB_eqn, tgs_len]
  · intro i a; simp (maxDischargeDepth := 9) only [go_sem, Nat.reduceMul, Nat.reduceAdd, Nat.reduceLeDiff, Int.reduceSub, Int.reduceNeg, Int.reduceLT, Int.reduceLE, Int.reduceEq, *, rinitial_ans, rcoset_ans, rrise_ans, rlisted_ans, Tab.eqF, Function.comp_apply, R1.frozenL, RV.frozenT, cutB_eqn, tgs_len]
  · intro i a; simp (maxDischargeDepth := 9) only [go_sem, Nat.reduceMul, Nat.reduceAdd, Nat.reduceLeDiff, Int.reduceSub, Int.reduceNeg, Int.reduceLT, Int.reduceLE, Int.reduceEq, *, rinitial_ans, rcoset_ans, rrise_ans, rlisted_ans, Tab.eqF, Function.comp_apply, R1.frozenL, RV.frozenT, cutB_eqn, tgs_len]
  · intro i a s hi hI hS
    clear hn0 e7
    simp only [go_sem] at hS
    obtain ⟨f2, f3, f4, f5, f7, m0, m1, m2, m3, hn⟩ := hS
    have hw := wrap_succ hi (by unfold maxLen; omega)
    unfold ckF
    have hib : i < (asL (fld b 0)).length := by omega
    refine rn ?_
    simp (maxDischargeDepth := 9) only [go_sem, Nat.reduceMul, Nat.reduceAdd, Nat.reduceLeDiff, Int.reduceSub, Int.reduceNeg, Int.reduceLT, Int.reduceLE, Int.reduceEq, *, rinitial_ans, rcoset_ans, rrise_ans, rlisted_ans, Tab.eqF, Function.comp_apply, R1.frozenL, RV.frozenT, cutB_eqn, tgs_len]
    all_goals exact AU_rcheckb
  · intro a s hI hf hS
    clear hn0 e7
    simp only [go_sem] at hS
    obtain ⟨f2, f3, f4, f5, f7, m0, m1, m2, m3, hn⟩ := hS
    try simp only [go_sem] at hf
    unfold ckF at hf
    simp only [go_sem] at hf
    unfold CK2
    refine rn ?_
    simp (maxDischargeDepth := 9) only [go_sem, Nat.reduceMul, Nat.reduceAdd, Nat.reduceLeDiff, Int.reduceSub, Int.reduceNeg, Int.reduceLT, Int.reduceLE, Int.reduceEq, *, rinitial_ans, rcoset_ans, rrise_ans, rlisted_ans, Tab.eqF, Function.comp_apply, R1.frozenL, RV.frozenT, cutB_eqn, tgs_len]
    refine gen_st (fun s0 hg hr hn0 => ?_)
    have e2 := hg 2
    have e3 := hg 3
    have e4 := hg 4
    have e9 := hg 9
    have e8 := hg 8
    have q0 := hr 0
    have q1 := hr 1
    have q2 := hr 2
    have q3 := hr 3
    clear hg hr
    simp only [go_sem, *] at hn0 e2 e3 e4 e9 e8 q0 q1 q2 q3
    refine nr (runs_forNF (asL (fld b 1)).length (ckE n b) (fcs n).length 240 (fun i m => [(2, s0.get (.tmp 2)), (3, s0.get (.tmp 3)), (4, s0.get (.tmp 4)), (8, .v (.a (.int .i64 (m : Nat)))), (9, .v (.a (.int .i64 (i : Nat))))]) (fun i m => [(0, s0.row 0), (1, s0.row 1), (2, s0.row 2), (3, s0.row 3)]) (fun i m => (m ≤ (asL (fld b 0)).length)) (by omega) ?_ (by omega) ?_ ?_ ?_ ?_)
    · simp (maxDischargeDepth := 9) only [go_sem, Nat.reduceMul, Nat.reduceAdd, Nat.reduceLeDiff, Int.reduceSub, Int.reduceNeg, Int.reduceLT, Int.reduceLE, Int.reduceEq, *, rinitial_ans, rcoset_ans, rrise_ans, rlisted_ans, Tab.eqF, Function.comp_apply, R1.frozenL, RV.frozenT, cutB_eqn, tgs_len]
    · intro i a; simp (maxDischargeDepth := 9) only [go_sem, Nat.reduceMul, Nat.reduceAdd, Nat.reduceLeDiff, Int.reduceSub, Int.reduceNeg, Int.reduceLT, Int.reduceLE, Int.reduceEq, *, rinitial_ans, rcoset_ans, rrise_ans, rlisted_ans, Tab.eqF, Function.comp_apply, R1.frozenL, RV.frozenT, cutB_eqn, tgs_len]
    · intro i a; simp (maxDischargeDepth := 9) only [go_sem, Nat.reduceMul, Nat.reduceAdd, Nat.reduceLeDiff, Int.reduceSub, Int.reduceNeg, Int.reduceLT, Int.reduceLE, Int.reduceEq, *, rinitial_ans, rcoset_ans, rrise_ans, rlisted_ans, Tab.eqF, Function.comp_apply, R1.frozenL, RV.frozenT, cutB_eqn, tgs_len]
    · intro i m s hi hI hS hz
      clear hn0 e9 e8
      simp only [go_sem] at hS
      obtain ⟨f2, f3, f4, f8, f9, m0, m1, m2, m3, hn⟩ := hS
      have hw := wrap_succ hi (hl1)
      have zr5 := hz 5 (by kernel_rfl)
      have zr4 := hz 4 (by kernel_rfl)
      clear hz
      unfold ckE
      have hio := hi
      have hox : Ok ((asL (fld b 1)).getD i .N) := ok_getD (ok_fld hb)
      have hop : Ok (fld ((asL (fld b 1)).getD i .N) 1) := ok_fld hox
      have hlp : (asL (fld ((asL (fld b 1)).getD i .N) 1)).length ≤ maxLen := ok_len hop
      have hlq : (asL (fld ((asL (fld b 1)).getD i .N) 2)).length ≤ maxLen := ok_len (ok_fld hox)
      have hiE : i ≤ (asL (fld b 1)).length := by omega
      by_cases h1 : asI (fld ((asL (fld b 1)).getD i .N) 0) < 0 ∨ ((asL (fld n 2)).length : Int) ≤ asI (fld ((asL (fld b 1)).getD i .N) 0)
      case pos =>
        have hce : CE n b (i : Int) (m : Int) = 1 := CE_1 h1
        refine rn ?_
        simp (maxDischargeDepth := 9) only [go_sem, Nat.reduceMul, Nat.reduceAdd, Nat.reduceLeDiff, Int.reduceSub, Int.reduceNeg, Int.reduceLT, Int.reduceLE, Int.reduceEq, *, rinitial_ans, rcoset_ans, rrise_ans, rlisted_ans, Tab.eqF, Function.comp_apply, R1.frozenL, RV.frozenT, cutB_eqn, tgs_len]
        all_goals exact AU_rcheckb
      have h1a : 0 ≤ asI (fld ((asL (fld b 1)).getD i .N) 0) := by omega
      have h1b : asI (fld ((asL (fld b 1)).getD i .N) 0) < ((asL (fld n 2)).length : Int) := by omega
      have h1c : ¬asI (fld ((asL (fld b 1)).getD i .N) 0) < 0 := by omega
      have h1d : ¬((asL (fld n 2)).length : Int) ≤ asI (fld ((asL (fld b 1)).getD i .N) 0) := by omega
      clear h1
      have hceq : CE n b (i : Int) (m : Int) = ((if (asL (fld ((asL (fld b 1)).getD i .N) 1)).length = (asL (fld (el (asL (fld n 2)) (asI (fld ((asL (fld b 1)).getD i .N) 0))) 1)).length then (if RZ (fld ((asL (fld b 1)).getD i .N) 1) = true then 8 else if ((asL (fld ((asL (fld b 1)).getD i .N) 1)).any fun x => decide (asI x < 0 ∨ (m : Int) ≤ asI x)) = true then 7 else if rfit b (asL (fld (el (asL (fld n 2)) (asI (fld ((asL (fld b 1)).getD i .N) 0))) 1)) (asL (fld ((asL (fld b 1)).getD i .N) 1)) = true then (if CS (cutB b (i : Int) (m : Int)) (fld ((asL (fld b 1)).getD i .N) 1) = true then (if lst b i (asI (fld ((asL (fld b 1)).getD i .N) 0)) (fld ((asL (fld b 1)).getD i .N) 1) = true then 6 else PO n b (i : Int) (m : Int)) else 15) else 17) else 2) : Int) := CE_eq (n := n) (b := b) (i := i) (m := m) hiE hI hg hr h1a h1b
      have hne : (asL (fld (el (asL (fld n 2)) (asI (fld ((asL (fld b 1)).getD i .N) 0))) 1)).length ≠ 0 := hr.ne _ (el_mem h1a h1b)
      by_cases h2 : (asL (fld ((asL (fld b 1)).getD i .N) 1)).length = (asL (fld (el (asL (fld n 2)) (asI (fld ((asL (fld b 1)).getD i .N) 0))) 1)).length
      case neg =>
        have hce : CE n b (i : Int) (m : Int) = 2 := by rw [hceq, if_neg h2]
        clear hceq
        refine rn ?_
        simp (maxDischargeDepth := 9) only [go_sem, Nat.reduceMul, Nat.reduceAdd, Nat.reduceLeDiff, Int.reduceSub, Int.reduceNeg, Int.reduceLT, Int.reduceLE, Int.reduceEq, *, rinitial_ans, rcoset_ans, rrise_ans, rlisted_ans, Tab.eqF, Function.comp_apply, R1.frozenL, RV.frozenT, cutB_eqn, tgs_len]
        all_goals exact AU_rcheckb
      rw [if_pos h2] at hceq
      have h2s : (asL (fld (el (asL (fld n 2)) (asI (fld ((asL (fld b 1)).getD i .N) 0))) 1)).length = (asL (fld ((asL (fld b 1)).getD i .N) 1)).length := h2.symm
      rw [h2s] at hne
      clear h2
      by_cases h3 : RZ (fld ((asL (fld b 1)).getD i .N) 1) = true
      case pos =>
        have hce : CE n b (i : Int) (m : Int) = 8 := by rw [hceq, if_pos h3]
        clear hceq
        refine rn ?_
        simp (maxDischargeDepth := 9) only [go_sem, Nat.reduceMul, Nat.reduceAdd, Nat.reduceLeDiff, Int.reduceSub, Int.reduceNeg, Int.reduceLT, Int.reduceLE, Int.reduceEq, *, rinitial_ans, rcoset_ans, rrise_ans, rlisted_ans, Tab.eqF, Function.comp_apply, R1.frozenL, RV.frozenT, cutB_eqn, tgs_len]
        all_goals exact AU_rcheckb
      rw [if_neg h3] at hceq
      have h3f : RZ (fld ((asL (fld b 1)).getD i .N) 1) = false := by simpa using h3
      have hrz : ((asL (fld ((asL (fld b 1)).getD i .N) 1)).any fun x => decide (asI x < 0 ∨ (m : Int) ≤ asI x)) = true ↔ asI (el (asL (fld ((asL (fld b 1)).getD i .N) 1)) 0) < 0 ∨ (m : Int) ≤ asI ((asL (fld ((asL (fld b 1)).getD i .N) 1)).getD ((asL (fld ((asL (fld b 1)).getD i .N) 1)).length - 1) .N) := rz_range (m := (m : Int)) h3f hne
      have hl3 : 0 < (asL (fld ((asL (fld b 1)).getD i .N) 1)).length := by omega
      have hl4 : (asL (fld ((asL (fld b 1)).getD i .N) 1)).length - 1 < (asL (fld ((asL (fld b 1)).getD i .N) 1)).length := by omega
      have hwl : IntKind.i64.wrap (((asL (fld ((asL (fld b 1)).getD i .N) 1)).length : Int) - 1) = (((asL (fld ((asL (fld b 1)).getD i .N) 1)).length - 1 : Nat) : Int) := by
        rw [Go.IntWalk.i64_in _ (by unfold maxLen at hlp; omega)]; omega
      by_cases h4a : asI (el (asL (fld ((asL (fld b 1)).getD i .N) 1)) 0) < 0
      case pos =>
        have hce : CE n b (i : Int) (m : Int) = 7 := by rw [hceq, if_pos (hrz.2 (.inl h4a))]
        clear hceq hrz
        refine rn ?_
        simp (maxDischargeDepth := 9) only [go_sem, Nat.reduceMul, Nat.reduceAdd, Nat.reduceLeDiff, Int.reduceSub, Int.reduceNeg, Int.reduceLT, Int.reduceLE, Int.reduceEq, *, rinitial_ans, rcoset_ans, rrise_ans, rlisted_ans, Tab.eqF, Function.comp_apply, R1.frozenL, RV.frozenT, cutB_eqn, tgs_len]
        all_goals exact AU_rcheckb
      have h4c : 0 ≤ asI (el (asL (fld ((asL (fld b 1)).getD i .N) 1)) 0) := by omega
      by_cases h4b : (m : Int) ≤ asI ((asL (fld ((asL (fld b 1)).getD i .N) 1)).getD ((asL (fld ((asL (fld b 1)).getD i .N) 1)).length - 1) .N)
      case pos =>
        have hce : CE n b (i : Int) (m : Int) = 7 := by rw [hceq, if_pos (hrz.2 (.inr h4b))]
        clear hceq hrz
        refine rn ?_
        simp (maxDischargeDepth := 9) only [go_sem, Nat.reduceMul, Nat.reduceAdd, Nat.reduceLeDiff, Int.reduceSub, Int.reduceNeg, Int.reduceLT, Int.reduceLE, Int.reduceEq, *, rinitial_ans, rcoset_ans, rrise_ans, rlisted_ans, Tab.eqF, Function.comp_apply, R1.frozenL, RV.frozenT, cutB_eqn, tgs_len]
        all_goals exact AU_rcheckb
      have h4 : ¬((asL (fld ((asL (fld b 1)).getD i .N) 1)).any fun x => decide (asI x < 0 ∨ (m : Int) ≤ asI x)) = true := fun h => by
        rcases hrz.1 h with h | h
        · exact h4a h
        · exact h4b h
      rw [if_neg h4] at hceq
      have hin : ∀ x ∈ asL (fld ((asL (fld b 1)).getD i .N) 1), 0 ≤ asI x ∧ asI x < ((asL (fld b 0)).length : Int) := by
        intro x hx
        have := List.any_eq_false.1 (Bool.eq_false_iff.2 h4) x hx
        simp only [decide_eq_true_eq] at this
        omega
      clear h4 hrz
      have hft := rfits_ans ext k n b (fld ((asL (fld b 1)).getD i .N) 1) (asI (fld ((asL (fld b 1)).getD i .N) 0)) 2 2 2 (by omega) hnn hop h1a h1b hin
      by_cases h5 : rfit b (asL (fld (el (asL (fld n 2)) (asI (fld ((asL (fld b 1)).getD i .N) 0))) 1)) (asL (fld ((asL (fld b 1)).getD i .N) 1)) = true
      case neg =>
        have h5f : rfit b (asL (fld (el (asL (fld n 2)) (asI (fld ((asL (fld b 1)).getD i .N) 0))) 1)) (asL (fld ((asL (fld b 1)).getD i .N) 1)) = false := by simpa using h5
        have hce : CE n b (i : Int) (m : Int) = 17 := by rw [hceq, if_neg h5]
        clear hceq hin
        refine rn ?_
        simp (maxDischargeDepth := 9) only [go_sem, Nat.reduceMul, Nat.reduceAdd, Nat.reduceLeDiff, Int.reduceSub, Int.reduceNeg, Int.reduceLT, Int.reduceLE, Int.reduceEq, *, rinitial_ans, rcoset_ans, rrise_ans, rlisted_ans, Tab.eqF, Function.comp_apply, R1.frozenL, RV.frozenT, cutB_eqn, tgs_len]
        all_goals exact AU_rcheckb
      rw [if_pos h5] at hceq
      have hoc : Ok (cutB b (i : Int) (m : Int)) := ok_cutB hb
      have hcz : (asL (fld (cutB b (i : Int) (m : Int)) 1)).length ≤ 1000000 := by rw [cutB_1]; exact Nat.le_trans (List.length_take_le' _ _) hz
      by_cases h6 : CS (cutB b (i : Int) (m : Int)) (fld ((asL (fld b 1)).getD i .N) 1) = true
      case neg =>
        have h6f : CS (cutB b (i : Int) (m : Int)) (fld ((asL (fld b 1)).getD i .N) 1) = false := by simpa using h6
        have hce : CE n b (i : Int) (m : Int) = 15 := by rw [hceq, if_neg h6]
        clear hceq hin
        refine rn ?_
        simp (maxDischargeDepth := 9) only [go_sem, Nat.reduceMul, Nat.reduceAdd, Nat.reduceLeDiff, Int.reduceSub, Int.reduceNeg, Int.reduceLT, Int.reduceLE, Int.reduceEq, *, rinitial_ans, rcoset_ans, rrise_ans, rlisted_ans, Tab.eqF, Function.comp_apply, R1.frozenL, RV.frozenT, cutB_eqn, tgs_len]
        with_reducible refine draw_look (by kernel_rfl) (by kernel_rfl) ?_
        simp (maxDischargeDepth := 9) only [go_sem, Nat.reduceMul, Nat.reduceAdd, Nat.reduceLeDiff, Int.reduceSub, Int.reduceNeg, Int.reduceLT, Int.reduceLE, Int.reduceEq, *, rinitial_ans, rcoset_ans, rrise_ans, rlisted_ans, Tab.eqF, Function.comp_apply, R1.frozenL, RV.frozenT, cutB_eqn, tgs_len]
        iterate 12
          with_reducible refine dop_val ?_
          simp (maxDischargeDepth := 9) only [go_sem, Nat.reduceMul, Nat.reduceAdd, Nat.reduceLeDiff, Int.reduceSub, Int.reduceNeg, Int.reduceLT, Int.reduceLE, Int.reduceEq, *, rinitial_ans, rcoset_ans, rrise_ans, rlisted_ans, Tab.eqF, Function.comp_apply, R1.frozenL, RV.frozenT, cutB_eqn, tgs_len]
        refine gen_st (fun s1 hg hr hn1 => ?_)
        have z2 := hg 2
        have z3 := hg 3
        have z4 := hg 4
        have z8 := hg 8
        have z9 := hg 9
        have z10 := hg 10
        have y0 := hr 0
        have y1 := hr 1
        have y2 := hr 2
        have y3 := hr 3
        have y4 := hr 4
        have y5 := hr 5
        clear hg hr
        simp only [go_sem, *] at hn1 z2 z3 z4 z8 z9 z10 y0 y1 y2 y3 y4 y5
        with_reducible refine draw_with [5, 5] (by kernel_rfl) (by kernel_rfl) ?_
        simp (maxDischargeDepth := 9) only [go_sem, Nat.reduceMul, Nat.reduceAdd, Nat.reduceLeDiff, Int.reduceSub, Int.reduceNeg, Int.reduceLT, Int.reduceLE, Int.reduceEq, *, rinitial_ans, rcoset_ans, rrise_ans, rlisted_ans, Tab.eqF, Function.comp_apply, R1.frozenL, RV.frozenT, cutB_eqn, tgs_len]
        iterate 9
          with_reducible refine dop_valW ?_ ?_
          · simp only [St.keysOf, Op.operands, List.flatMap_cons, List.flatMap_nil, SV.keys, V1.keys, At.keys, go_sem, *]
            try (simp [Option.toArray, SV.keys, V1.keys, At.keys, go_sem, *]; done)
            try rfl
          simp (maxDischargeDepth := 9) only [go_sem, Nat.reduceMul, Nat.reduceAdd, Nat.reduceLeDiff, Int.reduceSub, Int.reduceNeg, Int.reduceLT, Int.reduceLE, Int.reduceEq, *, rinitial_ans, rcoset_ans, rrise_ans, rlisted_ans, Tab.eqF, Function.comp_apply, R1.frozenL, RV.frozenT, cutB_eqn, tgs_len]
        with_reducible refine dop_eff (by kernel_rfl) rfl ?_
        simp (maxDischargeDepth := 9) only [go_sem, Nat.reduceMul, Nat.reduceAdd, Nat.reduceLeDiff, Int.reduceSub, Int.reduceNeg, Int.reduceLT, Int.reduceLE, Int.reduceEq, *, rinitial_ans, rcoset_ans, rrise_ans, rlisted_ans, Tab.eqF, Function.comp_apply, R1.frozenL, RV.frozenT, cutB_eqn, tgs_len, Tab.eff, List.isEmpty_nil, Option.isNone_none]
        first | (with_reducible refine dop_loud (by kernel_rfl) ?_; simp (maxDischargeDepth := 9) only [go_sem, Nat.reduceMul, Nat.reduceAdd, Nat.reduceLeDiff, Int.reduceSub, Int.reduceNeg, Int.reduceLT, Int.reduceLE, Int.reduceEq, *, rinitial_ans, rcoset_ans, rrise_ans, rlisted_ans, Tab.eqF, Function.comp_apply, R1.frozenL, RV.frozenT, cutB_eqn, tgs_len]) | (with_reducible refine dop_eff (by kernel_rfl) rfl ?_; simp (maxDischargeDepth := 9) only [go_sem, Nat.reduceMul, Nat.reduceAdd, Nat.reduceLeDiff, Int.reduceSub, Int.reduceNeg, Int.reduceLT, Int.reduceLE, Int.reduceEq, *, rinitial_ans, rcoset_ans, rrise_ans, rlisted_ans, Tab.eqF, Function.comp_apply, R1.frozenL, RV.frozenT, cutB_eqn, tgs_len, Tab.eff, List.isEmpty_nil, Option.isNone_none])
        all_goals exact AU_rcheckb
      rw [if_pos h6] at hceq
      by_cases h7 : lst b i (asI (fld ((asL (fld b 1)).getD i .N) 0)) (fld ((asL (fld b 1)).getD i .N) 1) = true
      case pos =>
        have hce : CE n b (i : Int) (m : Int) = 6 := by rw [hceq, if_pos h7]
        clear hceq hin
        refine rn ?_
        simp (maxDischargeDepth := 9) only [go_sem, Nat.reduceMul, Nat.reduceAdd, Nat.reduceLeDiff, Int.reduceSub, Int.reduceNeg, Int.reduceLT, Int.reduceLE, Int.reduceEq, *, rinitial_ans, rcoset_ans, rrise_ans, rlisted_ans, Tab.eqF, Function.comp_apply, R1.frozenL, RV.frozenT, cutB_eqn, tgs_len]
        with_reducible refine draw_look (by kernel_rfl) (by kernel_rfl) ?_
        simp (maxDischargeDepth := 9) only [go_sem, Nat.reduceMul, Nat.reduceAdd, Nat.reduceLeDiff, Int.reduceSub, Int.reduceNeg, Int.reduceLT, Int.reduceLE, Int.reduceEq, *, rinitial_ans, rcoset_ans, rrise_ans, rlisted_ans, Tab.eqF, Function.comp_apply, R1.frozenL, RV.frozenT, cutB_eqn, tgs_len]
        iterate 12
          with_reducible refine dop_val ?_
          simp (maxDischargeDepth := 9) only [go_sem, Nat.reduceMul, Nat.reduceAdd, Nat.reduceLeDiff, Int.reduceSub, Int.reduceNeg, Int.reduceLT, Int.reduceLE, Int.reduceEq, *, rinitial_ans, rcoset_ans, rrise_ans, rlisted_ans, Tab.eqF, Function.comp_apply, R1.frozenL, RV.frozenT, cutB_eqn, tgs_len]
        refine gen_st (fun s1 hg hr hn1 => ?_)
        have z2 := hg 2
        have z3 := hg 3
        have z4 := hg 4
        have z8 := hg 8
        have z9 := hg 9
        have z10 := hg 10
        have y0 := hr 0
        have y1 := hr 1
        have y2 := hr 2
        have y3 := hr 3
        have y4 := hr 4
        have y5 := hr 5
        clear hg hr
        simp only [go_sem, *] at hn1 z2 z3 z4 z8 z9 z10 y0 y1 y2 y3 y4 y5
        with_reducible refine draw_with [5, 5] (by kernel_rfl) (by kernel_rfl) ?_
        simp (maxDischargeDepth := 9) only [go_sem, Nat.reduceMul, Nat.reduceAdd, Nat.reduceLeDiff, Int.reduceSub, Int.reduceNeg, Int.reduceLT, Int.reduceLE, Int.reduceEq, *, rinitial_ans, rcoset_ans, rrise_ans, rlisted_ans, Tab.eqF, Function.comp_apply, R1.frozenL, RV.frozenT, cutB_eqn, tgs_len]
        iterate 9
          with_reducible refine dop_valW ?_ ?_
          · simp only [St.keysOf, Op.operands, List.flatMap_cons, List.flatMap_nil, SV.keys, V1.keys, At.keys, go_sem, *]
            try (simp [Option.toArray, SV.keys, V1.keys, At.keys, go_sem, *]; done)
            try rfl
          simp (maxDischargeDepth := 9) only [go_sem, Nat.reduceMul, Nat.reduceAdd, Nat.reduceLeDiff, Int.reduceSub, Int.reduceNeg, Int.reduceLT, Int.reduceLE, Int.reduceEq, *, rinitial_ans, rcoset_ans, rrise_ans, rlisted_ans, Tab.eqF, Function.comp_apply, R1.frozenL, RV.frozenT, cutB_eqn, tgs_len]
        with_reducible refine dop_eff (by kernel_rfl) rfl ?_
        simp (maxDischargeDepth := 9) only [go_sem, Nat.reduceMul, Nat.reduceAdd, Nat.reduceLeDiff, Int.reduceSub, Int.reduceNeg, Int.reduceLT, Int.reduceLE, Int.reduceEq, *, rinitial_ans, rcoset_ans, rrise_ans, rlisted_ans, Tab.eqF, Function.comp_apply, R1.frozenL, RV.frozenT, cutB_eqn, tgs_len, Tab.eff, List.isEmpty_nil, Option.isNone_none]
        first | (with_reducible refine dop_loud (by kernel_rfl) ?_; simp (maxDischargeDepth := 9) only [go_sem, Nat.reduceMul, Nat.reduceAdd, Nat.reduceLeDiff, Int.reduceSub, Int.reduceNeg, Int.reduceLT, Int.reduceLE, Int.reduceEq, *, rinitial_ans, rcoset_ans, rrise_ans, rlisted_ans, Tab.eqF, Function.comp_apply, R1.frozenL, RV.frozenT, cutB_eqn, tgs_len]) | (with_reducible refine dop_eff (by kernel_rfl) rfl ?_; simp (maxDischargeDepth := 9) only [go_sem, Nat.reduceMul, Nat.reduceAdd, Nat.reduceLeDiff, Int.reduceSub, Int.reduceNeg, Int.reduceLT, Int.reduceLE, Int.reduceEq, *, rinitial_ans, rcoset_ans, rrise_ans, rlisted_ans, Tab.eqF, Function.comp_apply, R1.frozenL, RV.frozenT, cutB_eqn, tgs_len, Tab.eff, List.isEmpty_nil, Option.isNone_none])
        all_goals exact AU_rcheckb
      have h7f : lst b i (asI (fld ((asL (fld b 1)).getD i .N) 0)) (fld ((asL (fld b 1)).getD i .N) 1) = false := by simpa using h7
      rw [if_neg h7] at hceq
      by_cases h8 : (asL (fld ((asL (fld b 1)).getD i .N) 2)).length = (asL (fld (el (asL (fld n 2)) (asI (fld ((asL (fld b 1)).getD i .N) 0))) 2)).length
      case neg =>
        have hce : CE n b (i : Int) (m : Int) = 7 := by rw [hceq]; exact PO_len h8
        clear hceq hin
        refine rn ?_
        simp (maxDischargeDepth := 9) only [go_sem, Nat.reduceMul, Nat.reduceAdd, Nat.reduceLeDiff, Int.reduceSub, Int.reduceNeg, Int.reduceLT, Int.reduceLE, Int.reduceEq, *, rinitial_ans, rcoset_ans, rrise_ans, rlisted_ans, Tab.eqF, Function.comp_apply, R1.frozenL, RV.frozenT, cutB_eqn, tgs_len]
        with_reducible refine draw_look (by kernel_rfl) (by kernel_rfl) ?_
        simp (maxDischargeDepth := 9) only [go_sem, Nat.reduceMul, Nat.reduceAdd, Nat.reduceLeDiff, Int.reduceSub, Int.reduceNeg, Int.reduceLT, Int.reduceLE, Int.reduceEq, *, rinitial_ans, rcoset_ans, rrise_ans, rlisted_ans, Tab.eqF, Function.comp_apply, R1.frozenL, RV.frozenT, cutB_eqn, tgs_len]
        iterate 12
          with_reducible refine dop_val ?_
          simp (maxDischargeDepth := 9) only [go_sem, Nat.reduceMul, Nat.reduceAdd, Nat.reduceLeDiff, Int.reduceSub, Int.reduceNeg, Int.reduceLT, Int.reduceLE, Int.reduceEq, *, rinitial_ans, rcoset_ans, rrise_ans, rlisted_ans, Tab.eqF, Function.comp_apply, R1.frozenL, RV.frozenT, cutB_eqn, tgs_len]
        refine gen_st (fun s1 hg hr hn1 => ?_)
        have z2 := hg 2
        have z3 := hg 3
        have z4 := hg 4
        have z8 := hg 8
        have z9 := hg 9
        have z10 := hg 10
        have y0 := hr 0
        have y1 := hr 1
        have y2 := hr 2
        have y3 := hr 3
        have y4 := hr 4
        have y5 := hr 5
        clear hg hr
        simp only [go_sem, *] at hn1 z2 z3 z4 z8 z9 z10 y0 y1 y2 y3 y4 y5
        with_reducible refine draw_with [5, 5] (by kernel_rfl) (by kernel_rfl) ?_
        simp (maxDischargeDepth := 9) only [go_sem, Nat.reduceMul, Nat.reduceAdd, Nat.reduceLeDiff, Int.reduceSub, Int.reduceNeg, Int.reduceLT, Int.reduceLE, Int.reduceEq, *, rinitial_ans, rcoset_ans, rrise_ans, rlisted_ans, Tab.eqF, Function.comp_apply, R1.frozenL, RV.frozenT, cutB_eqn, tgs_len]
        iterate 9
          with_reducible refine dop_valW ?_ ?_
          · simp only [St.keysOf, Op.operands, List.flatMap_cons, List.flatMap_nil, SV.keys, V1.keys, At.keys, go_sem, *]
            try (simp [Option.toArray, SV.keys, V1.keys, At.keys, go_sem, *]; done)
            try rfl
          simp (maxDischargeDepth := 9) only [go_sem, Nat.reduceMul, Nat.reduceAdd, Nat.reduceLeDiff, Int.reduceSub, Int.reduceNeg, Int.reduceLT, Int.reduceLE, Int.reduceEq, *, rinitial_ans, rcoset_ans, rrise_ans, rlisted_ans, Tab.eqF, Function.comp_apply, R1.frozenL, RV.frozenT, cutB_eqn, tgs_len]
        with_reducible refine dop_eff (by kernel_rfl) rfl ?_
        simp (maxDischargeDepth := 9) only [go_sem, Nat.reduceMul, Nat.reduceAdd, Nat.reduceLeDiff, Int.reduceSub, Int.reduceNeg, Int.reduceLT, Int.reduceLE, Int.reduceEq, *, rinitial_ans, rcoset_ans, rrise_ans, rlisted_ans, Tab.eqF, Function.comp_apply, R1.frozenL, RV.frozenT, cutB_eqn, tgs_len, Tab.eff, List.isEmpty_nil, Option.isNone_none]
        first | (with_reducible refine dop_loud (by kernel_rfl) ?_; simp (maxDischargeDepth := 9) only [go_sem, Nat.reduceMul, Nat.reduceAdd, Nat.reduceLeDiff, Int.reduceSub, Int.reduceNeg, Int.reduceLT, Int.reduceLE, Int.reduceEq, *, rinitial_ans, rcoset_ans, rrise_ans, rlisted_ans, Tab.eqF, Function.comp_apply, R1.frozenL, RV.frozenT, cutB_eqn, tgs_len]) | (with_reducible refine dop_eff (by kernel_rfl) rfl ?_; simp (maxDischargeDepth := 9) only [go_sem, Nat.reduceMul, Nat.reduceAdd, Nat.reduceLeDiff, Int.reduceSub, Int.reduceNeg, Int.reduceLT, Int.reduceLE, Int.reduceEq, *, rinitial_ans, rcoset_ans, rrise_ans, rlisted_ans, Tab.eqF, Function.comp_apply, R1.frozenL, RV.frozenT, cutB_eqn, tgs_len, Tab.eff, List.isEmpty_nil, Option.isNone_none])
        all_goals exact AU_rcheckb
      rw [PO_fold h8] at hceq
      have hmq : CE n b (i : Int) (m : Int) = 0 → m + (asL (fld ((asL (fld b 1)).getD i .N) 2)).length ≤ (asL (fld b 0)).length := fun h => CE_ok h hI
      have h8s : (asL (fld (el (asL (fld n 2)) (asI (fld ((asL (fld b 1)).getD i .N) 0))) 2)).length = (asL (fld ((asL (fld b 1)).getD i .N) 2)).length := h8.symm
      have hq5 : (asL (fld ((asL (fld b 1)).getD i .N) 2)).length ≤ 100000 := by have := hg.l2 h1a h1b; omega
      clear h8 hin
      refine rn ?_
      simp (maxDischargeDepth := 9) only [go_sem, Nat.reduceMul, Nat.reduceAdd, Nat.reduceLeDiff, Int.reduceSub, Int.reduceNeg, Int.reduceLT, Int.reduceLE, Int.reduceEq, *, rinitial_ans, rcoset_ans, rrise_ans, rlisted_ans, Tab.eqF, Function.comp_apply, R1.frozenL, RV.frozenT, cutB_eqn, tgs_len]
      with_reducible refine draw_look (by kernel_rfl) (by kernel_rfl) ?_
      simp (maxDischargeDepth := 9) only [go_sem, Nat.reduceMul, Nat.reduceAdd, Nat.reduceLeDiff, Int.reduceSub, Int.reduceNeg, Int.reduceLT, Int.reduceLE, Int.reduceEq, *, rinitial_ans, rcoset_ans, rrise_ans, rlisted_ans, Tab.eqF, Function.comp_apply, R1.frozenL, RV.frozenT, cutB_eqn, tgs_len]
      iterate 12
        with_reducible refine dop_val ?_
        simp (maxDischargeDepth := 9) only [go_sem, Nat.reduceMul, Nat.reduceAdd, Nat.reduceLeDiff, Int.reduceSub, Int.reduceNeg, Int.reduceLT, Int.reduceLE, Int.reduceEq, *, rinitial_ans, rcoset_ans, rrise_ans, rlisted_ans, Tab.eqF, Function.comp_apply, R1.frozenL, RV.frozenT, cutB_eqn, tgs_len]
      refine gen_st (fun s1 hg hr hn1 => ?_)
      have z2 := hg 2
      have z3 := hg 3
      have z4 := hg 4
      have z8 := hg 8
      have z9 := hg 9
      have z10 := hg 10
      have y0 := hr 0
      have y1 := hr 1
      have y2 := hr 2
      have y3 := hr 3
      have y4 := hr 4
      have y5 := hr 5
      clear hg hr
      simp only [go_sem, *] at hn1 z2 z3 z4 z8 z9 z10 y0 y1 y2 y3 y4 y5
      with_reducible refine draw_with [5, 5] (by kernel_rfl) (by kernel_rfl) ?_
      simp (maxDischargeDepth := 9) only [go_sem, Nat.reduceMul, Nat.reduceAdd, Nat.reduceLeDiff, Int.reduceSub, Int.reduceNeg, Int.reduceLT, Int.reduceLE, Int.reduceEq, *, rinitial_ans, rcoset_ans, rrise_ans, rlisted_ans, Tab.eqF, Function.comp_apply, R1.frozenL, RV.frozenT, cutB_eqn, tgs_len]
      iterate 9
        with_reducible refine dop_valW ?_ ?_
        · simp only [St.keysOf, Op.operands, List.flatMap_cons, List.flatMap_nil, SV.keys, V1.keys, At.keys, go_sem, *]
          try (simp [Option.toArray, SV.keys, V1.keys, At.keys, go_sem, *]; done)
          try rfl
        simp (maxDischargeDepth := 9) only [go_sem, Nat.reduceMul, Nat.reduceAdd, Nat.reduceLeDiff, Int.reduceSub, Int.reduceNeg, Int.reduceLT, Int.reduceLE, Int.reduceEq, *, rinitial_ans, rcoset_ans, rrise_ans, rlisted_ans, Tab.eqF, Function.comp_apply, R1.frozenL, RV.frozenT, cutB_eqn, tgs_len]
      with_reducible refine dop_eff (by kernel_rfl) rfl ?_
      simp (maxDischargeDepth := 9) only [go_sem, Nat.reduceMul, Nat.reduceAdd, Nat.reduceLeDiff, Int.reduceSub, Int.reduceNeg, Int.reduceLT, Int.reduceLE, Int.reduceEq, *, rinitial_ans, rcoset_ans, rrise_ans, rlisted_ans, Tab.eqF, Function.comp_apply, R1.frozenL, RV.frozenT, cutB_eqn, tgs_len, Tab.eff, List.isEmpty_nil, Option.isNone_none]
      first | (with_reducible refine dop_loud (by kernel_rfl) ?_; simp (maxDischargeDepth := 9) only [go_sem, Nat.reduceMul, Nat.reduceAdd, Nat.reduceLeDiff, Int.reduceSub, Int.reduceNeg, Int.reduceLT, Int.reduceLE, Int.reduceEq, *, rinitial_ans, rcoset_ans, rrise_ans, rlisted_ans, Tab.eqF, Function.comp_apply, R1.frozenL, RV.frozenT, cutB_eqn, tgs_len]) | (with_reducible refine dop_eff (by kernel_rfl) rfl ?_; simp (maxDischargeDepth := 9) only [go_sem, Nat.reduceMul, Nat.reduceAdd, Nat.reduceLeDiff, Int.reduceSub, Int.reduceNeg, Int.reduceLT, Int.reduceLE, Int.reduceEq, *, rinitial_ans, rcoset_ans, rrise_ans, rlisted_ans, Tab.eqF, Function.comp_apply, R1.frozenL, RV.frozenT, cutB_eqn, tgs_len, Tab.eff, List.isEmpty_nil, Option.isNone_none])
      try clear h3
      try clear h3f
      try clear h4a
      try clear h4c
      try clear h4b
      try clear hft
      try clear h5
      try clear hoc
      try clear hcz
      try clear h6
      try clear h7
      try clear h7f
      try clear hl3
      try clear hl4
      try clear hwl
      try clear hne
      try clear h2s
      refine gen_st (fun s0 hg hr hn0 => ?_)
      have e2 := hg 2
      have e3 := hg 3
      have e4 := hg 4
      have e8 := hg 8
      have e9 := hg 9
      have e10 := hg 10
      have e12 := hg 12
      have e13 := hg 13
      have q0 := hr 0
      have q1 := hr 1
      have q2 := hr 2
      have q3 := hr 3
      have q4 := hr 4
      have q5 := hr 5
      clear hg hr
      simp only [go_sem, *] at hn0 e2 e3 e4 e8 e9 e10 e12 e13 q0 q1 q2 q3 q4 q5
      refine nr (runs_forN (asL (fld ((asL (fld b 1)).getD i .N) 2)).length (poS n b (i : Int) (m : Int)) () 240 (fun k2 a => [(2, s0.get (.tmp 2)), (3, s0.get (.tmp 3)), (4, s0.get (.tmp 4)), (8, s0.get (.tmp 8)), (9, s0.get (.tmp 9)), (10, s0.get (.tmp 10)), (12, s0.get (.tmp 12)), (13, .v (.a (.int .i64 (k2 : Nat))))]) (fun k2 a => [(0, s0.row 0), (1, s0.row 1), (2, s0.row 2), (3, s0.row 3), (4, s0.row 4), (5, s0.row 5)]) (fun k2 a => True) (by omega) ?_ (trivial) ?_ ?_ ?_ ?_)
      · simp (maxDischargeDepth := 9) only [go_sem, Nat.reduceMul, Nat.reduceAdd, Nat.reduceLeDiff, Int.reduceSub, Int.reduceNeg, Int.reduceLT, Int.reduceLE, Int.reduceEq, *, rinitial_ans, rcoset_ans, rrise_ans, rlisted_ans, Tab.eqF, Function.comp_apply, R1.frozenL, RV.frozenT, cutB_eqn, tgs_len]
      · intro i a; simp (maxDischargeDepth := 9) only [go_sem, Nat.reduceMul, Nat.reduceAdd, Nat.reduceLeDiff, Int.reduceSub, Int.reduceNeg, Int.reduceLT, Int.reduceLE, Int.reduceEq, *, rinitial_ans, rcoset_ans, rrise_ans, rlisted_ans, Tab.eqF, Function.comp_apply, R1.frozenL, RV.frozenT, cutB_eqn, tgs_len]
      · intro i a; simp (maxDischargeDepth := 9) only [go_sem, Nat.reduceMul, Nat.reduceAdd, Nat.reduceLeDiff, Int.reduceSub, Int.reduceNeg, Int.reduceLT, Int.reduceLE, Int.reduceEq, *, rinitial_ans, rcoset_ans, rrise_ans, rlisted_ans, Tab.eqF, Function.comp_apply, R1.frozenL, RV.frozenT, cutB_eqn, tgs_len]
      · intro k2 a s hi hI hS
        clear hn0 e13
        simp only [go_sem] at hS
        obtain ⟨f2, f3, f4, f8, f9, f10, f12, f13, m0, m1, m2, m3, m4, m5, hn⟩ := hS
        have hw := wrap_succ hi (hlq)
        have hm0 : 0 ≤ (m : Int) + (k2 : Int) := by omega
        have hml : (k2 : Int) < 100001 := by omega
        have hwn : IntKind.i64.wrap ((m : Int) + (k2 : Int)) = (m : Int) + (k2 : Int) := Go.IntWalk.i64_in _ (by omega)
        have hkx : k2 < (asL (fld (el (asL (fld n 2)) (asI (fld ((asL (fld b 1)).getD i .N) 0))) 2)).length := by omega
        by_cases p1 : asI ((asL (fld ((asL (fld b 1)).getD i .N) 2)).getD k2 .N) = (m : Int) + (k2 : Int)
        case neg =>
          have hst := poS_1 (n := n) (a := a) p1
          refine rn ?_
          simp (maxDischargeDepth := 9) only [go_sem, Nat.reduceMul, Nat.reduceAdd, Nat.reduceLeDiff, Int.reduceSub, Int.reduceNeg, Int.reduceLT, Int.reduceLE, Int.reduceEq, *, rinitial_ans, rcoset_ans, rrise_ans, rlisted_ans, Tab.eqF, Function.comp_apply, R1.frozenL, RV.frozenT, cutB_eqn, tgs_len]
          all_goals exact AU_rcheckb
        by_cases p2 : ((asL (fld b 0)).length : Int) ≤ (m : Int) + (k2 : Int)
        case pos =>
          have hst := poS_2 (n := n) (a := a) p1 p2
          refine rn ?_
          simp (maxDischargeDepth := 9) only [go_sem, Nat.reduceMul, Nat.reduceAdd, Nat.reduceLeDiff, Int.reduceSub, Int.reduceNeg, Int.reduceLT, Int.reduceLE, Int.reduceEq, *, rinitial_ans, rcoset_ans, rrise_ans, rlisted_ans, Tab.eqF, Function.comp_apply, R1.frozenL, RV.frozenT, cutB_eqn, tgs_len]
          all_goals exact AU_rcheckb
        have p2b : (m : Int) + (k2 : Int) < ((asL (fld b 0)).length : Int) := by omega
        by_cases p3 : asI (fld (el (asL (fld b 0)) ((m : Int) + (k2 : Int))) 0) = asI (fld ((asL (fld (el (asL (fld n 2)) (asI (fld ((asL (fld b 1)).getD i .N) 0))) 2)).getD k2 .N) 0)
        case neg =>
          have hst := poS_3 (n := n) (a := a) p1 p2b hkx (fun h => p3 h.1)
          refine rn ?_
          simp (maxDischargeDepth := 9) only [go_sem, Nat.reduceMul, Nat.reduceAdd, Nat.reduceLeDiff, Int.reduceSub, Int.reduceNeg, Int.reduceLT, Int.reduceLE, Int.reduceEq, *, rinitial_ans, rcoset_ans, rrise_ans, rlisted_ans, Tab.eqF, Function.comp_apply, R1.frozenL, RV.frozenT, cutB_eqn, tgs_len]
          all_goals exact AU_rcheckb
        by_cases p4 : asI (fld (el (asL (fld b 0)) ((m : Int) + (k2 : Int))) 1) = (i : Int)
        case neg =>
          have hst := poS_3 (n := n) (a := a) p1 p2b hkx (fun h => p4 h.2)
          refine rn ?_
          simp (maxDischargeDepth := 9) only [go_sem, Nat.reduceMul, Nat.reduceAdd, Nat.reduceLeDiff, Int.reduceSub, Int.reduceNeg, Int.reduceLT, Int.reduceLE, Int.reduceEq, *, rinitial_ans, rcoset_ans, rrise_ans, rlisted_ans, Tab.eqF, Function.comp_apply, R1.frozenL, RV.frozenT, cutB_eqn, tgs_len]
          all_goals exact AU_rcheckb
        have hst := poS_5 (n := n) (a := a) p1 p2b hkx p3 p4
        refine rn ?_
        simp (maxDischargeDepth := 9) only [go_sem, Nat.reduceMul, Nat.reduceAdd, Nat.reduceLeDiff, Int.reduceSub, Int.reduceNeg, Int.reduceLT, Int.reduceLE, Int.reduceEq, *, rinitial_ans, rcoset_ans, rrise_ans, rlisted_ans, Tab.eqF, Function.comp_apply, R1.frozenL, RV.frozenT, cutB_eqn, tgs_len]
        all_goals exact AU_rcheckb
      · intro a s hI hf hS
        clear hn0 e13
        simp only [go_sem] at hS
        obtain ⟨f2, f3, f4, f8, f9, f10, f12, f13, m0, m1, m2, m3, m4, m5, hn⟩ := hS
        try simp only [go_sem] at hf
        have hmq2 := hmq (by rw [hceq, hf]; rfl)
        have hwm : IntKind.i64.wrap ((m : Int) + ((asL (fld ((asL (fld b 1)).getD i .N) 2)).length : Int)) = ((m + (asL (fld ((asL (fld b 1)).getD i .N) 2)).length : Nat) : Int) := by
          rw [Go.IntWalk.i64_in _ (by omega)]; omega
        refine rn ?_
        simp (maxDischargeDepth := 9) only [go_sem, Nat.reduceMul, Nat.reduceAdd, Nat.reduceLeDiff, Int.reduceSub, Int.reduceNeg, Int.reduceLT, Int.reduceLE, Int.reduceEq, *, rinitial_ans, rcoset_ans, rrise_ans, rlisted_ans, Tab.eqF, Function.comp_apply, R1.frozenL, RV.frozenT, cutB_eqn, tgs_len]
        all_goals exact AU_rcheckb
    · intro m s hI hf hS
      clear hn0 e9 e8
      simp only [go_sem] at hS
      obtain ⟨f2, f3, f4, f8, f9, m0, m1, m2, m3, hn⟩ := hS
      try simp only [go_sem] at hf
      refine rn ?_
      simp (maxDischargeDepth := 9) only [go_sem, Nat.reduceMul, Nat.reduceAdd, Nat.reduceLeDiff, Int.reduceSub, Int.reduceNeg, Int.reduceLT, Int.reduceLE, Int.reduceEq, *, rinitial_ans, rcoset_ans, rrise_ans, rlisted_ans, Tab.eqF, Function.comp_apply, R1.frozenL, RV.frozenT, cutB_eqn, tgs_len]
      all_goals exact AU_rcheckb
end Go.Proofs.Ytficdonjodadlaa
end
section
set_option linter.unusedSimpArgs false
set_option linter.unusedVariables false
set_option maxRecDepth 100000
set_option maxHeartbeats 4000000
namespace Go.Proofs.Ytficdonjodadlaa
open Go.Ev Go.Proofs
theorem arg_nil46 {st : St} {ρ : List (Nat × Nat)} : st.arg tab ρ 46 (.v (.a .nil)) = some (.iv 2 46 .N) := arg_nil (e := 3) (by kernel_rfl)
theorem AU_rpossible {p : Prop} (h : p := by
  repeat' (first | (with_reducible refine condLt (fun h h' => ?_) (fun h h' => ?_)) | (with_reducible refine condLe (fun h h' => ?_) (fun h h' => ?_)) | (with_reducible refine dop_val ?_) | (with_reducible refine YsLt (fun h h' => ?_) (fun h h' => ?_)) | (with_reducible refine YsLe (fun h h' => ?_) (fun h h' => ?_)) | (with_reducible refine condP (fun h => ?_) (fun h => ?_)) | (with_reducible refine condN (fun h => ?_) (fun h => ?_)) | (with_reducible refine condB (fun h => ?_) (fun h => ?_)) | (with_reducible refine condR (fun h => ?_) (fun h => ?_)) | (with_reducible refine YsB (fun h => ?_) (fun h => ?_)) | (with_reducible refine YsC (fun h => ?_) (fun h => ?_)) | (with_reducible refine Ys_ite (fun h => ?_) (fun h => ?_)) | (intro h) | (with_reducible refine draw_look (by kernel_rfl) (by kernel_rfl) ?_) | (simp (maxDischargeDepth := 9) only [go_sem, Nat.reduceMul, Nat.reduceAdd, Nat.reduceLeDiff, Int.reduceSub, Int.reduceNeg, Int.reduceLT, Int.reduceLE, Int.reduceEq, *, rcheckb_ans, arg_nil46]) | (exfalso; omega))) : p := h
theorem rpossible_ans (ext : CallF) (k : Nat) (n b : IV) (hk : maxLen + (60) ≤ k) (hnn : Ok n) (hb : Ok b) (hz : (asL (fld b 1)).length ≤ 1000000) (hzp : (asL (fld n 1)).length ≤ 1000) (hig : IE n = 0 → NG n) (hL : (asL (fld b 0)).length ≤ 24) (hli : (asL (fld n 2)).length ≤ 6) (hlp : ∀ i, (asL (fld ((asL (fld n 2)).getD i .N) 1)).length ≤ 6) : ans (tab.run ext k) 21 [.iv 2 25 n, .iv 2 29 b] 5 = some ([.one (.own 2 46 (rPS n b))], [44]) := by
  obtain ⟨k, rfl⟩ : ∃ k', k = k' + 1 := ⟨k - 1, by omega⟩
  have hk1 : maxLen < k := by omega
  have hk0 : 0 < k := by omega
  have hk_0 : maxLen + (40) ≤ k := by omega
  refine fn_run (fx := fx21) (m := 47) 49 rfl rfl rfl rfl (fun st hn hg hr => ?_)
  have g0 : st.get (.tmp 0) = .v (.a (.iv 2 25 n)) := hg 0 (of_decide_eq_true rfl)
  have g1 : st.get (.tmp 1) = .v (.a (.iv 2 29 b)) := hg 1 (of_decide_eq_true rfl)
  have r0 := hr 0
  have r1 := hr 1
  have r2 := hr 2
  have r3 := hr 3
  have r4 := hr 4
  clear hg hr
  rw [co21]
  simp only [Try.f21, Option.getD_some]
  unfold rPS
  have hl2 := ok_len (ok_fld (j := 2) hnn)
  have hck := rcheckb_ans ext k n b (by omega) hnn hb hz (by omega) hzp hig
  by_cases h1 : (CK n b).1 = 0
  case neg =>
    simp (maxDischargeDepth := 9) only [go_sem, Nat.reduceMul, Nat.reduceAdd, Nat.reduceLeDiff, Int.reduceSub, Int.reduceNeg, Int.reduceLT, Int.reduceLE, Int.reduceEq, *, rcheckb_ans, arg_nil46]
  obtain ⟨nx, hpf⟩ := pf_of h1
  have hfd := hpf.fd
  simp (maxDischargeDepth := 9) only [go_sem, Nat.reduceMul, Nat.reduceAdd, Nat.reduceLeDiff, Int.reduceSub, Int.reduceNeg, Int.reduceLT, Int.reduceLE, Int.reduceEq, *, rcheckb_ans, arg_nil46]
  refine gen_st (fun s0 hg hr hn0 => ?_)
  have e2 := hg 2
  have e3 := hg 3
  have e4 := hg 4
  have e6 := hg 6
  have e5 := hg 5
  have q0 := hr 0
  have q1 := hr 1
  have q2 := hr 2
  clear hg hr
  simp only [go_sem, *] at hn0 e2 e3 e4 e6 e5 q0 q1 q2
  refine nr (runs_forN (asL (fld n 2)).length (fun (_ : Unit) _ => Stp.next (ρ := Unit) ()) () 49 (fun i a => [(2, s0.get (.tmp 2)), (3, s0.get (.tmp 3)), (4, s0.get (.tmp 4)), (5, .v (.a (.own 2))), (6, .v (.a (.int .i64 (i : Nat))))]) (fun i a => [(0, s0.row 0), (1, s0.row 1), (2, some (.arr 2 46 (rPO n b i)))]) (fun i a => True) (by omega) ?_ (trivial) ?_ ?_ ?_ ?_)
  · simp (maxDischargeDepth := 9) only [go_sem, Nat.reduceMul, Nat.reduceAdd, Nat.reduceLeDiff, Int.reduceSub, Int.reduceNeg, Int.reduceLT, Int.reduceLE, Int.reduceEq, *, rcheckb_ans, arg_nil46]
  · intro i a; simp (maxDischargeDepth := 9) only [go_sem, Nat.reduceMul, Nat.reduceAdd, Nat.reduceLeDiff, Int.reduceSub, Int.reduceNeg, Int.reduceLT, Int.reduceLE, Int.reduceEq, *, rcheckb_ans, arg_nil46]
  · intro i a; simp (maxDischargeDepth := 9) only [go_sem, Nat.reduceMul, Nat.reduceAdd, Nat.reduceLeDiff, Int.reduceSub, Int.reduceNeg, Int.reduceLT, Int.reduceLE, Int.reduceEq, *, rcheckb_ans, arg_nil46]
  · intro i a s hi hI hS
    clear hn0 e6 e5 q2
    simp only [go_sem] at hS
    obtain ⟨f2, f3, f4, f5, f6, m0, m1, m2, hn⟩ := hS
    have hw := wrap_succ hi (hl2)
    have hch : ∀ w, ans (tab.run ext k) 49 [.iv 2 25 n, .iv 2 29 b, .int .i64 (i : Nat), .iv w 46 .N, .int .i64 0, .int .i64 ((asL (fld ((asL (fld n 2)).getD i .N) 1)).length : Nat)] 5 = some ([.one (chR (chF b (fld ((asL (fld n 2)).getD i .N) 1) (i : Int) (asL (fld ((asL (fld n 2)).getD i .N) 1)).length []) (rCH n b i))], [44]) := fun w => rchoose_ans ext n b (i : Int) hnn hb hfd hz hL (by omega) (by omega) (asL (fld ((asL (fld n 2)).getD i .N) 1)).length (hlp i) (asL (fld ((asL (fld n 2)).getD i .N) 1)).length k .N w 0 (by have := hlp i; omega) .N (fun x hx => by cases hx) (Nat.zero_le _) (Nat.zero_add _)
    have hfr : ∀ cb : Bool, R1.frozen 44 (chR cb (rCH n b i)) = .iv 2 44 (.L (rCH n b i)) := fun cb => by cases cb <;> rfl
    have hfr := hfr (chF b (fld ((asL (fld n 2)).getD i .N) 1) (i : Int) (asL (fld ((asL (fld n 2)).getD i .N) 1)).length [])
    simp only [R1.frozen] at hfr
    have hcl := rCH_len (n := n) (b := b) hL (hlp i)
    have hcm : (rCH n b i).length < maxLen := by unfold maxLen; omega
    have hcm2 : (rCH n b i).length ≤ maxLen := Nat.le_of_lt hcm
    have hpo := rPO_len (n := n) (b := b) hL hlp i
    have hpo2 := Nat.mul_le_mul_right 134596 (show i ≤ 5 by omega)
    have hiw := hi
    refine rn ?_
    simp (maxDischargeDepth := 9) only [go_sem, Nat.reduceMul, Nat.reduceAdd, Nat.reduceLeDiff, Int.reduceSub, Int.reduceNeg, Int.reduceLT, Int.reduceLE, Int.reduceEq, *, rcheckb_ans, arg_nil46]
    with_reducible refine draw_look (by kernel_rfl) (by kernel_rfl) ?_
    simp (maxDischargeDepth := 9) only [go_sem, Nat.reduceMul, Nat.reduceAdd, Nat.reduceLeDiff, Int.reduceSub, Int.reduceNeg, Int.reduceLT, Int.reduceLE, Int.reduceEq, *, rcheckb_ans, arg_nil46]
    iterate 11
      with_reducible refine dop_val ?_
      simp (maxDischargeDepth := 9) only [go_sem, Nat.reduceMul, Nat.reduceAdd, Nat.reduceLeDiff, Int.reduceSub, Int.reduceNeg, Int.reduceLT, Int.reduceLE, Int.reduceEq, *, rcheckb_ans, arg_nil46]
    with_reducible refine dop_loud (by kernel_rfl) ?_
    simp (maxDischargeDepth := 9) only [go_sem, Nat.reduceMul, Nat.reduceAdd, Nat.reduceLeDiff, Int.reduceSub, Int.reduceNeg, Int.reduceLT, Int.reduceLE, Int.reduceEq, *, rcheckb_ans, arg_nil46]
    refine gen_st (fun s0 hg hr hn0 => ?_)
    have e2 := hg 2
    have e3 := hg 3
    have e4 := hg 4
    have e6 := hg 6
    have e7 := hg 7
    have e14 := hg 14
    have e15 := hg 15
    have e16 := hg 16
    have e17 := hg 17
    have e18 := hg 18
    have e21 := hg 21
    have e22 := hg 22
    have e23 := hg 23
    have e24 := hg 24
    have e25 := hg 25
    have e26 := hg 26
    have e27 := hg 27
    have e28 := hg 28
    have e29 := hg 29
    have e30 := hg 30
    have e31 := hg 31
    have e8 := hg 8
    have e5 := hg 5
    have q0 := hr 0
    have q1 := hr 1
    have q2 := hr 2
    clear hg hr
    simp only [go_sem, *] at hn0 e2 e3 e4 e6 e7 e14 e15 e16 e17 e18 e21 e22 e23 e24 e25 e26 e27 e28 e29 e30 e31 e8 e5 q0 q1 q2
    refine nr (runs_forN (rCH n b i).length (fun (_ : Unit) _ => Stp.next (ρ := Unit) ()) () 49 (fun j a => [(2, s0.get (.tmp 2)), (3, s0.get (.tmp 3)), (4, s0.get (.tmp 4)), (6, s0.get (.tmp 6)), (7, s0.get (.tmp 7)), (14, s0.get (.tmp 14)), (15, s0.get (.tmp 15)), (16, s0.get (.tmp 16)), (17, s0.get (.tmp 17)), (18, s0.get (.tmp 18)), (21, s0.get (.tmp 21)), (22, s0.get (.tmp 22)), (23, s0.get (.tmp 23)), (24, s0.get (.tmp 24)), (25, s0.get (.tmp 25)), (26, s0.get (.tmp 26)), (27, s0.get (.tmp 27)), (28, s0.get (.tmp 28)), (29, s0.get (.tmp 29)), (30, s0.get (.tmp 30)), (31, s0.get (.tmp 31)), (5, .v (.a (.own 2))), (8, .v (.a (.int .i64 (j : Nat))))]) (fun j a => [(0, s0.row 0), (1, s0.row 1), (2, some (.arr 2 46 (rPO n b i ++ rPI n b i j)))]) (fun j a => True) (by omega) ?_ (trivial) ?_ ?_ ?_ ?_)
    · simp (maxDischargeDepth := 9) only [go_sem, Nat.reduceMul, Nat.reduceAdd, Nat.reduceLeDiff, Int.reduceSub, Int.reduceNeg, Int.reduceLT, Int.reduceLE, Int.reduceEq, *, rcheckb_ans, arg_nil46]
    · intro i a; simp (maxDischargeDepth := 9) only [go_sem, Nat.reduceMul, Nat.reduceAdd, Nat.reduceLeDiff, Int.reduceSub, Int.reduceNeg, Int.reduceLT, Int.reduceLE, Int.reduceEq, *, rcheckb_ans, arg_nil46]
    · intro i a; simp (maxDischargeDepth := 9) only [go_sem, Nat.reduceMul, Nat.reduceAdd, Nat.reduceLeDiff, Int.reduceSub, Int.reduceNeg, Int.reduceLT, Int.reduceLE, Int.reduceEq, *, rcheckb_ans, arg_nil46]
    · intro j a s hi hI hS
      clear hn0 e8 e5 q2
      simp only [go_sem] at hS
      obtain ⟨f2, f3, f4, f6, f7, f14, f15, f16, f17, f18, f21, f22, f23, f24, f25, f26, f27, f28, f29, f30, f31, f5, f8, m0, m1, m2, hn⟩ := hS
      have hw := wrap_succ hi (hcm2)
      have hpj := rPI_len (n := n) (b := b) (i := i) (j := j)
      have hpn := rPI_succ (n := n) (b := b) (i := i) (j := j)
      have hpl : (rPO n b i).length + (rPI n b i j).length + 1 ≤ 1000000 := by omega
      have hpl2 : (rPO n b i).length + j + 1 ≤ 1000000 := by omega
      have hul : 1 + (asL ((rCH n b i).getD j .N)).length ≤ 1000000 := by
        have := rCH_row (memD hi)
        have := hlp i
        omega
      refine rn ?_
      simp (maxDischargeDepth := 9) only [go_sem, Nat.reduceMul, Nat.reduceAdd, Nat.reduceLeDiff, Int.reduceSub, Int.reduceNeg, Int.reduceLT, Int.reduceLE, Int.reduceEq, *, rcheckb_ans, arg_nil46]
      all_goals exact AU_rpossible
    · intro a s hI hf hS
      clear hn0 e8 e5 q2
      simp only [go_sem] at hS
      obtain ⟨f2, f3, f4, f6, f7, f14, f15, f16, f17, f18, f21, f22, f23, f24, f25, f26, f27, f28, f29, f30, f31, f5, f8, m0, m1, m2, hn⟩ := hS
      try simp only [go_sem] at hf
      have hps := rPO_succ (n := n) (b := b) (i := i)
      refine rn ?_
      simp (maxDischargeDepth := 9) only [go_sem, Nat.reduceMul, Nat.reduceAdd, Nat.reduceLeDiff, Int.reduceSub, Int.reduceNeg, Int.reduceLT, Int.reduceLE, Int.reduceEq, *, rcheckb_ans, arg_nil46]
      all_goals exact AU_rpossible
  · intro a s hI hf hS
    clear hn0 e6 e5 q2
    simp only [go_sem] at hS
    obtain ⟨f2, f3, f4, f5, f6, m0, m1, m2, hn⟩ := hS
    try simp only [go_sem] at hf
    refine rn ?_
    simp (maxDischargeDepth := 9) only [go_sem, Nat.reduceMul, Nat.reduceAdd, Nat.reduceLeDiff, Int.reduceSub, Int.reduceNeg, Int.reduceLT, Int.reduceLE, Int.reduceEq, *, rcheckb_ans, arg_nil46]
    all_goals exact AU_rpossible
end Go.Proofs.Ytficdonjodadlaa
end
section
set_option linter.unusedVariables false
namespace Go.Ev
theorem ltB_len {l : IV} (h : ltB l = true) : (asL l).length ≤ 6 := by
  unfold ltB at h
  rw [Bool.and_eq_true] at h
  exact of_decide_eq_true h.1
theorem liB_tt {n : IV} (h : liB n = true) : (asL (fld n 2)).length ≤ 6 := by
  unfold liB at h
  simp only [Bool.and_eq_true, decide_eq_true_eq] at h
  exact h.1.1.2
theorem liB_lp {n : IV} (h : liB n = true) (i : Nat) : (asL (fld ((asL (fld n 2)).getD i .N) 1)).length ≤ 6 := by
  by_cases hi : i < (asL (fld n 2)).length
  · unfold liB at h
    simp only [Bool.and_eq_true, Bool.not_eq_true', List.any_eq_false] at h
    have h2 := h.2 _ (memD hi)
    have h3 : ltB (fld ((asL (fld n 2)).getD i .N) 1) = true := by
      cases hh : ltB (fld ((asL (fld n 2)).getD i .N) 1) with
      | true => rfl
      | false => rw [hh] at h2; simp at h2
    exact ltB_len h3
  · have e : (asL (fld n 2)).getD i .N = .N := by simp [List.getD, Nat.le_of_not_lt hi]
    rw [e]; exact Nat.zero_le _
end Go.Ev
end
section
set_option linter.unusedVariables false
set_option linter.unusedSimpArgs false
namespace Go.Ev
noncomputable def chg (b p : IV) (g : List IV → Bool) : Nat → List IV → Nat → List IV
  | 0, l, _ => if g l = true then [.L l] else []
  | r + 1, l, fr => (List.range ((asL (fld b 0)).length - fr)).flatMap fun j => if wgt p (plo b (fr + j)) = 0 then [] else if good b l (fr + j) = true then chg b p g r (l ++ [.I ((fr + j : Nat) : Int)]) (fr + j + 1) else []
theorem chs_chg {b p : IV} {t : Int} : ∀ {r : Nat} {l : List IV} {fr : Nat}, chs b p t r l fr = chg b p (fun l => rfit b (asL p) l && !lst b (asL (fld b 1)).length t (.L l)) r l fr
  | 0, l, fr => rfl
  | r + 1, l, fr => by
    unfold chs chg
    congr 1
    funext j
    rw [chs_chg]
theorem chg_filter {b p : IV} {g : List IV → Bool} {h : IV → Bool} : ∀ {r : Nat} {l : List IV} {fr : Nat}, (chg b p g r l fr).filter h = chg b p (fun l => g l && h (.L l)) r l fr
  | 0, l, fr => by
    unfold chg
    cases hg : g l <;> cases hh : h (.L l) <;> simp [hg, hh]
  | r + 1, l, fr => by
    unfold chg
    rw [List.filter_flatMap]
    congr 1
    funext j
    split
    · rfl
    · split
      · exact chg_filter
      · rfl
theorem chg_len {b p : IV} {g : List IV → Bool} : ∀ {r : Nat} {l : List IV} {fr : Nat}, (chg b p g r l fr).length ≤ bn ((asL (fld b 0)).length - fr) r
  | 0, l, fr => by
    rw [bn_zero]; unfold chg; split <;> simp
  | r + 1, l, fr => by
    unfold chg
    have key : ∀ i, i ≤ (asL (fld b 0)).length - fr → ((List.range i).flatMap fun j => if wgt p (plo b (fr + j)) = 0 then [] else if good b l (fr + j) = true then chg b p g r (l ++ [.I ((fr + j : Nat) : Int)]) (fr + j + 1) else []).length + bn ((asL (fld b 0)).length - fr - i) (r + 1) ≤ bn ((asL (fld b 0)).length - fr) (r + 1) := by
      intro i
      induction i with
      | zero => intro _; simp
      | succ i ih =>
        intro hi
        have ih := ih (by omega)
        rw [List.range_succ, List.flatMap_append, List.length_append]
        obtain ⟨m, hm⟩ : ∃ m, (asL (fld b 0)).length - fr - i = m + 1 := ⟨(asL (fld b 0)).length - fr - i - 1, by omega⟩
        have hm2 : (asL (fld b 0)).length - fr - (i + 1) = m := by omega
        have hm3 : (asL (fld b 0)).length - (fr + i + 1) = m := by omega
        rw [hm] at ih
        rw [hm2]
        have hx : ([i].flatMap fun j => if wgt p (plo b (fr + j)) = 0 then [] else if good b l (fr + j) = true then chg b p g r (l ++ [.I ((fr + j : Nat) : Int)]) (fr + j + 1) else []).length ≤ bn m r := by
          simp only [List.flatMap_cons, List.flatMap_nil, List.append_nil]
          split
          · exact Nat.zero_le _
          · split
            · have := chg_len (b := b) (p := p) (g := g) (r := r) (l := l ++ [.I ((fr + i : Nat) : Int)]) (fr := fr + i + 1)
              rwa [hm3] at this
            · exact Nat.zero_le _
        have e : bn (m + 1) (r + 1) = bn m r + bn m (r + 1) := rfl
        omega
    have := key ((asL (fld b 0)).length - fr) (Nat.le_refl _)
    omega
def pls (P : List IV) : List Int := (List.range P.length).map fun i => asI (fld (P.getD i .N) 0)
def lf (b : IV) (ps : List Int) (l : List IV) : List Int := ps.filter fun q => !(plc b l).contains q
theorem plc_app {b : IV} {l : List IV} {c : Nat} : plc b (l ++ [.I (c : Int)]) = plc b l ++ [plo b c] := by
  unfold plc plo
  rw [List.map_append, List.map_cons, List.map_nil]
  congr 2
theorem rst_map {pl : Int} : ∀ {L : List Int}, rst pl (L.map IV.I) = (L.filter fun q => !decide (q = pl)).map IV.I := by
  have key : ∀ (L : List Int) (acc : List IV), (L.map IV.I).foldl (fun acc x => if asI x = pl then acc else acc ++ [.I (asI x)]) acc = acc ++ (L.filter fun q => !decide (q = pl)).map IV.I := by
    intro L
    induction L with
    | nil => intro acc; simp
    | cons x L ih =>
      intro acc
      rw [List.map_cons, List.foldl_cons, ih]
      by_cases hx : x = pl
      · rw [if_pos (show asI (.I x) = pl from hx), List.filter_cons, if_neg (by simp [hx])]
      · rw [if_neg (show ¬asI (.I x) = pl from hx), List.filter_cons, if_pos (by simp [hx]), List.map_cons, List.append_assoc]
        rfl
  intro L
  have := key L []
  simpa [rst] using this
theorem lf_app {b : IV} {ps : List Int} {l : List IV} {c : Nat} : (lf b ps l).filter (fun q => !decide (q = plo b c)) = lf b ps (l ++ [.I (c : Int)]) := by
  unfold lf
  rw [plc_app, List.filter_filter]
  apply List.filter_congr
  intro q _
  rw [Bool.eq_iff_iff]
  simp only [Bool.and_eq_true, Bool.not_eq_true', decide_eq_false_iff_not, List.contains_eq_mem, List.mem_append, List.mem_singleton]
  constructor
  · rintro ⟨h1, h2⟩ (h | h)
    · exact h2 h
    · exact h1 h
  · intro h
    exact ⟨fun e => h (.inr e), fun e => h (.inl e)⟩
theorem filter_ne_len {q : Int} : ∀ {L : List Int}, L.Nodup → q ∈ L → (L.filter fun x => !decide (x = q)).length + 1 = L.length
  | [], _, h => by cases h
  | x :: L, hn, h => by
    obtain ⟨h1, h2⟩ := List.nodup_cons.1 hn
    by_cases hx : x = q
    · subst hx
      rw [List.filter_cons, if_neg (by simp)]
      have : (L.filter fun y => !decide (y = x)) = L := by
        rw [List.filter_eq_self]
        intro y hy
        have : y ≠ x := fun e => h1 (e ▸ hy)
        simp [this]
      rw [this]; rfl
    · rw [List.filter_cons, if_pos (by simp [hx])]
      rcases List.mem_cons.1 h with h | h
      · exact absurd h.symm hx
      · have := filter_ne_len h2 h
        simp only [List.length_cons]; omega
section
variable {b p : IV} {ps : List Int}
theorem frL_app {l : List IV} {c : Nat} : frL (l ++ [.I (c : Int)]) = c + 1 := by
  unfold frL
  rw [if_neg (by simp)]
  have : (l ++ [IV.I (c : Int)]).getD ((l ++ [IV.I (c : Int)]).length - 1) .N = .I (c : Int) := by
    rw [List.length_append]
    show (l ++ [IV.I (c : Int)]).getD (l.length + 1 - 1) .N = _
    rw [Nat.add_sub_cancel]
    simp [List.getD]
  rw [this]
  show ((c : Int)).toNat + 1 = c + 1
  rw [Int.toNat_natCast]
theorem rfit_nodup {l : List IV} (hps : ps = pls (asL p)) (hnd : ps.Nodup) (h : rfit b (asL p) l = true) : (plc b l).Nodup := by
  unfold rfit at h
  rw [Bool.and_eq_true, Bool.not_eq_true', List.any_eq_false] at h
  obtain ⟨h1, h2⟩ := h
  have h1 := of_decide_eq_true h1
  refine (pig hnd (fun q hq => ?_) (by rw [hps]; simp [plc, pls, h1])).1
  rw [hps] at hq
  obtain ⟨i, hi, rfl⟩ := List.mem_map.1 hq
  have h3 := h2 i hi
  cases hv : l.any fun x => decide (asI (fld (el (asL (fld b 0)) (asI x)) 0) = asI (fld ((asL p).getD i .N) 0)) with
  | false => rw [hv] at h3; exact absurd rfl h3
  | true =>
    obtain ⟨x, hx, he⟩ := List.any_eq_true.1 hv
    exact List.mem_map.2 ⟨x, hx, of_decide_eq_true he⟩
theorem chg_dup (hps : ps = pls (asL p)) (hnd : ps.Nodup) : ∀ {r : Nat} {l : List IV} {fr : Nat}, ¬(plc b l).Nodup → chg b p (fun l => rfit b (asL p) l) r l fr = []
  | 0, l, fr, h => by
    unfold chg
    rw [if_neg]
    exact fun hf => h (rfit_nodup hps hnd hf)
  | r + 1, l, fr, h => by
    unfold chg
    rw [List.flatMap_eq_nil_iff]
    intro j _
    split
    · rfl
    · split
      · refine chg_dup hps hnd (fun hn => h ?_)
        rw [plc_app] at hn
        exact (List.nodup_append.1 hn).1
      · rfl
theorem good_FT {l : List IV} {c : Nat} : FT b (.L l) (c : Int) = good b l c := by
  unfold FT good
  rw [Bool.eq_iff_iff, Bool.not_eq_true', List.any_eq_false, List.all_eq_true]
  constructor
  · intro h x hx
    have := h x hx
    rw [TG_symm]; simpa using this
  · intro h x hx
    have := h x hx
    rw [TG_symm] at this; simp [this]
theorem wgt_zero {l : IV} {q : Int} (h : ∀ z ∈ asL l, asI (fld z 0) ≠ q) : wgt l q = 0 := by
  unfold wgt
  revert h
  generalize asL l = L
  intro h
  induction L with
  | nil => rfl
  | cons y L ih =>
    simp only [foldS]
    rw [if_neg (h y (List.mem_cons_self ..))]
    exact ih (fun z hz => h z (List.mem_cons_of_mem _ hz))
theorem mem_pls {P : List IV} {q : Int} : q ∈ pls P ↔ ∃ z ∈ P, asI (fld z 0) = q := by
  unfold pls
  simp only [List.mem_map, List.mem_range]
  constructor
  · rintro ⟨i, hi, rfl⟩
    exact ⟨_, memD hi, rfl⟩
  · rintro ⟨z, hz, rfl⟩
    obtain ⟨i, hi, rfl⟩ := List.getElem_of_mem hz
    exact ⟨i, hi, by simp [List.getD, hi]⟩
theorem cho_chg (hps : ps = pls (asL p)) (hnd : ps.Nodup) (hw : ∀ z ∈ asL p, asI (fld z 1) = 1) : ∀ (d : Nat) (l : List IV), (lf b ps l).length ≤ d → l.length + (lf b ps l).length = ps.length →
    cho b d ((lf b ps l).map IV.I) l = chg b p (fun l => rfit b (asL p) l) (lf b ps l).length l (frL l) := by
  intro d
  induction d with
  | zero =>
    intro l hd hl
    have h0 : lf b ps l = [] := List.eq_nil_of_length_eq_zero (by omega)
    rw [h0]
    exact base l h0 hl
  | succ d ih =>
    intro l hd hl
    by_cases h0 : lf b ps l = []
    · rw [h0]; exact base l h0 hl
    · obtain ⟨r, hr⟩ : ∃ r, (lf b ps l).length = r + 1 := ⟨(lf b ps l).length - 1, by have := List.length_pos_iff.2 h0; omega⟩
      rw [cho_succ (by simpa using h0), hr]
      unfold ctl chg
      congr 1
      funext j
      unfold cxo
      rw [good_FT]
      generalize hc : frL l + j = c
      have hany : (((lf b ps l).map IV.I).any fun x => decide (asI x = plo b c)) = true ↔ plo b c ∈ lf b ps l := by
        rw [List.any_eq_true]
        constructor
        · rintro ⟨x, hx, he⟩
          obtain ⟨q, hq, rfl⟩ := List.mem_map.1 hx
          have he : q = plo b c := of_decide_eq_true he
          rw [← he]; exact hq
        · intro h
          exact ⟨.I (plo b c), List.mem_map.2 ⟨_, h, rfl⟩, decide_eq_true rfl⟩
      by_cases hm : plo b c ∈ lf b ps l
      · rw [if_pos (hany.2 hm)]
        have hmp : plo b c ∈ ps := (List.mem_filter.1 hm).1
        rw [if_neg (wgt_ne hw (mem_pls.1 (hps ▸ hmp)))]
        split
        · have hlen := filter_ne_len (hnd.filter _) hm
          rw [rst_map, lf_app]
          have e1 : (lf b ps (l ++ [.I (c : Int)])).length = r := by
            rw [← lf_app]
            have : (lf b ps l).length = r + 1 := hr
            unfold lf at hlen this ⊢
            omega
          have hi := ih (l ++ [IV.I (c : Int)]) (by omega) (by rw [List.length_append, e1]; simp only [List.length_cons, List.length_nil]; omega)
          rw [e1, frL_app] at hi
          exact hi
        · rfl
      · rw [if_neg (fun h => hm (hany.1 h))]
        by_cases hmp : plo b c ∈ ps
        · have hdup : plo b c ∈ plc b l := by
            by_cases hin : plo b c ∈ plc b l
            · exact hin
            · exact absurd (List.mem_filter.2 ⟨hmp, by simp [hin]⟩) hm
          split
          · rfl
          · split
            · rw [chg_dup hps hnd]
              rw [plc_app]
              intro hn
              exact (List.nodup_append.1 hn).2.2 _ hdup _ (List.mem_singleton_self _) rfl
            · rfl
        · rw [if_pos (wgt_zero (fun z hz e => hmp (hps ▸ mem_pls.2 ⟨z, hz, e⟩)))]
where
  base (l : List IV) (h0 : lf b ps l = []) (hl : l.length + (lf b ps l).length = ps.length) {d : Nat} : cho b d (([] : List Int).map IV.I) l = chg b p (fun l => rfit b (asL p) l) ([] : List Int).length l (frL l) := by
    show cho b d [] l = chg b p _ 0 l (frL l)
    rw [cho_nil]
    unfold chg
    rw [if_pos]
    rw [h0] at hl
    have hll : (asL p).length = l.length := by
      have : ps.length = (asL p).length := by rw [hps]; simp [pls]
      simp only [List.length_nil] at hl
      omega
    unfold rfit
    rw [decide_eq_true hll, Bool.true_and, Bool.not_eq_true', List.any_eq_false]
    intro i hi
    have hmem : asI (fld ((asL p).getD i .N) 0) ∈ ps := by rw [hps]; exact List.mem_map.2 ⟨i, hi, rfl⟩
    have hin : asI (fld ((asL p).getD i .N) 0) ∈ plc b l := by
      by_cases hin : asI (fld ((asL p).getD i .N) 0) ∈ plc b l
      · exact hin
      · have : asI (fld ((asL p).getD i .N) 0) ∈ lf b ps l := List.mem_filter.2 ⟨hmem, by rw [Bool.not_eq_true', List.contains_eq_mem, decide_eq_false_iff_not]; exact hin⟩
        rw [h0] at this; cases this
    obtain ⟨x, hx, he⟩ := List.mem_map.1 hin
    have : (l.any fun x => decide (asI (fld (el (asL (fld b 0)) (asI x)) 0) = asI (fld ((asL p).getD i .N) 0))) = true := List.any_eq_true.2 ⟨x, hx, decide_eq_true he⟩
    rw [this]; simp
end
def inL (n : IV) (i : Nat) : List IV := tgs (fld ((asL (fld n 2)).getD i .N) 1) (asL (fld ((asL (fld n 2)).getD i .N) 1)).length
noncomputable def chI (n b : IV) (i : Nat) : List IV := cho b (inL n i).length (inL n i) []
theorem inL_pls {n : IV} {i : Nat} : inL n i = (pls (asL (fld ((asL (fld n 2)).getD i .N) 1))).map IV.I := by
  unfold inL tgs pls
  rw [List.map_map]; rfl
section
variable {n b : IV} {i : Nat}
theorem chI_chg (hie : IE n = 0) (hi : i < (asL (fld n 2)).length) : chI n b i = chg b (fld ((asL (fld n 2)).getD i .N) 1) (fun l => rfit b (asL (fld ((asL (fld n 2)).getD i .N) 1)) l) (asL (fld ((asL (fld n 2)).getD i .N) 1)).length [] 0 := by
  have hm := memD hi
  have hr := rg_of hie
  have hnd : (pls (asL (fld ((asL (fld n 2)).getD i .N) 1))).Nodup := by
    have := hr.nd _ hm
    unfold tgs at this
    rw [List.map_map] at this
    exact this
  have hlf : lf b (pls (asL (fld ((asL (fld n 2)).getD i .N) 1))) [] = pls (asL (fld ((asL (fld n 2)).getD i .N) 1)) := by
    unfold lf
    rw [List.filter_eq_self]
    intro q _; rfl
  have hpl : (pls (asL (fld ((asL (fld n 2)).getD i .N) 1))).length = (asL (fld ((asL (fld n 2)).getD i .N) 1)).length := by simp [pls]
  have h := cho_chg (b := b) (p := fld ((asL (fld n 2)).getD i .N) 1) rfl hnd (ON_w (IE_NC hie).2.2.1 hm) (inL n i).length [] (by rw [hlf, inL_pls]; simp) (by rw [hlf]; simp)
  rw [hlf, hpl] at h
  unfold chI
  conv => lhs; rw [show inL n i = (pls (asL (fld ((asL (fld n 2)).getD i .N) 1))).map IV.I from inL_pls]
  rw [inL_pls] at h
  exact h
theorem rCH_chI (hie : IE n = 0) (hi : i < (asL (fld n 2)).length) : rCH n b i = (chI n b i).filter fun u => !KN b (i : Int) u := by
  rw [chI_chg hie hi, chg_filter]
  unfold rCH
  rw [chs_chg]
  congr 1
  funext l
  rw [lst_full]
theorem chI_len (hie : IE n = 0) (hi : i < (asL (fld n 2)).length) (hc : (asL (fld b 0)).length ≤ 24) (hr : (asL (fld ((asL (fld n 2)).getD i .N) 1)).length ≤ 6) : (chI n b i).length ≤ 134596 := by
  rw [chI_chg hie hi]
  exact Nat.le_trans chg_len (bn_small (by omega) hr)
theorem range_map_getD {f : IV → IV} : ∀ {ls : List IV}, (List.range ls.length).map (fun k => f (ls.getD k .N)) = ls.map f := by
  intro ls
  apply List.ext_getElem?
  intro k
  simp only [List.getElem?_map]
  by_cases hk : k < ls.length
  · rw [List.getElem?_range hk, List.getElem?_eq_getElem hk]
    simp [List.getD, hk]
  · rw [List.getElem?_eq_none (by simpa using hk), List.getElem?_eq_none (by omega)]; rfl
theorem poI_filter {t : Int} {ls : List IV} : poI b t ls ls.length = (ls.filter fun u => !KN b t u).map fun u => .L ([.I t] ++ asL u) := by
  have key : ∀ (L : List Nat) (M : List IV), L.map (fun k => ls.getD k .N) = M → ((L.filter fun k => !KN b t (ls.getD k .N)).map fun k => IV.L ([.I t] ++ asL (ls.getD k .N))) = (M.filter fun u => !KN b t u).map fun u => IV.L ([.I t] ++ asL u) := by
    intro L
    induction L with
    | nil => intro M h; subst h; rfl
    | cons k L ih =>
      intro M h
      subst h
      rw [List.map_cons, List.filter_cons, List.filter_cons]
      split
      · rw [List.map_cons, List.map_cons, ih _ rfl]
      · exact ih _ rfl
  exact key _ _ (by have := range_map_getD (f := id) (ls := ls); simpa using this)
theorem fm_congr {f g : Nat → List IV} : ∀ {l : List Nat}, (∀ x ∈ l, f x = g x) → l.flatMap f = l.flatMap g
  | [], _ => rfl
  | x :: l, h => by
    rw [List.flatMap_cons, List.flatMap_cons, h x (List.mem_cons_self ..), fm_congr (fun y hy => h y (List.mem_cons_of_mem _ hy))]
theorem PS_rPS : PS n b (chI n b) = rPS n b := by
  unfold PS rPS
  split
  · rename_i hck
    have hie := CK_IE hck
    unfold poO rPO
    have : ∀ t ∈ List.range (asL (fld n 2)).length, poI b (t : Int) (chI n b t) (chI n b t).length = rPI n b t (rCH n b t).length := by
      intro t ht
      rw [poI_filter, ← rCH_chI hie (List.mem_range.1 ht)]
      unfold rPI
      exact (range_map_getD (f := fun u => .L ([.I (t : Int)] ++ asL u))).symm
    exact fm_congr this
  · rfl
end
theorem cho_row {b : IV} : ∀ {d : Nat} {left l : List IV} {u : IV}, u ∈ cho b d left l → (asL u).length ≤ l.length + d
  | 0, left, l, u, h => by
    unfold cho at h
    split at h
    · rw [List.mem_singleton.1 h]; exact Nat.le_refl _
    · cases h
  | d + 1, left, l, u, h => by
    by_cases hn : left = []
    · subst hn
      rw [cho_nil] at h
      rw [List.mem_singleton.1 h]
      show l.length ≤ _; omega
    · rw [cho_succ hn] at h
      unfold ctl at h
      obtain ⟨j, _, hj⟩ := List.mem_flatMap.1 h
      unfold cxo at hj
      split at hj
      · split at hj
        · have := cho_row hj
          rw [List.length_append] at this
          simp only [List.length_cons, List.length_nil] at this
          omega
        · cases hj
      · cases hj
theorem inL_len {n : IV} {i : Nat} : (inL n i).length = (asL (fld ((asL (fld n 2)).getD i .N) 1)).length := tgs_len
theorem chI_out {n b : IV} {i : Nat} (h : (asL (fld n 2)).length ≤ i) : (chI n b i).length ≤ 134596 := by
  have e : (asL (fld n 2)).getD i .N = .N := by simp [List.getD, h]
  have e2 : inL n i = [] := by unfold inL; rw [e]; rfl
  unfold chI
  rw [e2, cho_nil]
  decide
theorem ok_rPS {n b : IV} (hc : (asL (fld b 0)).length ≤ 24) (ht : (asL (fld n 2)).length ≤ 6) (hl : ∀ i, (asL (fld ((asL (fld n 2)).getD i .N) 1)).length ≤ 6) : Ok (.L (rPS n b)) := by
  refine .L ?_ (fun x hx => ?_)
  · unfold rPS
    split
    · have := rPO_len (n := n) (b := b) hc hl (asL (fld n 2)).length
      have := Nat.mul_le_mul_right 134596 ht
      unfold maxLen; omega
    · exact Nat.zero_le _
  · obtain ⟨i, s, rfl, h1, h2, h3⟩ := rPS_mem hx
    have := hl i
    refine .L (by show (ints s).length + 1 ≤ _; rw [ints_len]; unfold maxLen; omega) (fun y hy => ?_)
    rcases List.mem_cons.1 hy with rfl | hy
    · exact .I (by omega)
    · obtain ⟨c, hc2, rfl⟩ := ints_mem.1 hy
      have := h3 c hc2
      exact .I (by omega)
end Go.Ev
end
section
set_option linter.unusedSimpArgs false
set_option linter.unusedVariables false
set_option maxRecDepth 100000
set_option maxHeartbeats 4000000
namespace Go.Proofs.Ytficdonjodadlaa
open Go.Ev Go.Proofs
theorem AU_rlists {p : Prop} (h : p := by
  repeat' (first | (with_reducible refine condLt (fun h h' => ?_) (fun h h' => ?_)) | (with_reducible refine condLe (fun h h' => ?_) (fun h h' => ?_)) | (with_reducible refine dop_val ?_) | (with_reducible refine YsLt (fun h h' => ?_) (fun h h' => ?_)) | (with_reducible refine YsLe (fun h h' => ?_) (fun h h' => ?_)) | (with_reducible refine condP (fun h => ?_) (fun h => ?_)) | (with_reducible refine condN (fun h => ?_) (fun h => ?_)) | (with_reducible refine condB (fun h => ?_) (fun h => ?_)) | (with_reducible refine condR (fun h => ?_) (fun h => ?_)) | (with_reducible refine YsB (fun h => ?_) (fun h => ?_)) | (with_reducible refine YsC (fun h => ?_) (fun h => ?_)) | (with_reducible refine Ys_ite (fun h => ?_) (fun h => ?_)) | (intro h) | (with_reducible refine draw_look (by kernel_rfl) (by kernel_rfl) ?_) | (simp (maxDischargeDepth := 9) only [go_sem, Nat.reduceMul, Nat.reduceAdd, Nat.reduceLeDiff, Int.reduceSub, Int.reduceNeg, Int.reduceLT, Int.reduceLE, Int.reduceEq, *, lsame_ans]) | (exfalso; omega))) : p := h
theorem rlists_ans (ext : CallF) (k : Nat) (u : IV) (hk : maxLen + (6) ≤ k) (hu : Ok u) : ans (tab.run ext k) 19 [.iv 2 44 u, .iv 2 44 u] 0 = some ([.one (.at (.bool true))], [4]) := by
  obtain ⟨k, rfl⟩ : ∃ k', k = k' + 1 := ⟨k - 1, by omega⟩
  have hk1 : maxLen < k := by omega
  have hk0 : 0 < k := by omega
  have hk_0 : maxLen + (2) ≤ k := by omega
  refine fn_run (fx := fx19) (m := 25) 27 rfl rfl rfl rfl (fun st hn hg hr => ?_)
  have g0 : st.get (.tmp 0) = .v (.a (.iv 2 44 u)) := hg 0 (of_decide_eq_true rfl)
  have g1 : st.get (.tmp 1) = .v (.a (.iv 2 44 u)) := hg 1 (of_decide_eq_true rfl)
  clear hg hr
  rw [co19]
  simp only [Try.f19, Option.getD_some]
  have hl0 := ok_len hu
  simp (maxDischargeDepth := 9) only [go_sem, Nat.reduceMul, Nat.reduceAdd, Nat.reduceLeDiff, Int.reduceSub, Int.reduceNeg, Int.reduceLT, Int.reduceLE, Int.reduceEq, *, lsame_ans]
  refine gen_st (fun s0 hg hr hn0 => ?_)
  have e0 := hg 0
  have e1 := hg 1
  have e5 := hg 5
  clear hg hr
  simp only [go_sem, *] at hn0 e0 e1 e5
  refine nr (runs_forN (asL u).length (fun (_ : Unit) _ => Stp.next (ρ := Unit) ()) () 27 (fun i a => [(0, s0.get (.tmp 0)), (1, s0.get (.tmp 1)), (5, .v (.a (.int .i64 (i : Nat))))]) (fun i a => []) (fun i a => True) (by omega) ?_ (trivial) ?_ ?_ ?_ ?_)
  · simp (maxDischargeDepth := 9) only [go_sem, Nat.reduceMul, Nat.reduceAdd, Nat.reduceLeDiff, Int.reduceSub, Int.reduceNeg, Int.reduceLT, Int.reduceLE, Int.reduceEq, *, lsame_ans]
  · intro i a; simp (maxDischargeDepth := 9) only [go_sem, Nat.reduceMul, Nat.reduceAdd, Nat.reduceLeDiff, Int.reduceSub, Int.reduceNeg, Int.reduceLT, Int.reduceLE, Int.reduceEq, *, lsame_ans]
  · intro i a; simp (maxDischargeDepth := 9) only [go_sem, Nat.reduceMul, Nat.reduceAdd, Nat.reduceLeDiff, Int.reduceSub, Int.reduceNeg, Int.reduceLT, Int.reduceLE, Int.reduceEq, *, lsame_ans]
  · intro i a s hi hI hS
    clear hn0 e5
    simp only [go_sem] at hS
    obtain ⟨f0, f1, f5, hn⟩ := hS
    have hw := wrap_succ hi (hl0)
    have hox : Ok ((asL u).getD i .N) := ok_getD hu
    refine rn ?_
    simp (maxDischargeDepth := 9) only [go_sem, Nat.reduceMul, Nat.reduceAdd, Nat.reduceLeDiff, Int.reduceSub, Int.reduceNeg, Int.reduceLT, Int.reduceLE, Int.reduceEq, *, lsame_ans]
    all_goals exact AU_rlists
  · intro a s hI hf hS
    clear hn0 e5
    simp only [go_sem] at hS
    obtain ⟨f0, f1, f5, hn⟩ := hS
    try simp only [go_sem] at hf
    refine rn ?_
    simp (maxDischargeDepth := 9) only [go_sem, Nat.reduceMul, Nat.reduceAdd, Nat.reduceLeDiff, Int.reduceSub, Int.reduceNeg, Int.reduceLT, Int.reduceLE, Int.reduceEq, *, lsame_ans]
    all_goals exact AU_rlists
theorem AU_possibles {p : Prop} (h : p := by
  repeat' (first | (with_reducible refine condLt (fun h h' => ?_) (fun h h' => ?_)) | (with_reducible refine condLe (fun h h' => ?_) (fun h h' => ?_)) | (with_reducible refine dop_val ?_) | (with_reducible refine YsLt (fun h h' => ?_) (fun h h' => ?_)) | (with_reducible refine YsLe (fun h h' => ?_) (fun h h' => ?_)) | (with_reducible refine condP (fun h => ?_) (fun h => ?_)) | (with_reducible refine condN (fun h => ?_) (fun h => ?_)) | (with_reducible refine condB (fun h => ?_) (fun h => ?_)) | (with_reducible refine condR (fun h => ?_) (fun h => ?_)) | (with_reducible refine YsB (fun h => ?_) (fun h => ?_)) | (with_reducible refine YsC (fun h => ?_) (fun h => ?_)) | (with_reducible refine Ys_ite (fun h => ?_) (fun h => ?_)) | (intro h) | (with_reducible refine draw_look (by kernel_rfl) (by kernel_rfl) ?_) | (simp (maxDischargeDepth := 9) only [go_sem, Nat.reduceMul, Nat.reduceAdd, Nat.reduceLeDiff, Int.reduceSub, Int.reduceNeg, Int.reduceLT, Int.reduceLE, Int.reduceEq, *, small_ans, large_ans, rLight_ans, hX12]) | (exfalso; omega))) : p := h
theorem possibles_ans (ext : CallF) (k : Nat) (hN : ExN ext) (hE : ExC ext) (hU : ExU ext) (hCh : ExCh ext) (n b : IV) (hk : maxLen + (D0 + 80) ≤ k) (hnn : Ok n) (hb : Ok b) (hX : ∀ k, maxLen + (D0 + 70) ≤ k → ans (tab.run ext k) 12 [] 2 = some ([.one (.at (.bool true))], [4])) : ans (tab.run ext k) 4 [.iv 2 25 n, .iv 2 29 b] 3 = some ([.one (.at (.bool true))], [4]) := by
  obtain ⟨k, rfl⟩ : ∃ k', k = k' + 1 := ⟨k - 1, by omega⟩
  have hk1 : maxLen < k := by omega
  have hk0 : 0 < k := by omega
  have hk_0 : maxLen + (2) ≤ k := by omega
  have hk_1 : maxLen + (4) ≤ k := by omega
  have hk_2 : maxLen + (8) ≤ k := by omega
  refine fn_run (fx := fx4) (m := 38) 40 rfl rfl rfl rfl (fun st hn hg hr => ?_)
  have g0 : st.get (.tmp 0) = .v (.a (.iv 2 25 n)) := hg 0 (of_decide_eq_true rfl)
  have g1 : st.get (.tmp 1) = .v (.a (.iv 2 29 b)) := hg 1 (of_decide_eq_true rfl)
  have r0 := hr 0
  have r1 := hr 1
  have r2 := hr 2
  clear hg hr
  rw [co4]
  simp only [Try.f4, Option.getD_some]
  have hX12 := hX k (by omega)
  by_cases hs : smB n = true
  case neg =>
    have hsf : smB n = false := by simpa using hs
    have hsn := smN_f hsf
    simp (maxDischargeDepth := 9) only [go_sem, Nat.reduceMul, Nat.reduceAdd, Nat.reduceLeDiff, Int.reduceSub, Int.reduceNeg, Int.reduceLT, Int.reduceLE, Int.reduceEq, *, small_ans, large_ans, rLight_ans, hX12]
    all_goals exact AU_possibles
  have hsn := smN_t hs
  have hl18 := rLight_ans ext k n (by omega) hnn
  by_cases h18 : liB n = true
  case neg =>
    have h18f : liB n = false := by simpa using h18
    simp (maxDischargeDepth := 9) only [go_sem, Nat.reduceMul, Nat.reduceAdd, Nat.reduceLeDiff, Int.reduceSub, Int.reduceNeg, Int.reduceLT, Int.reduceLE, Int.reduceEq, *, small_ans, large_ans, rLight_ans, hX12]
    all_goals exact AU_possibles
  by_cases hL : LG b = true
  case pos =>
    simp (maxDischargeDepth := 9) only [go_sem, Nat.reduceMul, Nat.reduceAdd, Nat.reduceLeDiff, Int.reduceSub, Int.reduceNeg, Int.reduceLT, Int.reduceLE, Int.reduceEq, *, small_ans, large_ans, rLight_ans, hX12]
    all_goals exact AU_possibles
  have hLn : LG b = false := by simpa using hL
  have hz := LG_ev hLn
  have hzc := LG_co hLn
  by_cases h24 : (24 : Int) < ((asL (fld b 0)).length : Int)
  case pos =>
    simp (maxDischargeDepth := 9) only [go_sem, Nat.reduceMul, Nat.reduceAdd, Nat.reduceLeDiff, Int.reduceSub, Int.reduceNeg, Int.reduceLT, Int.reduceLE, Int.reduceEq, *, small_ans, large_ans, rLight_ans, hX12]
    all_goals exact AU_possibles
  have hL24 : (asL (fld b 0)).length ≤ 24 := by omega
  have hpl := sm_pl hs
  have hlp := liB_lp h18
  have htt := liB_tt h18
  have hx := possible_ans ext k hN hE hU n b 2 2 (chI n b) (by omega) hnn hb (by decide) hz (by omega) hpl (ng_of hs) htt (fun hck i => by
    by_cases hi : i < (asL (fld n 2)).length
    · exact Nat.le_trans (chI_len (CK_IE hck) hi hL24 (hlp i)) (by decide)
    · exact Nat.le_trans (chI_out (by omega)) (by decide)) (fun i u hu => by
    have := cho_row hu
    have := inL_len (n := n) (i := i)
    have := hlp i
    simp only [List.length_nil] at *
    omega) (fun hck i hi => by
    have hie := CK_IE hck
    obtain ⟨nx, hpf⟩ := pf_of hck
    have hfd := hpf.fd
    have hll := hlp i
    have hil := inL_len (n := n) (i := i)
    exact hCh b (inL n i) 2 2 (by decide) hb hfd hz (by omega) (by omega) (ok_tgs (by omega) (ok_fld (ok_getD (ok_fld hnn)))) (fun x hx => by
      unfold inL tgs at hx
      obtain ⟨k, _, rfl⟩ := List.mem_map.1 hx
      exact ⟨_, rfl⟩) (Nat.le_trans (chI_len hie hi hL24 hll) (by decide)))
  rw [PS_rPS] at hx
  have hr := rpossible_ans ext k n b (by have := D0_ge; omega) hnn hb hz hpl (ng_of hs) hL24 htt hlp
  have hls := rlists_ans ext k (.L (rPS n b)) (by omega) (ok_rPS hL24 htt hlp)
  simp (maxDischargeDepth := 9) only [go_sem, Nat.reduceMul, Nat.reduceAdd, Nat.reduceLeDiff, Int.reduceSub, Int.reduceNeg, Int.reduceLT, Int.reduceLE, Int.reduceEq, *, small_ans, large_ans, rLight_ans, hX12]
  with_reducible refine draw_look (by kernel_rfl) (by kernel_rfl) ?_
  simp (maxDischargeDepth := 9) only [go_sem, Nat.reduceMul, Nat.reduceAdd, Nat.reduceLeDiff, Int.reduceSub, Int.reduceNeg, Int.reduceLT, Int.reduceLE, Int.reduceEq, *, small_ans, large_ans, rLight_ans, hX12]
  iterate 10
    with_reducible refine dop_val ?_
    simp (maxDischargeDepth := 9) only [go_sem, Nat.reduceMul, Nat.reduceAdd, Nat.reduceLeDiff, Int.reduceSub, Int.reduceNeg, Int.reduceLT, Int.reduceLE, Int.reduceEq, *, small_ans, large_ans, rLight_ans, hX12]
  with_reducible refine dop_loud (by kernel_rfl) ?_
  simp (maxDischargeDepth := 9) only [go_sem, Nat.reduceMul, Nat.reduceAdd, Nat.reduceLeDiff, Int.reduceSub, Int.reduceNeg, Int.reduceLT, Int.reduceLE, Int.reduceEq, *, small_ans, large_ans, rLight_ans, hX12]
end Go.Proofs.Ytficdonjodadlaa
end
