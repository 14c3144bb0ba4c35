/- The statement BranchingPossibles holds: whatever the input, the law returns true and the input reads as it did. -/
import Derived.Test.YtficdonjodadlaaRows
import Derived.WalkKit
import Derived.ProofKit
import Derived.OpenShut
import Derived.ShutString
import Derived.ChangeOld
import Derived.Below
import Derived.SizedLaws
import Derived.Test.YtficdonjodadlaaDm7
import Derived.Test.YtficdonjodadlaaDm9
set_option linter.unusedSimpArgs false
set_option linter.unusedVariables false
namespace Go.Proofs.Ytficdonjodadlaa.branchingPossibles
open Go.ChangeShapes Go.WideShapes Go.ChangeAt Go.RowKit Go.Ev Go.Proofs.Ytficdonjodadlaa
set_option linter.unusedVariables false
theorem own : ownKnob Try.prog.godebug = none := by kernel_rfl
theorem laidOut : laidOutB Try.prog = true := by kernel_rfl
set_option maxRecDepth 100000 in
theorem lifted (os : Os) (started : os.Started) (H : Type) (enc : TypeId × Value → H) :
    ReturnsInHanded {} Try.checked os 4 .any (Rows.branchingPossiblesSpec.pre6 enc Try.prog Try.f4 Rows.branchingPossiblesRow.domain false) (Rows.branchingPossiblesSpec.post enc Try.prog Try.f4 false true false false) := by
  refine returnsInHanded_of_change_sized (C := Try.checked) own started (by kernel_rfl) Try.func4
    (ChangeSpec.witness6 (enc := enc) (C := Try.checked) false ⟨#[], #[.agg #[.string ByteArray.empty, .slice none 0 0, .slice none 0 0], .agg #[.slice none 0 0, .slice none 0 0]], []⟩ 8 (by kernel_rfl) (by kernel_rfl) (by kernel_rfl) (by kernel_rfl)) ?_
  intro W base args ds gs before hval0 hW hcnd hsz0 _
  have hval : ∀ (j : Nat) t v, Try.f4.params[j]? = some t → args[j]? = some v → Value.okWide Try.prog W .any base t v := hval0
  have hW' := hW
  obtain ⟨p, q, hA0, hV, rfl, hfz, hnd⟩ := hW
  have hA : DataW.TrodAll enc Try.prog W 0 (fun _ => true) true Try.f4.params.toList args.toList ds p := hA0
  rw [Try.params4] at hA hval
  obtain ⟨v0, vs0, d0, ds0, p0, q0, hargs, rfl, rfl, h0, r0⟩ := trodAll_cons hA
  obtain ⟨v1, vs1, d1, ds1, p1, q1, rfl, rfl, rfl, h1, r1⟩ := trodAll_cons r0
  obtain ⟨rfl, rfl, rfl⟩ := trodAll_nil r1
  obtain rfl : args = #[v0, v1] := by cases args; simp_all
  obtain ⟨rfl, rfl⟩ := trodVars_none hV
  have lt0 : ∀ x ∈ p0, x.block < W.heap.size := by obtain ⟨m, hm⟩ := h0; exact DataW.trod_lt m _ _ _ hm
  obtain ⟨u0, w0, cs0, rep0, hv0⟩ := open_arg tabOk (n := 9) (t := 25) (by kernel_rfl) (hval 0 25 v0 rfl rfl) h0
  have sl0 := arg_slot tabOk rep0
  rw [← hv0, arg25] at sl0
  have lt1 : ∀ x ∈ p1, x.block < W.heap.size := by obtain ⟨m, hm⟩ := h1; exact DataW.trod_lt m _ _ _ hm
  obtain ⟨u1, w1, cs1, rep1, hv1⟩ := open_arg tabOk (n := 9) (t := 29) (by kernel_rfl) (hval 1 29 v1 rfl rfl) h1
  have sl1 := arg_slot tabOk rep1
  rw [← hv1, arg29] at sl1
  clear hA0 hval0 hsz0
  obtain ⟨m, hk⟩ := ans_out (possibles_ans Mk.extF (maxLen + (D0 + 80)) Mk.extF_N Mk.extF_C Mk.extF_U Mk.extF_Ch u0 u1 (Nat.le_refl _) (wf_ok w0) (wf_ok w1) (fun k hk => ex_hold k hk))
  refine (law_calls tabOk (run_sound mixed fnsOk Mk.extF_ok _) (xs := [.iv 2 25 u0, .iv 2 29 u1]) (vs := [v0, v1]) rfl (fun i hi => ?_) hk).mono fun e W' ⟨he, bel⟩ => ?_
  · match i, hi with
    | 0, _ => exact sl0
    | 1, _ => exact sl1
    | i + 2, hi => exact absurd hi (by simp)
  · subst he
    exact ⟨_, rfl, _, _, _, [], _, [], hW', trodAll_mk1 (shut_bool Try.underlying4 _), (trodAll_cons_mk (Below.trod laidOut (by kernel_rfl) (of_decide_eq_true (by kernel_rfl)) h0 bel lt0) (trodAll_cons_mk (Below.trod laidOut (by kernel_rfl) (of_decide_eq_true (by kernel_rfl)) h1 bel lt1) trodAll_mk0)), rfl, bel.frame _, fun h => by cases h⟩
theorem over : Rows.branchingPossiblesRow.holds Try.pinned (OpenSpec.ofChange Rows.branchingPossiblesSpec) :=
  OpenClaim.holds_of_wide 4 Try.f4 rfl rfl rfl rfl rfl rfl rfl ⟨rfl, rfl, rfl, rfl, rfl⟩ rfl rfl rfl rfl rfl (by kernel_rfl) Try.func4 (by kernel_rfl)
    (of_decide_eq_true (by kernel_rfl)) (by unfold Func.isWrapper; first | (rw [if_pos (by decide +kernel)]; kernel_rfl) | (rw [if_neg (by decide +kernel)]; exact ⟨rfl, rfl⟩))
    (fun os started H enc _ => lifted os started H enc)
end Go.Proofs.Ytficdonjodadlaa.branchingPossibles
namespace Go.Proofs.Ytficdonjodadlaa
theorem branchingPossibles_holds : Rows.BranchingPossiblesSaid := branchingPossibles.over
end Go.Proofs.Ytficdonjodadlaa
