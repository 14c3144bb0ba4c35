/- Part 9 of a proof: Dc. Words and walks that a program printed for this claim stand here without what the claim does not use. -/
import Derived.Test.YtfnjbgggmddgpaaDc8
section
set_option linter.unusedVariables false
set_option linter.unusedSimpArgs false
namespace Go.Proofs.Ytfnjbgggmddgpaa.Q
open Go.RowKit Go.Proofs.Fn Go.Proofs.YtfnjbgggmddgpaaW.PrintWords Go.Proofs.Gr
def hasT (T : List (List S80)) (t : Int) (i : Nat) : Bool := (T.getD i []).any (fun e => e.f1 == t)
theorem rfires_l1 {n : Nat} {T : List (List S80)} (hT : OkT n T) (t : Int) (x7 : List Bool) (i : Nat) (hi : i < n) (r : List Int × Bool) (h7 : x7.length = i)
    (next : Evn (fun k => petrinetref16_Fires.l0 k t T (x7 ++ [hasT T t i]) ((i + 1 : Nat) : Int)) r) :
    ∀ (m p : Nat) (f : Bool), p + m = (T.getD i []).length → (f || ((T.getD i []).drop p).any (fun e => e.f1 == t)) = hasT T t i → Evn (fun k => petrinetref16_Fires.l1 k t T x7 (i : Int) f (p : Int)) r := by
  have hsm := hT.small
  have hln := hT.len
  have hrow := hT.rows i hi
  intro m
  induction m with
  | zero =>
    intro p f hp hf
    rw [List.drop_of_length_le (by omega), List.any_nil, Bool.or_false] at hf
    refine Evn.succ ?_
    simp only [petrinetref16_Fires.l1, rdL80, hln, wrap_succ (show i < 9223372036854775807 by omega)]
    iterate 3 (first | refine Evn.pos (by first | assumption | omega | (simp; done) | (simp; omega)) ?_ | refine Evn.neg (by first | assumption | omega | (simp; done) | (simp; omega)) ?_)
    refine Evn.pos (by omega) ?_
    rw [hf]; exact next
  | succ m ih =>
    intro p f hp hf
    have hpl : p < (T.getD i []).length := by omega
    rw [drop80 hpl, List.any_cons] at hf
    refine Evn.succ ?_
    simp only [petrinetref16_Fires.l1, rdL80, hln, wrap_succ (show p < 9223372036854775807 by omega)]
    iterate 3 (first | refine Evn.pos (by first | assumption | omega | (simp; done) | (simp; omega)) ?_ | refine Evn.neg (by first | assumption | omega | (simp; done) | (simp; omega)) ?_)
    cases f with
    | true => refine Evn.pos rfl ?_; exact ih (p + 1) true (by omega) (by rw [← hf]; simp)
    | false =>
      refine Evn.neg (by simp) ?_
      (first | refine Evn.pos (by first | assumption | omega | (simp; done) | (simp; omega)) ?_ | refine Evn.neg (by first | assumption | omega | (simp; done) | (simp; omega)) ?_)
      exact ih (p + 1) _ (by omega) (by rw [← hf]; simp)
theorem fires_both (st : List (List Int)) (es : List S80) (b : Bool) (hn : st.length ≤ 1000000) (he : es.length ≤ 1000000) (t : Int) :
    ∃ l ok, Found st.length (tab st.length es) (hasT (tab st.length es) t) 0 l ok ∧ Evn (fun k => witness_Fires.f k st es b t) (if ok = true then l ++ [t] else [], ok) ∧ Evn (fun k => petrinetref16_Fires.f k st es b t) (if ok = true then l ++ [t] else [], ok) := by
  have hT := tab_ok (n := st.length) hn he
  have hln := hT.len
  have hst := steps_ev st es b hn he
  have htb := table_ev st es b hn he
  revert hT hln hst htb
  generalize tab st.length es = T
  intro hT hln hst htb
  obtain ⟨l, ok, hF, h1, h2⟩ := search_both hT (fires1 (T.map (List.map pr)) t) (hasT T t) (fun i hi => by
    unfold fires1
    rw [if_pos (by omega), if_pos (by rw [List.length_map, hln]; omega), rdmap]
    congr 1
    unfold hasT
    rw [List.any_map]; rfl) 0
  have hsh := hF.short hT
  refine ⟨l, ok, hF, ?_, ?_⟩
  · refine Evn.bind hst ?_
    refine Evn.bind (a := (l, ok)) (Evn.pos ?_ h1) ?_
    · rw [List.all_eq_true]
      intro r hr
      obtain ⟨r', hr', rfl⟩ := List.mem_map.1 hr
      obtain ⟨i, hi, e⟩ := List.mem_iff_getElem.1 hr'
      have := hT.rows i (by omega)
      have e2 : T.getD i [] = r' := by rw [← e]; simp [hi]
      rw [e2] at this
      simp; omega
    · cases ok with
      | true =>
        refine Evn.pos rfl ?_
        refine Evn.pos (by simp only; omega) ?_
        exact Evn.const _
      | false => refine Evn.neg (by simp) ?_; exact Evn.const _
  · refine Evn.bind htb ?_
    have key : ∀ (m i : Nat), i + m = st.length → Evn (fun k => petrinetref16_Fires.l0 k t T ((List.range i).map (hasT T t)) (i : Int)) (if ok = true then l ++ [t] else [], ok) := by
      intro m
      induction m with
      | zero =>
        intro i hi
        obtain rfl : i = st.length := by omega
        refine Evn.succ ?_
        simp only [petrinetref16_Fires.l0, hln]
        (first | refine Evn.pos (by first | assumption | omega | (simp; done) | (simp; omega)) ?_ | refine Evn.neg (by first | assumption | omega | (simp; done) | (simp; omega)) ?_)
        refine Evn.bind h2 ?_
        cases ok with
        | true =>
          refine Evn.pos rfl ?_
          refine Evn.pos (by simp only; omega) ?_
          exact Evn.const _
        | false =>
          refine Evn.neg (by simp) ?_
          rw [hF.no rfl]
          exact Evn.const _
      | succ m ih =>
        intro i hi
        have := ih (i + 1) (by omega)
        rw [List.range_succ, List.map_append, List.map_singleton] at this
        refine Evn.succ ?_
        simp only [petrinetref16_Fires.l0, hln]
        (first | refine Evn.pos (by first | assumption | omega | (simp; done) | (simp; omega)) ?_ | refine Evn.neg (by first | assumption | omega | (simp; done) | (simp; omega)) ?_)
        exact rfires_l1 hT t _ i (by omega) _ (by simp) this _ 0 false (by rw [Nat.zero_add]) (by simp [hasT])
    exact key st.length 0 (by omega)
end Go.Proofs.Ytfnjbgggmddgpaa.Q
end
