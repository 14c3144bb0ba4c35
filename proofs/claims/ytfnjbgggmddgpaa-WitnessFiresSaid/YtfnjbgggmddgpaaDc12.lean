/- Part 12 of a proof: Dc. Words and walks that a program printed for this claim stand here without what the claim does not use. -/
import Derived.Test.YtfnjbgggmddgpaaDc10
import Derived.Test.YtfnjbgggmddgpaaDc11
import Derived.Test.YtfnjbgggmddgpaaDc9
section
set_option linter.unusedVariables false
set_option linter.unusedSimpArgs false
namespace Go.Proofs.Ytfnjbgggmddgpaa.Q
open Go.RowKit Go.Proofs.Fn Go.Proofs.YtfnjbgggmddgpaaW.PrintWords Go.Proofs.Gr
theorem single_eq (st : List (List Int)) (es : List S80) (b : Bool) (s : Nat) (hs : s < st.length) (hn : st.length ≤ 1000000) : petrinetref16_single.f st es b (s : Int) = some ((List.range st.length).map (fun (i : Nat) => (i : Int) == (s : Int))) := by
  unfold petrinetref16_single.f
  rw [if_pos (by omega), if_pos (by simp only [Int.toNat_natCast]; omega), Option.bind_some, if_pos (by omega), if_pos (by simp; omega)]
  congr 1
  apply List.ext_getElem (by simp)
  intro i h1 h2
  rw [List.getElem_set]
  simp only [Int.toNat_natCast, List.getElem_replicate, List.getElem_map, List.getElem_range]
  split
  · symm; simp; omega
  · symm; simp; omega
theorem loop_l1 (l : List Int) (hl : l.length ≤ 2000000) : ∀ (m j : Nat) (acc : List Int), j + m = l.length → acc.length ≤ j + 1 → Evn (fun k => petrinetref16_Loop.l1 k l acc (j : Int)) (acc ++ l.drop j, true) := by
  intro m
  induction m with
  | zero =>
    intro j acc hj ha
    refine Evn.succ ?_
    simp only [petrinetref16_Loop.l1]
    (first | refine Evn.pos (by first | assumption | omega | (simp; done) | (simp; omega)) ?_ | refine Evn.neg (by first | assumption | omega | (simp; done) | (simp; omega)) ?_)
    rw [List.drop_of_length_le (by omega), List.append_nil]
    exact Evn.const _
  | succ m ih =>
    intro j acc hj ha
    have hjl : j < l.length := by omega
    have hrd : rd l (j : Int) = l[j] := by simp [rd, hjl]
    refine Evn.succ ?_
    simp only [petrinetref16_Loop.l1, hrd, wrap_succ (show j < 9223372036854775807 by omega)]
    iterate 3 (first | refine Evn.pos (by first | assumption | omega | (simp; done) | (simp; omega)) ?_ | refine Evn.neg (by first | assumption | omega | (simp; done) | (simp; omega)) ?_)
    have := ih (j + 1) (acc ++ [l[j]]) (by omega) (by simp; omega)
    rw [List.append_assoc] at this
    rw [List.drop_eq_getElem_cons hjl]
    exact this
theorem loop_both (st : List (List Int)) (es : List S80) (b : Bool) (hn : st.length ≤ 1000000) (he : es.length ≤ 1000000) (a : Int) :
    ∃ l ok, l.length ≤ 4000000 ∧ Evn (fun k => witness_Loop.f k st es b a) (l, ok) ∧ Evn (fun k => petrinetref16_Loop.f k st es b a) (l, ok) := by
  have hT := tab_ok (n := st.length) hn he
  have hln := hT.len
  have hst := steps_ev st es b hn he
  have htb := table_ev st es b hn he
  revert hT hln hst htb
  generalize tab st.length es = T
  intro hT hln hst htb
  by_cases ha : 0 ≤ a ∧ a < (st.length : Int)
  · obtain ⟨s, rfl⟩ : ∃ s : Nat, a = (s : Int) := ⟨a.toNat, by omega⟩
    have hs : s < st.length := by omega
    obtain ⟨d, ⟨hd, hL, hle⟩, hev⟩ := distances_ev hT (fun x => some (x == (s : Int))) (fun i => (i : Int) == (s : Int)) (fun i hi => rfl)
    obtain ⟨d', ⟨hd', hL'⟩, hev'⟩ := rdistances_ev hT (fun i => (i : Int) == (s : Int))
    obtain rfl : d = d' := by
      apply List.ext_getElem (by omega)
      intro i h1 h2
      have := hL.unique hL' i (by omega)
      simpa [D, h1, h2] using this
    have hrow := hT.rows s hs
    have fin : ∀ (p t : Nat), p < (T.getD s []).length → (rd_T80 (T.getD s []) (p : Int)).f2 = (t : Int) → 0 ≤ D d t → ∀ j : Nat, (T.getD s []).length ≤ j →
        ∃ l ok, l.length ≤ 4000000 ∧ Evn (fun k => witness_Loop.l0 k (T.map (List.map pr)) d true ((T.getD s []).map pr) ((T.getD s []).length : Int) (j : Int) (rd_T80 (T.getD s []) (p : Int)).f1 (t : Int)) (l, ok) ∧ Evn (fun k => petrinetref16_Loop.l0 k (s : Int) T d (p : Int) (j : Int) st es b) (l, ok) := by
      intro p t hp ht h0 j hj
      have htn : t < st.length := by
        have := hT.tgt s hs _ (by rw [rd80 hp]; exact List.getElem_mem _ : rd_T80 (T.getD s []) (p : Int) ∈ T.getD s [])
        omega
      have hle2 := hle t htn
      obtain ⟨r, ⟨l, z, hl, hlm, _⟩, h1, h2⟩ := follow_both hT d hd hL (D d t).toNat t [] htn (by omega) (by simp; omega)
      obtain rfl : r = l := by simpa using hl
      refine ⟨(rd_T80 (T.getD s []) (p : Int)).f1 :: r, true, by simp; omega, Evn.succ ?_, Evn.succ ?_⟩
      · simp only [witness_Loop.l0]
        (first | refine Evn.pos (by first | assumption | omega | (simp; done) | (simp; omega)) ?_ | refine Evn.neg (by first | assumption | omega | (simp; done) | (simp; omega)) ?_)
        refine Evn.pos (by simp) ?_
        refine Evn.bind (Evn.const _) ?_
        refine Evn.bind (a := r) h1 ?_
        refine Evn.pos (by simp; omega) ?_
        exact Evn.const _
      · simp only [petrinetref16_Loop.l0, rdL80, hln, ht]
        iterate 3 (first | refine Evn.pos (by first | assumption | omega | (simp; done) | (simp; omega)) ?_ | refine Evn.neg (by first | assumption | omega | (simp; done) | (simp; omega)) ?_)
        iterate 3 (first | refine Evn.pos (by first | assumption | omega | (simp; done) | (simp; omega)) ?_ | refine Evn.neg (by first | assumption | omega | (simp; done) | (simp; omega)) ?_)
        rw [single_eq st es b s hs hn]
        refine Evn.bind (Evn.const _) ?_
        refine Evn.bind (a := (r, true)) ?_ ?_
        · simp only [petrinetref16_follow.f, hln]
          (first | refine Evn.pos (by first | assumption | omega | (simp; done) | (simp; omega)) ?_ | refine Evn.neg (by first | assumption | omega | (simp; done) | (simp; omega)) ?_)
          refine Evn.succ ?_
          simp only [petrinetref16_follow.j0]
          refine Evn.neg (by simp; omega) ?_
          refine Evn.bind hev' ?_
          simp only [rdD, hd]
          iterate 3 (first | refine Evn.pos (by first | assumption | omega | (simp; done) | (simp; omega)) ?_ | refine Evn.neg (by first | assumption | omega | (simp; done) | (simp; omega)) ?_)
          exact h2
        · have := loop_l1 r (by omega) _ 0 [(rd_T80 (T.getD s []) (p : Int)).f1] (by rw [Nat.zero_add]) (by simp)
          simpa using this
    have loop : ∀ (m j : Nat), j + m = (T.getD s []).length →
        (∃ l ok, l.length ≤ 4000000 ∧ Evn (fun k => witness_Loop.l0 k (T.map (List.map pr)) d false ((T.getD s []).map pr) ((T.getD s []).length : Int) (j : Int) 0 0) (l, ok) ∧ Evn (fun k => petrinetref16_Loop.l0 k (s : Int) T d (-1) (j : Int) st es b) (l, ok)) ∧
        (∀ (p t : Nat), p < (T.getD s []).length → (rd_T80 (T.getD s []) (p : Int)).f2 = (t : Int) → 0 ≤ D d t →
          ∃ l ok, l.length ≤ 4000000 ∧ Evn (fun k => witness_Loop.l0 k (T.map (List.map pr)) d true ((T.getD s []).map pr) ((T.getD s []).length : Int) (j : Int) (rd_T80 (T.getD s []) (p : Int)).f1 (t : Int)) (l, ok) ∧ Evn (fun k => petrinetref16_Loop.l0 k (s : Int) T d (p : Int) (j : Int) st es b) (l, ok)) := by
      intro m
      induction m with
      | zero =>
        intro j hj
        refine ⟨⟨[], false, by simp, Evn.succ ?_, Evn.succ ?_⟩, fun p t hp ht h0 => fin p t hp ht h0 j (by omega)⟩
        · simp only [witness_Loop.l0]
          (first | refine Evn.pos (by first | assumption | omega | (simp; done) | (simp; omega)) ?_ | refine Evn.neg (by first | assumption | omega | (simp; done) | (simp; omega)) ?_)
          refine Evn.neg (by simp) ?_
          exact Evn.const _
        · simp only [petrinetref16_Loop.l0, rdL80, hln]
          iterate 4 (first | refine Evn.pos (by first | assumption | omega | (simp; done) | (simp; omega)) ?_ | refine Evn.neg (by first | assumption | omega | (simp; done) | (simp; omega)) ?_)
          exact Evn.const _
      | succ m ih =>
        intro j hj
        obtain ⟨ih1, ih2⟩ := ih (j + 1) (by omega)
        have hjl : j < (T.getD s []).length := by omega
        have hm : rd_T80 (T.getD s []) (j : Int) ∈ T.getD s [] := by rw [rd80 hjl]; exact List.getElem_mem _
        have htg := hT.tgt s hs _ hm
        obtain ⟨u, hu⟩ : ∃ u : Nat, (rd_T80 (T.getD s []) (j : Int)).f2 = (u : Int) := ⟨_, (Int.toNat_of_nonneg htg.1).symm⟩
        have hun : u < st.length := by omega
        have hu2 : (rd_T66 ((T.getD s []).map pr) (j : Int)).f1 = (u : Int) := by rw [rd66map]; exact hu
        have hv2 : (rd_T66 ((T.getD s []).map pr) (j : Int)).f0 = (rd_T80 (T.getD s []) (j : Int)).f1 := by rw [rd66map]; rfl
        refine ⟨?_, fun p t hp ht h0 => ?_⟩
        · by_cases c : D d u ≥ 0
          · obtain ⟨l, ok, hl, h1, h2⟩ := ih2 j u hjl hu c
            refine ⟨l, ok, hl, Evn.succ ?_, Evn.succ ?_⟩
            · simp only [witness_Loop.l0, hu2, hv2, rdD, hd, List.length_map, wrap_succ (show j < 9223372036854775807 by omega)]
              iterate 6 (first | refine Evn.pos (by first | assumption | omega | (simp; done) | (simp; omega)) ?_ | refine Evn.neg (by first | assumption | omega | (simp; done) | (simp; omega)) ?_)
              refine Evn.neg (by simp) ?_
              exact h1
            · simp only [petrinetref16_Loop.l0, rdL80, hln, hu, rdD, hd, wrap_succ (show j < 9223372036854775807 by omega)]
              iterate 8 (first | refine Evn.pos (by first | assumption | omega | (simp; done) | (simp; omega)) ?_ | refine Evn.neg (by first | assumption | omega | (simp; done) | (simp; omega)) ?_)
              exact h2
          · obtain ⟨l, ok, hl, h1, h2⟩ := ih1
            refine ⟨l, ok, hl, Evn.succ ?_, Evn.succ ?_⟩
            · simp only [witness_Loop.l0, hu2, hv2, rdD, hd, List.length_map, wrap_succ (show j < 9223372036854775807 by omega)]
              iterate 6 (first | refine Evn.pos (by first | assumption | omega | (simp; done) | (simp; omega)) ?_ | refine Evn.neg (by first | assumption | omega | (simp; done) | (simp; omega)) ?_)
              exact h1
            · simp only [petrinetref16_Loop.l0, rdL80, hln, hu, rdD, hd, wrap_succ (show j < 9223372036854775807 by omega)]
              iterate 7 (first | refine Evn.pos (by first | assumption | omega | (simp; done) | (simp; omega)) ?_ | refine Evn.neg (by first | assumption | omega | (simp; done) | (simp; omega)) ?_)
              exact h2
        · have htn : t < st.length := by
            have := hT.tgt s hs _ (by rw [rd80 hp]; exact List.getElem_mem _ : rd_T80 (T.getD s []) (p : Int) ∈ T.getD s [])
            omega
          by_cases c : D d u ≥ 0
          · by_cases c2 : D d u < D d t
            · obtain ⟨l, ok, hl, h1, h2⟩ := ih2 j u hjl hu c
              refine ⟨l, ok, hl, Evn.succ ?_, Evn.succ ?_⟩
              · simp only [witness_Loop.l0, hu2, hv2, rdD, hd, List.length_map, wrap_succ (show j < 9223372036854775807 by omega)]
                iterate 6 (first | refine Evn.pos (by first | assumption | omega | (simp; done) | (simp; omega)) ?_ | refine Evn.neg (by first | assumption | omega | (simp; done) | (simp; omega)) ?_)
                refine Evn.pos (by simp) ?_
                iterate 3 (first | refine Evn.pos (by first | assumption | omega | (simp; done) | (simp; omega)) ?_ | refine Evn.neg (by first | assumption | omega | (simp; done) | (simp; omega)) ?_)
                exact h1
              · simp only [petrinetref16_Loop.l0, rdL80, hln, hu, ht, rdD, hd, wrap_succ (show j < 9223372036854775807 by omega)]
                iterate 13 (first | refine Evn.pos (by first | assumption | omega | (simp; done) | (simp; omega)) ?_ | refine Evn.neg (by first | assumption | omega | (simp; done) | (simp; omega)) ?_)
                exact h2
            · obtain ⟨l, ok, hl, h1, h2⟩ := ih2 p t hp ht h0
              refine ⟨l, ok, hl, Evn.succ ?_, Evn.succ ?_⟩
              · simp only [witness_Loop.l0, hu2, hv2, rdD, hd, List.length_map, wrap_succ (show j < 9223372036854775807 by omega)]
                iterate 6 (first | refine Evn.pos (by first | assumption | omega | (simp; done) | (simp; omega)) ?_ | refine Evn.neg (by first | assumption | omega | (simp; done) | (simp; omega)) ?_)
                refine Evn.pos (by simp) ?_
                iterate 3 (first | refine Evn.pos (by first | assumption | omega | (simp; done) | (simp; omega)) ?_ | refine Evn.neg (by first | assumption | omega | (simp; done) | (simp; omega)) ?_)
                exact h1
              · simp only [petrinetref16_Loop.l0, rdL80, hln, hu, ht, rdD, hd, wrap_succ (show j < 9223372036854775807 by omega)]
                iterate 13 (first | refine Evn.pos (by first | assumption | omega | (simp; done) | (simp; omega)) ?_ | refine Evn.neg (by first | assumption | omega | (simp; done) | (simp; omega)) ?_)
                exact h2
          · obtain ⟨l, ok, hl, h1, h2⟩ := ih2 p t hp ht h0
            refine ⟨l, ok, hl, Evn.succ ?_, Evn.succ ?_⟩
            · simp only [witness_Loop.l0, hu2, hv2, rdD, hd, List.length_map, wrap_succ (show j < 9223372036854775807 by omega)]
              iterate 6 (first | refine Evn.pos (by first | assumption | omega | (simp; done) | (simp; omega)) ?_ | refine Evn.neg (by first | assumption | omega | (simp; done) | (simp; omega)) ?_)
              exact h1
            · simp only [petrinetref16_Loop.l0, rdL80, hln, hu, rdD, hd, wrap_succ (show j < 9223372036854775807 by omega)]
              iterate 7 (first | refine Evn.pos (by first | assumption | omega | (simp; done) | (simp; omega)) ?_ | refine Evn.neg (by first | assumption | omega | (simp; done) | (simp; omega)) ?_)
              exact h2
    obtain ⟨l, ok, hl, h1, h2⟩ := (loop _ 0 (by rw [Nat.zero_add])).1
    refine ⟨l, ok, hl, ?_, ?_⟩
    · refine Evn.bind hst ?_
      (first | refine Evn.pos (by first | assumption | omega | (simp; done) | (simp; omega)) ?_ | refine Evn.neg (by first | assumption | omega | (simp; done) | (simp; omega)) ?_)
      refine Evn.succ ?_
      simp only [witness_Loop.j0]
      refine Evn.neg (by simp [hln]; omega) ?_
      refine Evn.bind hev ?_
      simp only [rdmap, List.length_map, hln]
      iterate 2 (first | refine Evn.pos (by first | assumption | omega | (simp; done) | (simp; omega)) ?_ | refine Evn.neg (by first | assumption | omega | (simp; done) | (simp; omega)) ?_)
      exact h1
    · unfold petrinetref16_Loop.f
      (first | refine Evn.pos (by first | assumption | omega | (simp; done) | (simp; omega)) ?_ | refine Evn.neg (by first | assumption | omega | (simp; done) | (simp; omega)) ?_)
      refine Evn.succ ?_
      simp only [petrinetref16_Loop.j0]
      refine Evn.neg (by simp; omega) ?_
      refine Evn.bind htb ?_
      rw [single_eq st es b s hs hn]
      refine Evn.bind (Evn.const _) ?_
      exact Evn.bind hev' h2
  · refine ⟨[], false, by simp, ?_, ?_⟩
    · refine Evn.bind hst ?_
      by_cases c : a < 0
      · refine Evn.pos c (Evn.succ ?_)
        simp only [witness_Loop.j0]
        (first | refine Evn.pos (by first | assumption | omega | (simp; done) | (simp; omega)) ?_ | refine Evn.neg (by first | assumption | omega | (simp; done) | (simp; omega)) ?_)
        exact Evn.const _
      · refine Evn.neg c (Evn.succ ?_)
        simp only [witness_Loop.j0]
        refine Evn.pos (by simp [hln]; omega) ?_
        exact Evn.const _
    · unfold petrinetref16_Loop.f
      by_cases c : a < 0
      · refine Evn.pos c (Evn.succ ?_)
        simp only [petrinetref16_Loop.j0]
        (first | refine Evn.pos (by first | assumption | omega | (simp; done) | (simp; omega)) ?_ | refine Evn.neg (by first | assumption | omega | (simp; done) | (simp; omega)) ?_)
        exact Evn.const _
      · refine Evn.neg c (Evn.succ ?_)
        simp only [petrinetref16_Loop.j0]
        refine Evn.pos (by simp; omega) ?_
        exact Evn.const _
theorem fires_law (st : List (List Int)) (es : List S80) (b : Bool) (a c : Int) : Evn (fun k => petrinetlaw16_WitnessFires.f k st es b a c) true := by
  unfold petrinetlaw16_WitnessFires.f
  rw [few_eq]
  refine Evn.bind (Evn.const _) ?_
  by_cases cc : st.length ≤ 16 ∧ es.length ≤ 40
  · refine Evn.pos (by simpa using cc) ?_
    have hn : st.length ≤ 1000000 := by omega
    have he : es.length ≤ 1000000 := by omega
    obtain ⟨l, ok, hF, h1, h2⟩ := fires_both st es b hn he a
    obtain ⟨l', ok', hl', h1', h2'⟩ := loop_both st es b hn he c
    refine Evn.bind h1 (Evn.bind h2 ?_)
    refine Evn.neg (by simp) ?_
    refine Evn.bind (same_ev (if ok = true then l ++ [a] else []) ?_) ?_
    · have := hF.short (tab_ok hn he)
      split
      · simp; omega
      · simp
    refine Evn.succ ?_
    simp only [petrinetlaw16_WitnessFires.j0]
    refine Evn.neg (by simp) ?_
    refine Evn.bind h1' (Evn.bind h2' ?_)
    refine Evn.pos (by simp) ?_
    refine Evn.bind (same_ev l' hl') ?_
    refine Evn.pos rfl ?_
    refine Evn.bind alive_ev ?_
    exact Evn.const _
  · refine Evn.neg (by simpa using cc) ?_
    refine Evn.bind alive_ev ?_
    exact Evn.const _
end Go.Proofs.Ytfnjbgggmddgpaa.Q
end
