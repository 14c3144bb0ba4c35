/- Part 8 of a proof: Dm. Words and walks that a program printed for this claim stand here without what the claim does not use. -/
import Derived.Laws.RangeAny
import Derived.Test.YtficdonjodadlaaDm3
import Derived.Test.YtficdonjodadlaaDm4
import Derived.Test.YtficdonjodadlaaDm5
import Derived.Test.YtficdonjodadlaaDm7
set_option linter.unusedSimpArgs false
set_option linter.unusedVariables false
section
set_option linter.unusedVariables false
namespace Go.Ev
theorem ck_run {n b : IV} (h : (CK n b).1 = 0) : IE n = 0 ∧ nEv b ≤ 2000 ∧ (fcs n).length ≤ nCo b ∧
    (∀ c, c < (fcs n).length → asI (fld ((asL (fld b 0)).getD c .N) 0) = asI (fld ((fcs n).getD c .N) 0) ∧ asI (fld ((asL (fld b 0)).getD c .N) 1) = asI (fld ((fcs n).getD c .N) 1)) ∧
    ∃ nx : Nat → Nat, nx 0 = (fcs n).length ∧ (∀ i, i < nEv b → CE n b (i : Int) (nx i : Int) = 0 ∧ nx (i + 1) = nx i + (asL (fld ((asL (fld b 1)).getD i .N) 2)).length) ∧ nCo b ≤ nx (nEv b) := by
  unfold CK at h
  split at h
  · rename_i h1
    split at h
    · cases h
    · rename_i h2
      split at h
      · cases h
      · rename_i h3
        unfold CK1 at h
        split at h
        · cases h
        · rename_i h4
          refine ⟨h1, by unfold nEv; omega, by unfold nCo; omega, fun c hc => ?_, ?_⟩
          · have h5 := List.any_eq_false.1 (Bool.eq_false_iff.2 h4) c (List.mem_range.2 hc)
            simpa using h5
          · unfold CK2 at h
            split at h
            · rename_i r hr
              have : r.1 ≠ 0 := fold_ret (P := fun r => r.1 ≠ 0) (fun a x r hr => by
                unfold ckE at hr
                split at hr
                · cases hr
                · rename_i hne; cases hr; exact hne) hr
              exact absurd h this
            · rename_i m hm
              obtain ⟨nx, k1, k2, k3⟩ := fold_run (fun a x r => by unfold ckE; split <;> simp) hm
              split at h
              · cases h
              · rename_i h6
                refine ⟨nx, k1, fun i hi => ?_, ?_⟩
                · have := k2 i i (by rw [List.getElem?_range]; exact hi)
                  unfold ckE at this
                  split at this
                  · rename_i h7; injection this with this; exact ⟨h7, this.symm⟩
                  · cases this
                · rw [List.length_range] at k3
                  unfold nEv nCo; omega
            · rename_i hm; exact absurd hm fold_no_next
  · rename_i h1; exact absurd h h1
theorem fcs_from {n : IV} {c : Nat} (hc : c < (fcs n).length) : asI (fld ((fcs n).getD c .N) 1) = -1 := by
  have := memD hc
  generalize (fcs n).getD c .N = x at this
  simp only [fcs, ics, List.mem_map] at this
  obtain ⟨k, _, rfl⟩ := this
  rfl
theorem CE_cp {n b : IV} {i m : Int} (h : CE n b i m = 0) : (0 ≤ asI (fld (el (asL (fld b 1)) i) 0) ∧ asI (fld (el (asL (fld b 1)) i) 0) < ((asL (fld n 2)).length : Int)) ∧ CP n (cutB b i m) (el (asL (fld b 1)) i) = 0 ∧ PO n b i m = 0 := by
  unfold CE at h
  split at h
  · cases h
  · rename_i h1
    split at h
    · rename_i h2; exact ⟨by omega, h2, h⟩
    · rename_i h2; exact absurd h h2
theorem CP_ok {n b e : IV} (h : CP n b e = 0) : (asL (fld e 1)).length = (insL n e).length ∧ RZ (fld e 1) = false ∧ (∀ x ∈ asL (fld e 1), 0 ≤ asI x ∧ asI x < ((asL (fld b 0)).length : Int)) ∧ CS b (fld e 1) = true ∧ KN b (asI (fld e 0)) (fld e 1) = false := by
  unfold CP at h
  split at h
  · rename_i h1
    split at h
    · cases h
    · rename_i h2
      split at h
      · cases h
      · rename_i h3
        unfold CP2 at h
        split at h
        · cases h
        · split at h
          · rename_i h4
            split at h
            · cases h
            · rename_i h5
              refine ⟨h1, by simpa using h2, fun x hx => ?_, h4, by simpa using h5⟩
              have := List.any_eq_false.1 (Bool.eq_false_iff.2 h3) x hx
              simp only [decide_eq_true_eq] at this
              omega
          · cases h
  · cases h
theorem PO_ok {n b : IV} {i m : Int} (h : PO n b i m = 0) : (asL (fld (el (asL (fld b 1)) i) 2)).length = (outs n b i).length ∧ ∀ k, k < (asL (fld (el (asL (fld b 1)) i) 2)).length →
    asI ((asL (fld (el (asL (fld b 1)) i) 2)).getD k .N) = m + (k : Int) ∧ m + (k : Int) < ((asL (fld b 0)).length : Int) ∧ asI (fld (el (asL (fld b 0)) (m + (k : Int))) 0) = asI ((outs n b i).getD k .N) ∧ frm b (m + (k : Int)) = i := by
  unfold PO at h
  split at h
  · rename_i h1
    refine ⟨h1, ?_⟩
    cases hf : foldS (poS n b i m) () (List.range (asL (fld (el (asL (fld b 1)) i) 2)).length) with
    | next r => exact absurd hf fold_no_next
    | ret r => rw [hf] at h; cases h
    | stop r =>
      have hall := fold_all hf (fun x hx r => by unfold poS; split <;> (try split) <;> (try split) <;> simp)
      intro k hk
      have := hall k (List.mem_range.2 hk)
      unfold poS at this
      split at this
      · rename_i e1
        split at this
        · cases this
        · rename_i e2
          split at this
          · rename_i e3
            simp only [Bool.and_eq_true, decide_eq_true_eq] at e3
            rw [e1] at e2 e3
            exact ⟨e1, by omega, e3.1, e3.2⟩
          · cases this
      · cases this
  · cases h
structure PF (n b : IV) (nx : Nat → Nat) : Prop where
  ev : nEv b ≤ 2000
  le : (fcs n).length ≤ nCo b
  fc : ∀ c, c < (fcs n).length → asI (fld ((asL (fld b 0)).getD c .N) 0) = asI (fld ((fcs n).getD c .N) 0) ∧ frm b (c : Int) = -1
  z : nx 0 = (fcs n).length
  s : ∀ i, i < nEv b → CE n b (i : Int) (nx i : Int) = 0 ∧ nx (i + 1) = nx i + (asL (fld ((asL (fld b 1)).getD i .N) 2)).length
  t : nCo b ≤ nx (nEv b)
theorem pf_of {n b : IV} (h : (CK n b).1 = 0) : ∃ nx, PF n b nx := by
  obtain ⟨h1, h2, h3, h4, nx, h5, h6, h7⟩ := ck_run h
  exact ⟨nx, h2, h3, fun c hc => ⟨(h4 c hc).1, by rw [frm, el_nat, (h4 c hc).2]; exact fcs_from hc⟩, h5, h6, h7⟩
section
variable {n b : IV} {nx : Nat → Nat}
theorem PF.own (h : PF n b nx) : ∀ i, i ≤ nEv b → nx i ≤ nCo b ∧ ∀ c : Nat, c < nx i → -1 ≤ frm b (c : Int) ∧ frm b (c : Int) < (i : Int)
  | 0, _ => by
    rw [h.z]
    exact ⟨h.le, fun c hc => by rw [(h.fc c hc).2]; omega⟩
  | i + 1, hi => by
    obtain ⟨h1, h2⟩ := h.own i (by omega)
    obtain ⟨h3, h4⟩ := h.s i (by omega)
    have h5 := CE_ok h3 h1
    obtain ⟨_, h6⟩ := PO_ok (CE_cp h3).2.2
    rw [el_nat] at h6
    rw [h4]
    refine ⟨h5, fun c hc => ?_⟩
    by_cases hlt : c < nx i
    · have := h2 c hlt; omega
    · have := (h6 (c - nx i) (by omega)).2.2.2
      rw [show ((nx i : Nat) : Int) + ((c - nx i : Nat) : Int) = (c : Int) by omega] at this
      rw [this]; omega
theorem FD_of (h1 : ∀ c : Nat, c < nCo b → -1 ≤ frm b (c : Int) ∧ frm b (c : Int) < (nEv b : Int)) (h2 : ∀ i, i < nEv b → ∀ x ∈ pre b i, 0 ≤ asI x ∧ asI x < (nCo b : Int) ∧ frm b (asI x) < (i : Int)) : FD b = true := by
  simp only [FD, Bool.and_eq_true, Bool.not_eq_true', List.any_eq_false, decide_eq_true_eq, List.any_eq_true, not_exists, not_and, not_or]
  constructor
  · intro x hx
    obtain ⟨i, hi, rfl⟩ := List.getElem_of_mem hx
    have := h1 i hi
    rw [frm, el_nat] at this
    have e : (asL (fld b 0)).getD i .N = (asL (fld b 0))[i] := by simp [List.getD, hi]
    rw [e] at this
    unfold nEv at this
    omega
  · intro i hi x hx
    have := h2 i (List.mem_range.1 hi) x hx
    simp only [nCo, frm] at this
    omega
theorem PF.pre (h : PF n b nx) {i : Nat} (hi : i < nEv b) : (∀ x ∈ Go.Ev.pre b i, 0 ≤ asI x ∧ asI x < (nx i : Int)) ∧ CS (cutB b (i : Int) (nx i : Int)) (fld ((asL (fld b 1)).getD i .N) 1) = true := by
  obtain ⟨h1, h2⟩ := h.own i (by omega)
  obtain ⟨h3, h4⟩ := h.s i hi
  obtain ⟨_, h5, _⟩ := CE_cp h3
  obtain ⟨_, _, h6, h7, _⟩ := CP_ok h5
  rw [el_nat] at h6 h7
  refine ⟨fun x hx => ?_, h7⟩
  have := h6 x hx
  have e : (asL (fld (cutB b (i : Int) (nx i : Int)) 0)).length = nx i := by
    show ((asL (fld b 0)).take (nx i : Int).toNat).length = nx i
    rw [List.length_take, Int.toNat_natCast]; unfold nCo at h1; omega
  rw [e] at this
  exact this
theorem PF.fd (h : PF n b nx) : FD b = true := by
  refine FD_of (fun c hc => ?_) (fun i hi x hx => ?_)
  · have := h.t
    obtain ⟨_, h2⟩ := h.own (nEv b) (Nat.le_refl _)
    exact h2 c (by omega)
  · obtain ⟨h1, h2⟩ := h.own i (by omega)
    have h3 := (h.pre hi).1 x hx
    have h4 := h2 (asI x).toNat (by omega)
    rw [show (((asI x).toNat : Nat) : Int) = asI x by omega] at h4
    omega
theorem pre_cut {i m h : Nat} (hh : h < i) : Go.Ev.pre (cutB b (i : Int) (m : Int)) h = Go.Ev.pre b h := by
  unfold Go.Ev.pre
  rw [cutB_1, Int.toNat_natCast, take_get hh]
theorem frm_cut {i m : Nat} {c : Int} (h0 : 0 ≤ c) (h1 : c < (m : Int)) : frm (cutB b (i : Int) (m : Int)) c = frm b c := by
  unfold frm
  show asI (fld (el ((asL (fld b 0)).take (m : Int).toNat) c) 1) = _
  unfold el
  rw [Int.toNat_natCast, take_get (by omega)]
theorem PF.rch (h : PF n b nx) {i e g : Nat} (hi : i < nEv b) (he : e < i) (hr : Rch b e g) : Rch (cutB b (i : Int) (nx i : Int)) e g := by
  have hfd := h.fd
  have hmono : ∀ j, j ≤ i → nx j ≤ nx i := by
    intro j hj
    induction i with
    | zero => obtain rfl : j = 0 := by omega
              exact Nat.le_refl _
    | succ i ih =>
      rcases Nat.eq_or_lt_of_le hj with rfl | hj
      · exact Nat.le_refl _
      · have h1 := (h.s i (by omega)).2
        have : nx j ≤ nx i := by
          clear ih hr he
          have : ∀ a c, a ≤ c → c ≤ nEv b → nx a ≤ nx c := by
            intro a c hac hc
            induction c with
            | zero => obtain rfl : a = 0 := by omega
                      exact Nat.le_refl _
            | succ c ihc =>
              rcases Nat.eq_or_lt_of_le hac with rfl | hac
              · exact Nat.le_refl _
              · have h1 := (h.s c (by omega)).2
                have := ihc (by omega) (by omega)
                omega
          exact this j i (by omega) (by omega)
        omega
  induction hr with
  | refl => exact .refl
  | step hr hx ih =>
    rename_i h' g'
    have hle := rch_le hfd (by omega) hr
    refine .step ih ?_
    obtain ⟨x, hx, e1⟩ := hx
    have hp := (h.pre (i := h') (by omega)).1 x hx
    have := hmono h' (by omega)
    exact ⟨x, by rw [pre_cut (by omega)]; exact hx, by rw [frm_cut hp.1 (by omega)]; exact e1⟩
theorem CS_pair {b l : IV} (h : CS b l = true) {x y : IV} (hx : x ∈ asL l) (hy : y ∈ asL l) (hne : asI x ≠ asI y) : TG b (asI x) (asI y) = true := by
  simp only [CS, Bool.and_eq_true, Bool.not_eq_true', List.any_eq_false, List.any_eq_true, not_exists, not_and, List.mem_range, Bool.not_eq_true] at h
  obtain ⟨i, hi, rfl⟩ := List.getElem_of_mem hx
  obtain ⟨k, hk, rfl⟩ := List.getElem_of_mem hy
  have ei : (asL l).getD i .N = (asL l)[i] := by simp [List.getD, hi]
  have ek : (asL l).getD k .N = (asL l)[k] := by simp [List.getD, hk]
  rcases Nat.lt_trichotomy i k with hik | hik | hik
  · have := h.2 k hk i hik
    rw [ei, ek] at this
    rw [TG_symm]; simpa using this
  · subst hik; exact absurd rfl hne
  · have := h.2 i hi k hik
    rw [ei, ek] at this
    simpa using this
end
end Go.Ev
end
section
set_option linter.unusedVariables false
namespace Go.Ev
section
variable {n b : IV} {nx : Nat → Nat}
theorem PF.tg (h : PF n b nx) {i : Nat} (hi : i < nEv b) {x c : IV} (hx : x ∈ Go.Ev.pre b i) (hc : c ∈ Go.Ev.pre b i) (hne : asI x ≠ asI c) : TG (cutB b (i : Int) (nx i : Int)) (asI x) (asI c) = true :=
  CS_pair (h.pre hi).2 hx hc hne
theorem cut_ev {i m : Nat} (hi : i ≤ nEv b) : (asL (fld (cutB b (i : Int) (m : Int)) 1)).length = i := by
  rw [cutB_1, Int.toNat_natCast, List.length_take]; unfold nEv at hi; omega
theorem PF.hist (h : PF n b nx) {i e g : Nat} (hi : i < nEv b) {c : IV} (hc : c ∈ Go.Ev.pre b i) (he : frm b (asI c) = (e : Int)) (hr : Rch b e g) : Go.Ev.hist (cutB b (i : Int) (nx i : Int)) (frm (cutB b (i : Int) (nx i : Int)) (asI c)) g = true ∧ g < i := by
  have hp := (h.pre hi).1 c hc
  have hf := FD_pre h.fd hi hc
  have hle := rch_le h.fd (by omega) hr
  refine ⟨?_, by omega⟩
  rw [frm_cut hp.1 hp.2, he, hist_nat]
  exact decide_eq_true (h.rch hi (by omega) hr)
theorem PF.cn (h : PF n b nx) {i e g : Nat} (hi : i < nEv b) {x c : IV} (hx : x ∈ Go.Ev.pre b i) (hc : c ∈ Go.Ev.pre b i) (hne : asI x ≠ asI c) (he : frm b (asI c) = (e : Int)) (hr : Rch b e g) : ∀ y ∈ Go.Ev.pre b g, asI y ≠ asI x := by
  have tg := h.tg hi hc hx (fun e => hne e.symm)
  obtain ⟨hh, hg⟩ := h.hist hi hc he hr
  unfold TG at tg
  simp only [Bool.and_eq_true, Bool.not_eq_true'] at tg
  have t2 := tg.1.1.2
  unfold CNf at t2
  have t3 := List.any_eq_false.1 t2 g (List.mem_range.2 (by rw [cut_ev (by omega)]; exact hg))
  intro y hy e1
  apply t3
  rw [hh, Bool.true_and]
  have hy2 : y ∈ Go.Ev.pre (cutB b (i : Int) (nx i : Int)) g := by rw [pre_cut hg]; exact hy
  exact List.any_eq_true.2 ⟨y, hy2, decide_eq_true e1⟩
theorem PF.cl (h : PF n b nx) {i e f g k : Nat} (hi : i < nEv b) {x c : IV} (hx : x ∈ Go.Ev.pre b i) (hc : c ∈ Go.Ev.pre b i) (hne : asI x ≠ asI c) (he : frm b (asI x) = (e : Int)) (hf : frm b (asI c) = (f : Int)) (hr : Rch b e g) (hk : Rch b f k) (hgk : g ≠ k) : ∀ y ∈ Go.Ev.pre b g, ∀ z ∈ Go.Ev.pre b k, asI y ≠ asI z := by
  have tg := h.tg hi hx hc hne
  obtain ⟨h1, hg⟩ := h.hist hi hx he hr
  obtain ⟨h2, hki⟩ := h.hist hi hc hf hk
  unfold TG at tg
  simp only [Bool.and_eq_true, Bool.not_eq_true'] at tg
  have t2 := tg.2
  intro y hy z hz e1
  have hy2 : y ∈ Go.Ev.pre (cutB b (i : Int) (nx i : Int)) g := by rw [pre_cut hg]; exact hy
  have hz2 : z ∈ Go.Ev.pre (cutB b (i : Int) (nx i : Int)) k := by rw [pre_cut hki]; exact hz
  have : CLf (cutB b (i : Int) (nx i : Int)) (Go.Ev.hist (cutB b (i : Int) (nx i : Int)) (frm (cutB b (i : Int) (nx i : Int)) (asI x))) (Go.Ev.hist (cutB b (i : Int) (nx i : Int)) (frm (cutB b (i : Int) (nx i : Int)) (asI c))) = true := by
    simp only [CLf, List.any_eq_true, Bool.and_eq_true, Bool.not_eq_true', decide_eq_false_iff_not, decide_eq_true_eq, List.mem_range]
    refine ⟨g, by rw [cut_ev (by omega)]; exact hg, k, by rw [cut_ev (by omega)]; exact hki, ⟨⟨hgk, h1⟩, h2⟩, y, hy2, z, hz2, ?_⟩
    first | exact e1 | exact e1.symm
  rw [this] at t2; cases t2
theorem PF.self (h : PF n b nx) : ∀ e, e < nEv b → ∀ g k, Rch b e g → Rch b e k → g ≠ k → ∀ y ∈ Go.Ev.pre b g, ∀ z ∈ Go.Ev.pre b k, asI y ≠ asI z := by
  intro e
  induction e using Nat.strongRecOn with
  | _ e ih =>
    intro he g k hg hk hgk y hy z hz e1
    have one : ∀ {k : Nat}, Rch b e k → k ≠ e → ∃ c ∈ Go.Ev.pre b e, ∃ f : Nat, frm b (asI c) = (f : Int) ∧ f < e ∧ Rch b f k := by
      intro k hk hke
      rcases rch_head.1 hk with h1 | ⟨f, ⟨c, hc, h1⟩, h2⟩
      · exact absurd h1 hke
      · have := FD_pre h.fd he hc
        exact ⟨c, hc, f, h1, by omega, h2⟩
    have own : ∀ {k : Nat}, Rch b e k → k ≠ e → ∀ y ∈ Go.Ev.pre b e, ∀ z ∈ Go.Ev.pre b k, asI y ≠ asI z := by
      intro k hk hke y hy z hz e1
      obtain ⟨c, hc, f, h1, h2, h3⟩ := one hk hke
      by_cases hyc : asI y = asI c
      · have hle := rch_le h.fd (by omega) h3
        have := FD_pre h.fd (i := k) (by omega) hz
        rw [← e1, hyc, h1] at this
        omega
      · exact h.cn he hy hc hyc h1 h3 z hz e1.symm
    by_cases hge : g = e
    · subst hge
      exact own hk (fun e => hgk e.symm) y hy z hz e1
    · by_cases hke : k = e
      · subst hke
        exact own hg hge z hz y hy e1.symm
      · obtain ⟨c, hc, f, h1, h2, h3⟩ := one hg hge
        obtain ⟨d, hd, f2, h4, h5, h6⟩ := one hk hke
        by_cases hcd : asI c = asI d
        · have : f = f2 := by rw [hcd, h4] at h1; omega
          subst this
          exact ih f h2 (by omega) g k h3 h6 hgk y hy z hz e1
        · exact h.cl he hc hd hcd h1 h4 h3 h6 hgk y hy z hz e1
structure LW (b : IV) : Prop where
  fd : FD b = true
  self : ∀ e, e < nEv b → CLf b (hist b (e : Int)) (hist b (e : Int)) = false
  back : ∀ e f, e < nEv b → f < nEv b → f < e → hist b (f : Int) e = false
  one : ∀ e f, e < nEv b → hist b (e : Int) f = true → CLf b (hist b (e : Int)) (hist b (f : Int)) = false
end
end Go.Ev
end
section
set_option linter.unusedVariables false
namespace Go.Ev
def hitL (P : List IV) (c : Nat) : Bool := P.any fun x => decide (c = (asI x).toNat)
def posL (b : IV) (e : Nat) : List IV := asL (fld ((asL (fld b 1)).getD e .N) 2)
def Mk (b : IV) (O : Nat → Bool) (i : Nat) (M : Nat → Bool) : Prop := ∀ c : Nat, c < nCo b → (frm b (c : Int) < 0 ∨ ∃ f : Nat, f < i ∧ O f = true ∧ frm b (c : Int) = (f : Int)) → (∀ g, g < i → O g = true → ∀ x ∈ pre b g, asI x ≠ (c : Int)) → M c = true
section
variable {n b : IV} {nx : Nat → Nat}
theorem PF.mono (h : PF n b nx) : ∀ {a c : Nat}, a ≤ c → c ≤ nEv b → nx a ≤ nx c := by
  intro a c hac hc
  induction c with
  | zero => obtain rfl : a = 0 := by omega
            exact Nat.le_refl _
  | succ c ihc =>
    rcases Nat.eq_or_lt_of_le hac with rfl | hac
    · exact Nat.le_refl _
    · have h1 := (h.s c (by omega)).2
      have := ihc (by omega) (by omega)
      omega
theorem PF.post (h : PF n b nx) {e : Nat} (he : e < nEv b) : ∀ k, k < (posL b e).length → asI ((posL b e).getD k .N) = ((nx e + k : Nat) : Int) ∧ nx e + k < nCo b ∧ frm b ((nx e + k : Nat) : Int) = (e : Int) := by
  obtain ⟨h3, h4⟩ := h.s e he
  obtain ⟨_, h6⟩ := PO_ok (CE_cp h3).2.2
  rw [el_nat] at h6
  intro k hk
  obtain ⟨h7, h8, _, h9⟩ := h6 k hk
  rw [show ((nx e : Nat) : Int) + (k : Int) = ((nx e + k : Nat) : Int) by omega] at h7 h8 h9
  exact ⟨h7, by unfold nCo; omega, h9⟩
theorem PF.from_ (h : PF n b nx) {c e : Nat} (hc : c < nCo b) (hf : frm b (c : Int) = (e : Int)) : e < nEv b ∧ hitL (posL b e) c = true := by
  have hlt := (h.own (nEv b) (Nat.le_refl _)).2 c (by have := h.t; omega)
  have he : e < nEv b := by omega
  refine ⟨he, ?_⟩
  have h1 : nx e ≤ c := by
    apply Nat.le_of_not_lt
    intro hlt
    have := (h.own e (by omega)).2 c hlt
    omega
  have h2 : c < nx (e + 1) := by
    apply Nat.lt_of_not_le
    intro hle
    have key : ∀ j, e + 1 ≤ j → j ≤ nEv b → nx j ≤ c := by
      intro j hj hjn
      induction j with
      | zero => omega
      | succ j ih =>
        by_cases hje : j = e
        · subst hje; exact hle
        · have hj2 := ih (by omega) (by omega)
          apply Nat.le_of_not_lt
          intro hlt
          have h4 := (h.s j (by omega)).2
          have h5 := h.post (e := j) (by omega) (c - nx j) (by unfold posL; omega)
          rw [show nx j + (c - nx j) = c by omega] at h5
          omega
    have := key (nEv b) (by omega) (Nat.le_refl _)
    have := h.t
    omega
  have h4 := (h.s e he).2
  have hk : c - nx e < (posL b e).length := by unfold posL; omega
  refine List.any_eq_true.2 ⟨(posL b e).getD (c - nx e) .N, memD hk, ?_⟩
  have := (h.post he (c - nx e) hk).1
  rw [this]
  simp; omega
structure OC (b : IV) (l : List IV) (O : Nat → Bool) : Prop where
  cl : ∀ e, O e = true → e < nEv b → ∀ x ∈ pre b e, frm b (asI x) < 0 ∨ ∃ f : Nat, f < e ∧ O f = true ∧ frm b (asI x) = (f : Int)
  dj : ∀ g k, O g = true → O k = true → g ≠ k → ∀ y ∈ pre b g, ∀ z ∈ pre b k, asI y ≠ asI z
  st : ∀ x ∈ l, frm b (asI x) < 0 ∨ ∃ f : Nat, f < nEv b ∧ O f = true ∧ frm b (asI x) = (f : Int)
  ne : ∀ x ∈ l, ∀ g, O g = true → ∀ y ∈ pre b g, asI y ≠ asI x
theorem RZ_rise {v : IV} (h : RZ v = false) : ∀ j k, j < k → k < (asL v).length → asI ((asL v).getD j .N) < asI ((asL v).getD k .N) := by
  intro j k hjk hk
  have one : ∀ i, i + 1 < (asL v).length → asI ((asL v).getD i .N) < asI ((asL v).getD (i + 1) .N) := by
    intro i hi
    have := List.any_eq_false.1 h i (List.mem_range.2 (by omega))
    simp only [decide_eq_true_eq] at this
    omega
  induction k with
  | zero => omega
  | succ k ih =>
    by_cases hj : j = k
    · subst hj; exact one j hk
    · have := ih (by omega) (by omega)
      have := one k hk
      omega
end
end Go.Ev
end
section
set_option linter.unusedVariables false
namespace Go.Ev
theorem pig : ∀ {A B : List Int}, A.Nodup → (∀ x ∈ A, x ∈ B) → B.length ≤ A.length → B.Nodup ∧ ∀ x ∈ B, x ∈ A
  | [], B, _, _, h => by
    have : B = [] := List.eq_nil_of_length_eq_zero (by simpa using h)
    subst this; exact ⟨List.nodup_nil, fun x hx => hx⟩
  | a :: A, B, hn, hs, hl => by
    have hn2 := List.nodup_cons.1 hn
    have haB := hs a (List.mem_cons_self ..)
    have hp := List.perm_cons_erase haB
    have hle : (B.erase a).length = B.length - 1 := List.length_erase_of_mem haB
    obtain ⟨h1, h2⟩ := pig (A := A) (B := B.erase a) hn2.2 (fun x hx => (List.mem_erase_of_ne (by rintro rfl; exact hn2.1 hx)).2 (hs x (List.mem_cons_of_mem _ hx))) (by rw [hle]; simp only [List.length_cons] at hl; omega)
    have hna : a ∉ B.erase a := fun h => hn2.1 (h2 a h)
    refine ⟨hp.nodup_iff.2 (List.nodup_cons.2 ⟨hna, h1⟩), fun x hx => ?_⟩
    rcases List.mem_cons.1 (hp.mem_iff.1 hx) with rfl | hx
    · exact List.mem_cons_self ..
    · exact List.mem_cons_of_mem _ (h2 x hx)
def plc (b : IV) (l : List IV) : List Int := l.map fun x => asI (fld (el (asL (fld b 0)) (asI x)) 0)
theorem met_iff {n b e : IV} (hI : ∀ y ∈ insL n e, 0 ≤ asI y) : ∀ {l : List IV} {S : Nat → Bool}, (∃ T, foldS (metS n b e) S l = .stop T) ↔ ((∀ p ∈ plc b l, ∃ y ∈ insL n e, asI y = p) ∧ (plc b l).Nodup ∧ ∀ p ∈ plc b l, S p.toNat = false)
  | [], S => by simp [foldS, plc]
  | x :: l, S => by
    obtain ⟨p, hp⟩ : ∃ p, p = asI (fld (el (asL (fld b 0)) (asI x)) 0) := ⟨_, rfl⟩
    have hpl : plc b (x :: l) = p :: plc b l := by rw [hp]; rfl
    rw [hpl]
    simp only [foldS, metS, ← hp]
    by_cases h1 : ((insL n e).any fun y => decide (asI y = p)) = true
    · rw [if_pos h1]
      obtain ⟨y, hy, hyp⟩ := List.any_eq_true.1 h1
      have hyp := of_decide_eq_true hyp
      have hp0 : 0 ≤ p := hyp ▸ hI y hy
      by_cases h2 : S p.toNat = true
      · rw [if_pos h2]
        constructor
        · rintro ⟨T, h⟩; cases h
        · rintro ⟨_, _, h⟩; have := h p (List.mem_cons_self ..); rw [h2] at this; cases this
      · rw [if_neg h2]
        have ih := met_iff (b := b) hI (l := l) (S := fun g => S g || decide (g = p.toNat))
        constructor
        · intro h
          obtain ⟨k1, k2, k3⟩ := ih.1 h
          refine ⟨fun q hq => ?_, ?_, fun q hq => ?_⟩
          · rcases List.mem_cons.1 hq with rfl | hq
            · exact ⟨y, hy, hyp⟩
            · exact k1 q hq
          · refine List.nodup_cons.2 ⟨fun hm => ?_, k2⟩
            have := k3 p hm
            simp at this
          · rcases List.mem_cons.1 hq with rfl | hq
            · simpa using h2
            · have := k3 q hq
              simp only [Bool.or_eq_false_iff] at this
              exact this.1
        · rintro ⟨k1, k2, k3⟩
          refine ih.2 ⟨fun q hq => k1 q (List.mem_cons_of_mem _ hq), (List.nodup_cons.1 k2).2, fun q hq => ?_⟩
          have h3 := k3 q (List.mem_cons_of_mem _ hq)
          obtain ⟨z, hz, hzq⟩ := k1 q (List.mem_cons_of_mem _ hq)
          have hq0 : 0 ≤ q := hzq ▸ hI z hz
          have hne : q ≠ p := fun e => (List.nodup_cons.1 k2).1 (e ▸ hq)
          simp only [h3, Bool.false_or, decide_eq_false_iff_not]
          omega
    · rw [if_neg h1]
      constructor
      · rintro ⟨T, h⟩; cases h
      · rintro ⟨k1, _, _⟩
        obtain ⟨y, hy, hyp⟩ := k1 p (List.mem_cons_self ..)
        exact absurd (List.any_eq_true.2 ⟨y, hy, decide_eq_true hyp⟩) h1
def rfit (b : IV) (P l : List IV) : Bool := decide (P.length = l.length) && !((List.range P.length).any fun i => !(l.any fun x => decide (asI (fld (el (asL (fld b 0)) (asI x)) 0) = asI (fld (P.getD i .N) 0))))
theorem rfit_iff {n b e : IV} (hI : ∀ y ∈ insL n e, 0 ≤ asI y) (hd : ((insL n e).map asI).Nodup) {P : List IV} (hP : insL n e = tgs (.L P) P.length) {l : List IV} (hl : l.length = (insL n e).length) :
    rfit b P l = true ↔ ∃ T, foldS (metS n b e) (fun _ => false) l = .stop T := by
  rw [met_iff hI]
  have hlen : P.length = l.length := by rw [hl, hP, tgs_len]
  have hmem : ∀ q, q ∈ (insL n e).map asI ↔ ∃ i, i < P.length ∧ q = asI (fld (P.getD i .N) 0) := by
    intro q
    rw [hP]
    simp only [tgs, List.map_map, List.mem_map, List.mem_range, Function.comp_apply]
    constructor
    · rintro ⟨i, hi, rfl⟩; exact ⟨i, hi, rfl⟩
    · rintro ⟨i, hi, rfl⟩; exact ⟨i, hi, rfl⟩
  have e1 : rfit b P l = true ↔ ∀ q ∈ (insL n e).map asI, q ∈ plc b l := by
    unfold rfit
    rw [decide_eq_true hlen, Bool.true_and, Bool.not_eq_true', List.any_eq_false]
    constructor
    · intro h q hq
      obtain ⟨i, hi, rfl⟩ := (hmem q).1 hq
      have h2 := h i (List.mem_range.2 hi)
      cases hv : l.any fun x => decide (asI (fld (el (asL (fld b 0)) (asI x)) 0) = asI (fld (P.getD i .N) 0)) with
      | false => rw [hv] at h2; exact absurd rfl h2
      | true =>
        obtain ⟨x, hx, hxe⟩ := List.any_eq_true.1 hv
        exact List.mem_map.2 ⟨x, hx, of_decide_eq_true hxe⟩
    · intro h i hi
      obtain ⟨x, hx, hxe⟩ := List.mem_map.1 (h _ ((hmem _).2 ⟨i, List.mem_range.1 hi, rfl⟩))
      have : (l.any fun x => decide (asI (fld (el (asL (fld b 0)) (asI x)) 0) = asI (fld (P.getD i .N) 0))) = true := List.any_eq_true.2 ⟨x, hx, decide_eq_true hxe⟩
      rw [this]; simp
  rw [e1]
  have hc : ((insL n e).map asI).length = (plc b l).length := by simp [plc, hl]
  constructor
  · intro h
    obtain ⟨k1, k2⟩ := pig hd h (by omega)
    refine ⟨fun p hp => ?_, k1, fun _ _ => rfl⟩
    obtain ⟨y, hy, hye⟩ := List.mem_map.1 (k2 p hp)
    exact ⟨y, hy, hye⟩
  · rintro ⟨k1, k2, _⟩
    exact (pig k2 (fun p hp => by obtain ⟨y, hy, hye⟩ := k1 p hp; exact List.mem_map.2 ⟨y, hy, hye⟩) (by omega)).2
end Go.Ev
end
section
set_option linter.unusedVariables false
namespace Go.Ev
theorem foldl_orb {p : IV → Bool} : ∀ {l : List IV} {a : Bool}, l.foldl (fun a x => a || p x) a = (a || l.any p)
  | [], a => by simp
  | x :: l, a => by rw [List.foldl_cons, foldl_orb]; simp [Bool.or_assoc]
def lst (b : IV) (m : Nat) (t : Int) (l : IV) : Bool := (List.range m).any fun e => decide (asI (fld ((asL (fld b 1)).getD e .N) 0) = t) && SM (fld ((asL (fld b 1)).getD e .N) 1) l
theorem lst_KN {b : IV} {m : Nat} {t next : Int} {l : IV} (hm : m ≤ (asL (fld b 1)).length) : lst b m t l = KN (cutB b (m : Int) next) t l := by
  unfold lst KN
  rw [cutB_1, Int.toNat_natCast, ← any_range]
  rw [Bool.eq_iff_iff, List.any_eq_true, List.any_eq_true]
  have hl : ((asL (fld b 1)).take m).length = m := by rw [List.length_take]; omega
  rw [hl]
  constructor
  · rintro ⟨e, he, h⟩
    exact ⟨e, he, by rw [take_get (List.mem_range.1 he)]; exact h⟩
  · rintro ⟨e, he, h⟩
    exact ⟨e, he, by rw [take_get (List.mem_range.1 he)] at h; exact h⟩
end Go.Ev
end
section
set_option linter.unusedVariables false
namespace Go.Ev
structure RG (n : IV) : Prop where
  ne : ∀ t ∈ asL (fld n 2), (asL (fld t 1)).length ≠ 0
  nd : ∀ t ∈ asL (fld n 2), ((tgs (fld t 1) (asL (fld t 1)).length).map asI).Nodup
theorem AR_rise {l : IV} {m : Int} (h : AR l m = 0) : ∀ i, i + 1 < (asL l).length → asI (fld ((asL l).getD i .N) 0) < asI (fld ((asL l).getD (i + 1) .N) 0) := by
  unfold AR at h
  cases hf : foldS (arS l m) () (List.range (asL l).length) with
  | next r => exact absurd hf fold_no_next
  | ret r =>
    rw [hf] at h
    have : r ≠ 0 := fold_ret (P := fun r => r ≠ 0) (fun a x r hr => by
      unfold arS at hr
      split at hr
      · cases hr; decide
      · split at hr
        · cases hr; decide
        · split at hr
          · cases hr; decide
          · cases hr) hf
    exact absurd h this
  | stop r =>
    have hall := fold_all hf (fun x hx r => by unfold arS; split <;> (try split) <;> (try split) <;> simp)
    intro i hi
    have := hall (i + 1) (List.mem_range.2 hi)
    unfold arS at this
    split at this
    · cases this
    · split at this
      · cases this
      · rename_i hc
        simp only [Nat.add_sub_cancel] at hc
        omega
theorem rise_all {f : Nat → Int} {n : Nat} (h : ∀ i, i + 1 < n → f i < f (i + 1)) : ∀ j k, j < k → k < n → f j < f k := by
  intro j k hjk hk
  induction k with
  | zero => omega
  | succ k ih =>
    have h1 := h k hk
    by_cases hj : j = k
    · subst hj; exact h1
    · have := ih (by omega) (by omega); omega
theorem rg_of {n : IV} (hi : IE n = 0) : RG n := by
  obtain ⟨h1, _, _, h4⟩ := IE_NC hi
  refine ⟨h4, fun t ht => ?_⟩
  obtain ⟨i, hi2, rfl⟩ := List.getElem_of_mem ht
  have := NC_tr h1 i hi2
  unfold trS at this
  have e : (asL (fld n 2)).getD i .N = (asL (fld n 2))[i] := by simp [List.getD, hi2]
  rw [e] at this
  split at this
  · unfold TR at this
    split at this
    · cases this
    · split at this
      · rename_i ha
        have hr2 := rise_all (n := (asL (fld (asL (fld n 2))[i] 1)).length) (AR_rise ha)
        unfold tgs
        rw [List.map_map]
        refine List.pairwise_map.2 (List.Pairwise.imp_of_mem (R := fun a b => a < b) (fun {a b} ha hb hab => ?_) List.pairwise_lt_range)
        have h5 := hr2 a b hab (List.mem_range.1 hb)
        show asI _ ≠ asI _
        simp only [asI]
        exact fun h => absurd h5 (by rw [show (asI (fld ((asL (fld (asL (fld n 2))[i] 1)).getD a .N) 0)) = asI (fld ((asL (fld (asL (fld n 2))[i] 1)).getD b .N) 0) from h]; omega)
      · rename_i ha; exact absurd this ha
  · rename_i ha; exact absurd this ha
theorem any_eq {α : Type} {p q : α → Bool} : ∀ {l : List α}, (∀ x ∈ l, p x = q x) → l.any p = l.any q
  | [], _ => rfl
  | x :: l, h => by rw [List.any_cons, List.any_cons, h x (List.mem_cons_self ..), any_eq (fun y hy => h y (List.mem_cons_of_mem _ hy))]
theorem rfit_cut {b : IV} {P l : List IV} {i m : Nat} (hl : ∀ x ∈ l, 0 ≤ asI x ∧ asI x < (m : Int)) : rfit (cutB b (i : Int) (m : Int)) P l = rfit b P l := by
  unfold rfit
  congr 2
  apply any_eq
  intro k _
  congr 1
  apply any_eq
  intro x hx
  have hx2 := hl x hx
  have e : el (asL (fld (cutB b (i : Int) (m : Int)) 0)) (asI x) = el (asL (fld b 0)) (asI x) := by
    show el ((asL (fld b 0)).take (m : Int).toNat) (asI x) = _
    unfold el
    rw [Int.toNat_natCast, take_get (by omega)]
  rw [e]
def tE (b : IV) (i : Nat) : Int := asI (fld ((asL (fld b 1)).getD i .N) 0)
def pE (b : IV) (i : Nat) : IV := fld ((asL (fld b 1)).getD i .N) 1
theorem CE_1 {n b : IV} {i : Nat} {m : Int} (h : tE b i < 0 ∨ ((asL (fld n 2)).length : Int) ≤ tE b i) : CE n b (i : Int) m = 1 := by
  unfold CE; rw [el_nat]; exact if_pos h
theorem CE_eq {n b : IV} {i m : Nat} (hi : i ≤ (asL (fld b 1)).length) (hm : m ≤ (asL (fld b 0)).length) (hg : NG n) (hr : RG n) (h0 : 0 ≤ tE b i) (h1 : tE b i < ((asL (fld n 2)).length : Int)) :
    CE n b (i : Int) (m : Int) = if (asL (pE b i)).length = (asL (fld (el (asL (fld n 2)) (tE b i)) 1)).length then (if RZ (pE b i) = true then 8 else if ((asL (pE b i)).any fun x => decide (asI x < 0 ∨ (m : Int) ≤ asI x)) = true then 7 else if rfit b (asL (fld (el (asL (fld n 2)) (tE b i)) 1)) (asL (pE b i)) = true then (if CS (cutB b (i : Int) (m : Int)) (pE b i) = true then (if lst b i (tE b i) (pE b i) = true then 6 else PO n b (i : Int) (m : Int)) else 15) else 17) else 2 := by
  have ht : el (asL (fld n 2)) (tE b i) ∈ asL (fld n 2) := el_mem h0 h1
  have hI : ∀ y ∈ insL n ((asL (fld b 1)).getD i .N), 0 ≤ asI y := fun y hy => (hg.in1 h0 h1 y hy).1
  have hlen : (insL n ((asL (fld b 1)).getD i .N)).length = (asL (fld (el (asL (fld n 2)) (tE b i)) 1)).length := tgs_len
  have hcl : (asL (fld (cutB b (i : Int) (m : Int)) 0)).length = m := by
    show ((asL (fld b 0)).take (m : Int).toNat).length = m
    rw [List.length_take, Int.toNat_natCast]; omega
  unfold CE
  rw [el_nat, if_neg (by show ¬(tE b i < 0 ∨ _ ≤ tE b i); omega)]
  unfold CP
  rw [hlen, hcl]
  by_cases c1 : (asL (pE b i)).length = (asL (fld (el (asL (fld n 2)) (tE b i)) 1)).length
  · rw [if_pos c1, if_pos (show (asL (fld ((asL (fld b 1)).getD i .N) 1)).length = _ from c1)]
    by_cases c2 : RZ (pE b i) = true
    · rw [if_pos c2, if_pos (show RZ (fld ((asL (fld b 1)).getD i .N) 1) = true from c2)]; rfl
    · rw [if_neg c2, if_neg (show ¬RZ (fld ((asL (fld b 1)).getD i .N) 1) = true from c2)]
      by_cases c3 : ((asL (pE b i)).any fun x => decide (asI x < 0 ∨ (m : Int) ≤ asI x)) = true
      · rw [if_pos c3, if_pos (show ((asL (fld ((asL (fld b 1)).getD i .N) 1)).any _) = true from c3)]; rfl
      · rw [if_neg c3, if_neg (show ¬((asL (fld ((asL (fld b 1)).getD i .N) 1)).any _) = true from c3)]
        have hin : ∀ x ∈ asL (pE b i), 0 ≤ asI x ∧ asI x < (m : Int) := by
          intro x hx
          have := List.any_eq_false.1 (Bool.eq_false_iff.2 c3) x hx
          simp only [decide_eq_true_eq] at this
          omega
        have hf := rfit_iff (n := n) (b := cutB b (i : Int) (m : Int)) (e := (asL (fld b 1)).getD i .N) hI (hr.nd _ ht) (P := asL (fld (el (asL (fld n 2)) (tE b i)) 1)) (by
          show tgs _ _ = tgs _ _
          unfold tgs
          rfl) (l := asL (pE b i)) (by rw [hlen]; exact c1)
        rw [rfit_cut hin] at hf
        unfold CP2
        by_cases c4 : rfit b (asL (fld (el (asL (fld n 2)) (tE b i)) 1)) (asL (pE b i)) = true
        · rw [if_pos c4]
          obtain ⟨S, hS⟩ := hf.1 c4
          rw [show foldS (metS n (cutB b (i : Int) (m : Int)) ((asL (fld b 1)).getD i .N)) (fun _ => false) (asL (fld ((asL (fld b 1)).getD i .N) 1)) = .stop S from hS]
          by_cases c5 : CS (cutB b (i : Int) (m : Int)) (pE b i) = true
          · rw [if_pos c5]
            simp only [show CS (cutB b (i : Int) (m : Int)) (fld ((asL (fld b 1)).getD i .N) 1) = true from c5, if_true]
            rw [lst_KN hi (next := (m : Int))]
            by_cases c6 : KN (cutB b (i : Int) (m : Int)) (tE b i) (pE b i) = true
            · simp only [show KN (cutB b (i : Int) (m : Int)) (asI (fld ((asL (fld b 1)).getD i .N) 0)) (fld ((asL (fld b 1)).getD i .N) 1) = true from c6, c6, if_true]; rfl
            · have c7 : KN (cutB b (i : Int) (m : Int)) (tE b i) (pE b i) = false := by simpa using c6
              simp only [show KN (cutB b (i : Int) (m : Int)) (asI (fld ((asL (fld b 1)).getD i .N) 0)) (fld ((asL (fld b 1)).getD i .N) 1) = false from c7, c7, Bool.false_eq_true, if_false, if_true]
          · have c6 : CS (cutB b (i : Int) (m : Int)) (pE b i) = false := by simpa using c5
            rw [if_neg c5]
            simp only [show CS (cutB b (i : Int) (m : Int)) (fld ((asL (fld b 1)).getD i .N) 1) = false from c6, Bool.false_eq_true, if_false]; rfl
        · rw [if_neg c4]
          cases hS : foldS (metS n (cutB b (i : Int) (m : Int)) ((asL (fld b 1)).getD i .N)) (fun _ => false) (asL (fld ((asL (fld b 1)).getD i .N) 1)) with
          | ret r => rfl
          | stop S => exact absurd (hf.2 ⟨S, hS⟩) c4
          | next S => exact absurd hS fold_no_next
  · rw [if_neg c1, if_neg (show ¬(asL (fld ((asL (fld b 1)).getD i .N) 1)).length = _ from c1)]; rfl
theorem rz_range {v : IV} {m : Int} (h : RZ v = false) (hl : (asL v).length ≠ 0) : ((asL v).any fun x => decide (asI x < 0 ∨ m ≤ asI x)) = true ↔ asI ((asL v).getD 0 .N) < 0 ∨ m ≤ asI ((asL v).getD ((asL v).length - 1) .N) := by
  have hr := RZ_rise h
  constructor
  · intro ha
    obtain ⟨x, hx, h2⟩ := List.any_eq_true.1 ha
    have h2 := of_decide_eq_true h2
    obtain ⟨k, hk, rfl⟩ := List.getElem_of_mem hx
    have e : (asL v).getD k .N = (asL v)[k] := by simp [List.getD, hk]
    rw [← e] at h2
    rcases h2 with h2 | h2
    · left
      by_cases h0 : k = 0
      · subst h0; exact h2
      · have := hr 0 k (by omega) hk; omega
    · right
      by_cases h0 : k = (asL v).length - 1
      · rw [← h0]; exact h2
      · have := hr k ((asL v).length - 1) (by omega) (by omega); omega
  · rintro (h2 | h2)
    · exact List.any_eq_true.2 ⟨_, memD (i := 0) (by omega), decide_eq_true (.inl h2)⟩
    · exact List.any_eq_true.2 ⟨_, memD (i := (asL v).length - 1) (by omega), decide_eq_true (.inr h2)⟩
def outP : Stp Unit Bool → Int | .ret _ => 7 | _ => 0
theorem outP_ret {r : Bool} : outP (.ret r) = 7 := (rfl)
theorem outP_stop {a : Unit} : outP (.stop a) = 0 := (rfl)
attribute [go_sem] outP_ret outP_stop
theorem PO_fold {n b : IV} {i : Nat} {m : Int} (h : (asL (fld ((asL (fld b 1)).getD i .N) 2)).length = (asL (fld (el (asL (fld n 2)) (tE b i)) 2)).length) : PO n b (i : Int) m = outP (foldS (poS n b (i : Int) m) () (List.range (asL (fld ((asL (fld b 1)).getD i .N) 2)).length)) := by
  unfold PO
  rw [el_nat, if_pos (by unfold outs; rw [tgs_len, el_nat]; exact h)]
  cases foldS (poS n b (i : Int) m) () (List.range (asL (fld ((asL (fld b 1)).getD i .N) 2)).length) <;> rfl
theorem PO_len {n b : IV} {i : Nat} {m : Int} (h : ¬(asL (fld ((asL (fld b 1)).getD i .N) 2)).length = (asL (fld (el (asL (fld n 2)) (tE b i)) 2)).length) : PO n b (i : Int) m = 7 := by
  unfold PO
  rw [el_nat, if_neg (by unfold outs; rw [tgs_len, el_nat]; exact h)]
theorem cutB_eqn {b : IV} {i m : Nat} : IV.A [.L ((asL (fld b 0)).take m), .L ((asL (fld b 1)).take i)] = cutB b (i : Int) (m : Int) := (rfl)
end Go.Ev
end
section
set_option linter.unusedVariables false
namespace Go.Ev
theorem tgs_get {l : IV} {n i : Nat} (h : i < n) : (tgs l n).getD i .N = .I (asI (fld ((asL l).getD i .N) 0)) := by simp [tgs, List.getD, h]
end Go.Ev
end
section
set_option linter.unusedVariables false
namespace Go.Ev
theorem cpy_eq {l : IV} (h : ∀ x ∈ asL l, ∃ n, x = .I n) : cpy l (asL l).length = asL l := by
  apply List.ext_getElem?
  intro i
  simp only [cpy, List.getElem?_map]
  by_cases hi : i < (asL l).length
  · rw [List.getElem?_range hi, List.getElem?_eq_getElem hi]
    obtain ⟨n, hn⟩ := h _ (List.getElem_mem hi)
    simp only [Option.map_some, List.getD, List.getElem?_eq_getElem hi, Option.getD_some]
    rw [hn]; rfl
  · rw [List.getElem?_eq_none (by simpa using hi), List.getElem?_eq_none (by omega)]; rfl
end Go.Ev
end
section
set_option linter.unusedVariables false
namespace Go.Ev
noncomputable def good (b : IV) (l : List IV) (c : Nat) : Bool := l.all fun x => TG b (asI x) (c : Int)
noncomputable def chs (b p : IV) (t : Int) : Nat → List IV → Nat → List IV
  | 0, l, _ => if (rfit b (asL p) l && !lst b (asL (fld b 1)).length t (.L l)) = true then [.L l] else []
  | r + 1, l, fr => (List.range ((asL (fld b 0)).length - fr)).flatMap fun j => if wgt p (plo b (fr + j)) = 0 then [] else if good b l (fr + j) = true then chs b p t r (l ++ [.I ((fr + j : Nat) : Int)]) (fr + j + 1) else []
noncomputable def chx (b p : IV) (t : Int) (r : Nat) (l : List IV) (c : Nat) : List IV := if wgt p (plo b c) = 0 then [] else if good b l c = true then chs b p t r (l ++ [.I (c : Int)]) (c + 1) else []
noncomputable def chp (b p : IV) (t : Int) (r : Nat) (l : List IV) (fr i : Nat) : List IV := (List.range i).flatMap fun j => chx b p t r l (fr + j)
theorem chp_zero {b p : IV} {t : Int} {r : Nat} {l : List IV} {fr : Nat} : chp b p t r l fr 0 = [] := (rfl)
theorem chp_succ {b p : IV} {t : Int} {r : Nat} {l : List IV} {fr i : Nat} : chp b p t r l fr (i + 1) = chp b p t r l fr i ++ chx b p t r l (fr + i) := by simp [chp, List.range_succ, List.flatMap_append]
theorem chs_zero {b p : IV} {t : Int} {l : List IV} {fr : Nat} : chs b p t 0 l fr = if (rfit b (asL p) l && !lst b (asL (fld b 1)).length t (.L l)) = true then [.L l] else [] := (rfl)
theorem chs_succ {b p : IV} {t : Int} {r : Nat} {l : List IV} {fr : Nat} : chs b p t (r + 1) l fr = chp b p t r l fr ((asL (fld b 0)).length - fr) := (rfl)
theorem chx_w {b p : IV} {t : Int} {r : Nat} {l : List IV} {c : Nat} (h : wgt p (plo b c) = 0) : chx b p t r l c = [] := if_pos h
theorem chx_n {b p : IV} {t : Int} {r : Nat} {l : List IV} {c : Nat} (h : good b l c = false) : chx b p t r l c = [] := by
  unfold chx; split
  · rfl
  · rw [h]; rfl
theorem chx_y {b p : IV} {t : Int} {r : Nat} {l : List IV} {c : Nat} (h1 : ¬wgt p (plo b c) = 0) (h2 : good b l c = true) : chx b p t r l c = chs b p t r (l ++ [.I (c : Int)]) (c + 1) := by
  unfold chx; rw [if_neg h1, if_pos h2]
attribute [go_sem] chp_zero
def chF (b p : IV) (t : Int) : Nat → List IV → Bool
  | 0, l => rfit b (asL p) l && !lst b (asL (fld b 1)).length t (.L l)
  | _ + 1, _ => false
def chR (c : Bool) (l : List IV) : R1 := if c = true then .at (.iv 2 44 (.L l)) else .own 2 46 l
theorem chR_t {l : List IV} : chR true l = .at (.iv 2 44 (.L l)) := (rfl)
theorem chR_f {l : List IV} : chR false l = .own 2 46 l := (rfl)
theorem chF_zero {b p : IV} {t : Int} {l : List IV} : chF b p t 0 l = (rfit b (asL p) l && !lst b (asL (fld b 1)).length t (.L l)) := (rfl)
theorem chF_succ {b p : IV} {t : Int} {r : Nat} {l : List IV} : chF b p t (r + 1) l = false := (rfl)
theorem place_chR {T : Tab} {st : St} {d : Option Tmp} {c : Bool} {l : List IV} : st.placeV T none d 44 (.one (chR c l)) = some (st.set d (.v (.a (.iv 2 44 (.L l))))) := by
  cases c
  · rw [chR_f]; cases d <;> rfl
  · rw [chR_t]; cases d <;> rfl
theorem frozen_chR {c : Bool} {l : List IV} : (match chR c l with | .at x => x | .own p _ l => .iv p 44 (.L l)) = At.iv 2 44 (.L l) := by
  cases c <;> rfl
attribute [go_sem] chR_t chR_f place_chR frozen_chR
def bn : Nat → Nat → Nat
  | _, 0 => 1
  | 0, _ + 1 => 0
  | n + 1, r + 1 => bn n r + bn n (r + 1)
theorem bn_zero {n : Nat} : bn n 0 = 1 := by cases n <;> rfl
theorem bn_mono : ∀ {n r : Nat}, bn n r ≤ bn (n + 1) r
  | n, 0 => by rw [bn_zero, bn_zero]; exact Nat.le_refl _
  | n, r + 1 => by show bn n (r + 1) ≤ bn n r + bn n (r + 1); omega
theorem bn_le {n m r : Nat} (h : n ≤ m) : bn n r ≤ bn m r := by
  induction h with
  | refl => exact Nat.le_refl _
  | step _ ih => exact Nat.le_trans ih bn_mono
theorem chp_len {b p : IV} {t : Int} {r : Nat} (hs : ∀ l fr, (chs b p t r l fr).length ≤ bn ((asL (fld b 0)).length - fr) r) {l : List IV} {fr : Nat} : ∀ i, i ≤ (asL (fld b 0)).length - fr → (chp b p t r l fr i).length + bn ((asL (fld b 0)).length - fr - i) (r + 1) ≤ bn ((asL (fld b 0)).length - fr) (r + 1)
  | 0, _ => by simp [chp]
  | i + 1, hi => by
    have ih := chp_len hs (l := l) (fr := fr) i (by omega)
    rw [chp_succ, List.length_append]
    obtain ⟨m, hm⟩ : ∃ m, (asL (fld b 0)).length - fr - i = m + 1 := ⟨(asL (fld b 0)).length - fr - i - 1, by omega⟩
    have hm2 : (asL (fld b 0)).length - fr - (i + 1) = m := by omega
    have hm3 : (asL (fld b 0)).length - (fr + i + 1) = m := by omega
    rw [hm] at ih
    rw [hm2]
    have hx : (chx b p t r l (fr + i)).length ≤ bn m r := by
      unfold chx
      split
      · exact Nat.zero_le _
      · split
        · have := hs (l ++ [.I ((fr + i : Nat) : Int)]) (fr + i + 1)
          rwa [hm3] at this
        · exact Nat.zero_le _
    have e : bn (m + 1) (r + 1) = bn m r + bn m (r + 1) := rfl
    omega
theorem chs_len {b p : IV} {t : Int} : ∀ {r : Nat} (l : List IV) (fr : Nat), (chs b p t r l fr).length ≤ bn ((asL (fld b 0)).length - fr) r
  | 0, l, fr => by
    rw [bn_zero]; unfold chs; split <;> simp
  | r + 1, l, fr => by
    rw [chs_succ]
    have := chp_len (p := p) (t := t) (l := l) (fun l fr => chs_len (r := r) l fr) (fr := fr) ((asL (fld b 0)).length - fr) (Nat.le_refl _)
    omega
def pas : Nat → List Nat
  | 0 => [1, 0, 0, 0, 0, 0, 0]
  | n + 1 => match pas n with
    | [a, b, c, d, e, f, g] => [a, a + b, b + c, c + d, d + e, e + f, f + g]
    | _ => []
theorem pas_eq : ∀ {n : Nat}, pas n = [bn n 0, bn n 1, bn n 2, bn n 3, bn n 4, bn n 5, bn n 6]
  | 0 => rfl
  | n + 1 => by
    unfold pas
    rw [pas_eq]
    have e1 : bn (n + 1) 1 = 1 + bn n 1 := by rw [show bn (n + 1) 1 = bn n 0 + bn n 1 from rfl, bn_zero]
    simp only [bn_zero, e1]
    rfl
theorem pas_24 : pas 24 = [1, 24, 276, 2024, 10626, 42504, 134596] := by decide +kernel
theorem bn_small {n r : Nat} (hn : n ≤ 24) (hr : r ≤ 6) : bn n r ≤ 134596 := by
  refine Nat.le_trans (bn_le hn) ?_
  have h := pas_24
  rw [pas_eq] at h
  simp only [List.cons.injEq, and_true] at h
  obtain ⟨h0, h1, h2, h3, h4, h5, h6⟩ := h
  have : r = 0 ∨ r = 1 ∨ r = 2 ∨ r = 3 ∨ r = 4 ∨ r = 5 ∨ r = 6 := by omega
  rcases this with rfl | rfl | rfl | rfl | rfl | rfl | rfl <;> omega
theorem chs_small {b p : IV} {t : Int} {r : Nat} {l : List IV} {fr : Nat} (hc : (asL (fld b 0)).length ≤ 24) (hr : r ≤ 6) : (chs b p t r l fr).length ≤ 134596 := Nat.le_trans (chs_len l fr) (bn_small (by omega) hr)
theorem chp_small {b p : IV} {t : Int} {r : Nat} {l : List IV} {fr i : Nat} (hc : (asL (fld b 0)).length ≤ 24) (hr : r + 1 ≤ 6) (hi : i ≤ (asL (fld b 0)).length - fr) : (chp b p t r l fr i).length ≤ 134596 := by
  have h1 := chp_len (p := p) (t := t) (l := l) (fun l fr => chs_len (r := r) l fr) i hi
  have h2 := bn_small (n := (asL (fld b 0)).length - fr) (r := r + 1) (by omega) hr
  omega
theorem foldl_andb {p : IV → Bool} : ∀ {l : List IV} {a : Bool}, l.foldl (fun a x => a && p x) a = (a && l.all p)
  | [], a => by simp
  | x :: l, a => by rw [List.foldl_cons, foldl_andb]; simp [Bool.and_assoc]
end Go.Ev
end
section
set_option linter.unusedVariables false
namespace Go.Ev
def bt (s : ByteArray) (i : Nat) : Nat := if h : i < s.size then (s[i]'h).toNat else 0
theorem bt_get {s : ByteArray} {i : Nat} (h : i < s.size) : ∃ b : UInt8, s[i]? = some b ∧ b.toNat = bt s i := ⟨s[i]'h, by simp [h], by simp [bt, h]⟩
theorem nm_step {s : ByteArray} {i : Nat} (h : i < s.size) : nmOk (Utf8.decode s i).1 i = nmOk (bt s i) i ∧ (nmOk (bt s i) i = true → (Utf8.decode s i).2 = 1) := by
  have hb : bt s i = (s[i]'h).toNat := by simp [bt, h]
  by_cases ha : (s[i]'h).toNat < 128
  · rw [decode_ascii s i h ha, hb]; exact ⟨rfl, fun _ => rfl⟩
  · have h1 := decode_high s i h (by omega)
    have e1 : nmOk (bt s i) i = false := by rw [hb]; unfold nmOk; exact decide_eq_false (by omega)
    have e2 : nmOk (Utf8.decode s i).1 i = false := by unfold nmOk; exact decide_eq_false (by omega)
    rw [e1, e2]; exact ⟨rfl, fun h => by cases h⟩
theorem nmL_bytes {s : ByteArray} : ∀ {b i : Nat}, s.size ≤ i + b → nmL s b i = !((List.range s.size).any fun j => decide (i ≤ j) && !nmOk (bt s j) j)
  | 0, i, h => by
    have : ((List.range s.size).any fun j => decide (i ≤ j) && !nmOk (bt s j) j) = false := by
      rw [List.any_eq_false]; intro j hj
      have := List.mem_range.1 hj
      have : decide (i ≤ j) = false := decide_eq_false (by omega)
      rw [this]; simp
    rw [this]; rfl
  | b + 1, i, h => by
    unfold nmL
    by_cases hi : i < s.size
    · rw [if_pos hi]
      obtain ⟨h1, h2⟩ := nm_step hi
      rw [h1]
      cases ho : nmOk (bt s i) i with
      | false =>
        rw [if_neg (by simp)]
        have : ((List.range s.size).any fun j => decide (i ≤ j) && !nmOk (bt s j) j) = true := List.any_eq_true.2 ⟨i, List.mem_range.2 hi, by simp [ho]⟩
        rw [this]; rfl
      | true =>
        rw [if_pos rfl, h2 ho, nmL_bytes (by omega)]
        congr 1
        rw [Bool.eq_iff_iff, List.any_eq_true, List.any_eq_true]
        constructor
        · rintro ⟨j, hj, hh⟩
          simp only [Bool.and_eq_true, decide_eq_true_eq, Bool.not_eq_true'] at hh
          exact ⟨j, hj, by simp only [Bool.and_eq_true, decide_eq_true_eq, Bool.not_eq_true']; exact ⟨by omega, hh.2⟩⟩
        · rintro ⟨j, hj, hh⟩
          simp only [Bool.and_eq_true, decide_eq_true_eq, Bool.not_eq_true'] at hh
          have : j ≠ i := fun e => by rw [e, ho] at hh; cases hh.2
          exact ⟨j, hj, by simp only [Bool.and_eq_true, decide_eq_true_eq, Bool.not_eq_true']; exact ⟨by omega, hh.2⟩⟩
    · rw [if_neg hi]
      have : ((List.range s.size).any fun j => decide (i ≤ j) && !nmOk (bt s j) j) = false := by
        rw [List.any_eq_false]; intro j hj
        have := List.mem_range.1 hj
        have : decide (i ≤ j) = false := decide_eq_false (by omega)
        rw [this]; simp
      rw [this]; rfl
theorem nmB_bytes {s : ByteArray} : nmB s = if s.size < 1 ∨ 16 < s.size then false else !((List.range s.size).any fun j => !nmOk (bt s j) j) := by
  unfold nmB
  split
  · rfl
  · rw [nmL_bytes (by omega)]; simp
theorem nms_any {l : IV} {i : Nat} {s : ByteArray} : ((nms l i).any fun x => asS x == s) = (List.range i).any fun k => asS (fld ((asL l).getD k .N) 0) == s := by
  simp [nms, List.any_map, asS, Function.comp_def]
end Go.Ev
end
section
set_option linter.unusedSimpArgs false
set_option linter.unusedVariables false
set_option maxRecDepth 100000
set_option maxHeartbeats 4000000
namespace Go.Proofs.Ytficdonjodadlaa
open Go.Ev Go.Proofs
theorem AU_rname {p : Prop} (h : p := by
  repeat' (first | (with_reducible refine condLt (fun h h' => ?_) (fun h h' => ?_)) | (with_reducible refine condLe (fun h h' => ?_) (fun h h' => ?_)) | (with_reducible refine dop_val ?_) | (with_reducible refine YsLt (fun h h' => ?_) (fun h h' => ?_)) | (with_reducible refine YsLe (fun h h' => ?_) (fun h h' => ?_)) | (with_reducible refine condP (fun h => ?_) (fun h => ?_)) | (with_reducible refine condN (fun h => ?_) (fun h => ?_)) | (with_reducible refine condB (fun h => ?_) (fun h => ?_)) | (with_reducible refine condR (fun h => ?_) (fun h => ?_)) | (with_reducible refine YsB (fun h => ?_) (fun h => ?_)) | (with_reducible refine YsC (fun h => ?_) (fun h => ?_)) | (with_reducible refine Ys_ite (fun h => ?_) (fun h => ?_)) | (intro h) | (with_reducible refine draw_look (by kernel_rfl) (by kernel_rfl) ?_) | (simp (maxDischargeDepth := 9) only [go_sem, Nat.reduceMul, Nat.reduceAdd, Nat.reduceLeDiff, Int.reduceSub, Int.reduceNeg, Int.reduceLT, Int.reduceLE, Int.reduceEq, *]) | (exfalso; omega))) : p := h
theorem rname_ans (ext : CallF) (k : Nat) (sx : ByteArray) (hk : maxLen + (2) ≤ k) : ans (tab.run ext k) 69 [.str sx] 0 = some ([.one (.at (.bool (nmB sx)))], [4]) := by
  obtain ⟨k, rfl⟩ : ∃ k', k = k' + 1 := ⟨k - 1, by omega⟩
  have hk1 : maxLen < k := by omega
  have hk0 : 0 < k := by omega
  refine fn_run (fx := fx69) (m := 53) 54 rfl rfl rfl rfl (fun st hn hg hr => ?_)
  have g0 : st.get (.tmp 0) = .v (.a (.str sx)) := hg 0 (of_decide_eq_true rfl)
  clear hg hr
  rw [co69]
  simp only [Try.f69, Option.getD_some]
  rw [nmB_bytes]
  by_cases h1 : (sx.size : Int) < 1
  case pos =>
    rw [if_pos (by omega)]
    simp (maxDischargeDepth := 9) only [go_sem, Nat.reduceMul, Nat.reduceAdd, Nat.reduceLeDiff, Int.reduceSub, Int.reduceNeg, Int.reduceLT, Int.reduceLE, Int.reduceEq, *]
  by_cases h2 : (16 : Int) < (sx.size : Int)
  case pos =>
    rw [if_pos (by omega)]
    simp (maxDischargeDepth := 9) only [go_sem, Nat.reduceMul, Nat.reduceAdd, Nat.reduceLeDiff, Int.reduceSub, Int.reduceNeg, Int.reduceLT, Int.reduceLE, Int.reduceEq, *]
  have hss : sx.size ≤ maxLen := by unfold maxLen; omega
  have h12 : ¬(sx.size < 1 ∨ 16 < sx.size) := by omega
  rw [if_neg h12]
  simp (maxDischargeDepth := 9) only [go_sem, Nat.reduceMul, Nat.reduceAdd, Nat.reduceLeDiff, Int.reduceSub, Int.reduceNeg, Int.reduceLT, Int.reduceLE, Int.reduceEq, *]
  refine gen_st (fun s0 hg hr hn0 => ?_)
  have e0 := hg 0
  have e3 := hg 3
  clear hg hr
  simp only [go_sem, *] at hn0 e0 e3
  refine nr (runs_forN sx.size (fun (_ : Unit) i => if nmOk (bt sx i) i = true then .next () else .ret false) () 54 (fun i a => [(0, s0.get (.tmp 0)), (3, .v (.a (.int .i64 (i : Nat))))]) (fun i a => []) (fun i a => True) (by omega) ?_ (trivial) ?_ ?_ ?_ ?_)
  · simp (maxDischargeDepth := 9) only [go_sem, Nat.reduceMul, Nat.reduceAdd, Nat.reduceLeDiff, Int.reduceSub, Int.reduceNeg, Int.reduceLT, Int.reduceLE, Int.reduceEq, *]
  · intro i a; simp (maxDischargeDepth := 9) only [go_sem, Nat.reduceMul, Nat.reduceAdd, Nat.reduceLeDiff, Int.reduceSub, Int.reduceNeg, Int.reduceLT, Int.reduceLE, Int.reduceEq, *]
  · intro i a; simp (maxDischargeDepth := 9) only [go_sem, Nat.reduceMul, Nat.reduceAdd, Nat.reduceLeDiff, Int.reduceSub, Int.reduceNeg, Int.reduceLT, Int.reduceLE, Int.reduceEq, *]
  · intro i a s hi hI hS
    clear hn0 e3
    simp only [go_sem] at hS
    obtain ⟨f0, f3, hn⟩ := hS
    have hw := wrap_succ hi (hss)
    obtain ⟨b0, hb0, hb1⟩ := bt_get hi
    have hb2 := b0.toNat_lt
    refine rn ?_
    simp (maxDischargeDepth := 9) only [go_sem, Nat.reduceMul, Nat.reduceAdd, Nat.reduceLeDiff, Int.reduceSub, Int.reduceNeg, Int.reduceLT, Int.reduceLE, Int.reduceEq, *]
    by_cases hi0 : i = 0
    case pos =>
      subst hi0
      have hw0 : IntKind.i64.wrap 1 = ((1 : Nat) : Int) := by rw [Go.IntWalk.i64_in _ (by omega)]; rfl
      by_cases hok : nmOk (bt sx 0) 0 = true
      · have hok2 := of_decide_eq_true hok
        rw [← hb1] at hok2
        try (simp (maxDischargeDepth := 9) only [go_sem, Nat.reduceMul, Nat.reduceAdd, Nat.reduceLeDiff, Int.reduceSub, Int.reduceNeg, Int.reduceLT, Int.reduceLE, Int.reduceEq, *])
        all_goals exact AU_rname
      · have hok3 : nmOk (bt sx 0) 0 = false := by simpa using hok
        have hok2 := of_decide_eq_false hok3
        rw [← hb1] at hok2
        try (simp (maxDischargeDepth := 9) only [go_sem, Nat.reduceMul, Nat.reduceAdd, Nat.reduceLeDiff, Int.reduceSub, Int.reduceNeg, Int.reduceLT, Int.reduceLE, Int.reduceEq, *])
        all_goals exact AU_rname
    by_cases hok : nmOk (bt sx i) i = true
    · have hok2 := of_decide_eq_true hok
      rw [← hb1] at hok2
      try (simp (maxDischargeDepth := 9) only [go_sem, Nat.reduceMul, Nat.reduceAdd, Nat.reduceLeDiff, Int.reduceSub, Int.reduceNeg, Int.reduceLT, Int.reduceLE, Int.reduceEq, *])
      all_goals exact AU_rname
    · have hok3 : nmOk (bt sx i) i = false := by simpa using hok
      have hok2 := of_decide_eq_false hok3
      rw [← hb1] at hok2
      try (simp (maxDischargeDepth := 9) only [go_sem, Nat.reduceMul, Nat.reduceAdd, Nat.reduceLeDiff, Int.reduceSub, Int.reduceNeg, Int.reduceLT, Int.reduceLE, Int.reduceEq, *])
      all_goals exact AU_rname
  · intro a s hI hf hS
    clear hn0 e3
    simp only [go_sem] at hS
    obtain ⟨f0, f3, hn⟩ := hS
    try simp only [go_sem] at hf
    refine rn ?_
    simp (maxDischargeDepth := 9) only [go_sem, Nat.reduceMul, Nat.reduceAdd, Nat.reduceLeDiff, Int.reduceSub, Int.reduceNeg, Int.reduceLT, Int.reduceLE, Int.reduceEq, *]
    all_goals exact AU_rname
theorem AU_rarcs {p : Prop} (h : p := by
  repeat' (first | (with_reducible refine condLt (fun h h' => ?_) (fun h h' => ?_)) | (with_reducible refine condLe (fun h h' => ?_) (fun h h' => ?_)) | (with_reducible refine dop_val ?_) | (with_reducible refine YsLt (fun h h' => ?_) (fun h h' => ?_)) | (with_reducible refine YsLe (fun h h' => ?_) (fun h h' => ?_)) | (with_reducible refine condP (fun h => ?_) (fun h => ?_)) | (with_reducible refine condN (fun h => ?_) (fun h => ?_)) | (with_reducible refine condB (fun h => ?_) (fun h => ?_)) | (with_reducible refine condR (fun h => ?_) (fun h => ?_)) | (with_reducible refine YsB (fun h => ?_) (fun h => ?_)) | (with_reducible refine YsC (fun h => ?_) (fun h => ?_)) | (with_reducible refine Ys_ite (fun h => ?_) (fun h => ?_)) | (intro h) | (with_reducible refine draw_look (by kernel_rfl) (by kernel_rfl) ?_) | (simp (maxDischargeDepth := 9) only [go_sem, Nat.reduceMul, Nat.reduceAdd, Nat.reduceLeDiff, Int.reduceSub, Int.reduceNeg, Int.reduceLT, Int.reduceLE, Int.reduceEq, *, arS]) | (exfalso; omega))) : p := h
theorem rarcs_ans (ext : CallF) (k : Nat) (n l : IV) (p q : Nat) (hk : maxLen + (2) ≤ k) (hnn : Ok n) (hv : Ok l) : ans (tab.run ext k) 89 [.iv p 25 n, .iv q 60 l] 1 = some ([.one (.at (.int .i64 (AR l (asL (fld n 1)).length)))], [34]) := by
  obtain ⟨k, rfl⟩ : ∃ k', k = k' + 1 := ⟨k - 1, by omega⟩
  have hk1 : maxLen < k := by omega
  have hk0 : 0 < k := by omega
  refine fn_run (fx := fx89) (m := 57) 59 rfl rfl rfl rfl (fun st hn hg hr => ?_)
  have g0 : st.get (.tmp 0) = .v (.a (.iv p 25 n)) := hg 0 (of_decide_eq_true rfl)
  have g1 : st.get (.tmp 1) = .v (.a (.iv q 60 l)) := hg 1 (of_decide_eq_true rfl)
  have r0 := hr 0
  clear hg hr
  rw [co89]
  simp only [Try.f89, Option.getD_some]
  unfold AR
  have hl1 := ok_len (ok_fld (j := 1) hnn)
  have hl2 := ok_len (ok_fld (j := 2) hnn)
  simp (maxDischargeDepth := 9) only [go_sem, Nat.reduceMul, Nat.reduceAdd, Nat.reduceLeDiff, Int.reduceSub, Int.reduceNeg, Int.reduceLT, Int.reduceLE, Int.reduceEq, *, arS]
  refine gen_st (fun s0 hg hr hn0 => ?_)
  have e1 := hg 1
  have e2 := hg 2
  have e5 := hg 5
  have q0 := hr 0
  clear hg hr
  simp only [go_sem, *] at hn0 e1 e2 e5 q0
  have hl := ok_len hv
  refine nr (runs_forN (asL l).length (arS l (asL (fld n 1)).length) () 59 (fun i a => [(1, s0.get (.tmp 1)), (2, s0.get (.tmp 2)), (5, .v (.a (.int .i64 i)))]) (fun i a => [(0, s0.row 0)]) (fun i a => True) (by omega) ?_ (trivial) ?_ ?_ ?_ ?_)
  · simp (maxDischargeDepth := 9) only [go_sem, Nat.reduceMul, Nat.reduceAdd, Nat.reduceLeDiff, Int.reduceSub, Int.reduceNeg, Int.reduceLT, Int.reduceLE, Int.reduceEq, *, arS]
  · intro i a; simp (maxDischargeDepth := 9) only [go_sem, Nat.reduceMul, Nat.reduceAdd, Nat.reduceLeDiff, Int.reduceSub, Int.reduceNeg, Int.reduceLT, Int.reduceLE, Int.reduceEq, *, arS]
  · intro i a; simp (maxDischargeDepth := 9) only [go_sem, Nat.reduceMul, Nat.reduceAdd, Nat.reduceLeDiff, Int.reduceSub, Int.reduceNeg, Int.reduceLT, Int.reduceLE, Int.reduceEq, *, arS]
  · intro i a s hi hI hS
    clear hn0 e5
    simp only [go_sem] at hS
    obtain ⟨f1, f2, f5, m0, hn⟩ := hS
    have hw := wrap_succ hi (ok_len hv)
    have hwm : 0 < i → IntKind.i64.wrap ((i : Int) - 1) = ((i - 1 : Nat) : Int) := fun h => by
      rw [Go.IntWalk.i64_in _ (by unfold maxLen at hl; omega)]; omega
    have hi1 : i - 1 < (asL l).length := by omega
    refine rn ?_
    simp (maxDischargeDepth := 9) only [go_sem, Nat.reduceMul, Nat.reduceAdd, Nat.reduceLeDiff, Int.reduceSub, Int.reduceNeg, Int.reduceLT, Int.reduceLE, Int.reduceEq, *, arS]
    all_goals exact AU_rarcs
  · intro a s hI hf hS
    clear hn0 e5
    simp only [go_sem] at hS
    obtain ⟨f1, f2, f5, m0, hn⟩ := hS
    try simp only [go_sem] at hf
    refine rn ?_
    simp (maxDischargeDepth := 9) only [go_sem, Nat.reduceMul, Nat.reduceAdd, Nat.reduceLeDiff, Int.reduceSub, Int.reduceNeg, Int.reduceLT, Int.reduceLE, Int.reduceEq, *, arS]
    all_goals exact AU_rarcs
theorem AU_rones {p : Prop} (h : p := by
  repeat' (first | (with_reducible refine condLt (fun h h' => ?_) (fun h h' => ?_)) | (with_reducible refine condLe (fun h h' => ?_) (fun h h' => ?_)) | (with_reducible refine dop_val ?_) | (with_reducible refine YsLt (fun h h' => ?_) (fun h h' => ?_)) | (with_reducible refine YsLe (fun h h' => ?_) (fun h h' => ?_)) | (with_reducible refine condP (fun h => ?_) (fun h => ?_)) | (with_reducible refine condN (fun h => ?_) (fun h => ?_)) | (with_reducible refine condB (fun h => ?_) (fun h => ?_)) | (with_reducible refine condR (fun h => ?_) (fun h => ?_)) | (with_reducible refine YsB (fun h => ?_) (fun h => ?_)) | (with_reducible refine YsC (fun h => ?_) (fun h => ?_)) | (with_reducible refine Ys_ite (fun h => ?_) (fun h => ?_)) | (intro h) | (with_reducible refine draw_look (by kernel_rfl) (by kernel_rfl) ?_) | (simp (maxDischargeDepth := 9) only [go_sem, Nat.reduceMul, Nat.reduceAdd, Nat.reduceLeDiff, Int.reduceSub, Int.reduceNeg, Int.reduceLT, Int.reduceLE, Int.reduceEq, *]) | (exfalso; omega))) : p := h
theorem rones_ans (ext : CallF) (k : Nat) (l : IV) (p : Nat) (hk : maxLen + (2) ≤ k) (hv : Ok l) : ans (tab.run ext k) 73 [.iv p 60 l] 0 = some ([.one (.at (.bool (!((asL l).any fun z => !decide (asI (fld z 1) = 1)))))], [4]) := by
  obtain ⟨k, rfl⟩ : ∃ k', k = k' + 1 := ⟨k - 1, by omega⟩
  have hk1 : maxLen < k := by omega
  have hk0 : 0 < k := by omega
  refine fn_run (fx := fx73) (m := 15) 16 rfl rfl rfl rfl (fun st hn hg hr => ?_)
  have g0 : st.get (.tmp 0) = .v (.a (.iv p 60 l)) := hg 0 (of_decide_eq_true rfl)
  clear hg hr
  rw [co73]
  simp only [Try.f73, Option.getD_some]
  simp (maxDischargeDepth := 9) only [go_sem, Nat.reduceMul, Nat.reduceAdd, Nat.reduceLeDiff, Int.reduceSub, Int.reduceNeg, Int.reduceLT, Int.reduceLE, Int.reduceEq, *]
  refine gen_st (fun s0 hg hr hn0 => ?_)
  have e0 := hg 0
  have e3 := hg 3
  clear hg hr
  simp only [go_sem, *] at hn0 e0 e3
  have hl := ok_len hv
  refine nr (runs_for (asL l) (fun (_ : Unit) z => if asI (fld z 1) = 1 then .next () else .ret false) () 16 (fun i a => [(0, s0.get (.tmp 0)), (3, .v (.a (.int .i64 (i : Nat))))]) (fun i a => []) (fun i a => True) (by omega) ?_ (trivial) ?_ ?_ ?_ ?_)
  · simp (maxDischargeDepth := 9) only [go_sem, Nat.reduceMul, Nat.reduceAdd, Nat.reduceLeDiff, Int.reduceSub, Int.reduceNeg, Int.reduceLT, Int.reduceLE, Int.reduceEq, *]
  · intro i a; simp (maxDischargeDepth := 9) only [go_sem, Nat.reduceMul, Nat.reduceAdd, Nat.reduceLeDiff, Int.reduceSub, Int.reduceNeg, Int.reduceLT, Int.reduceLE, Int.reduceEq, *]
  · intro i a; simp (maxDischargeDepth := 9) only [go_sem, Nat.reduceMul, Nat.reduceAdd, Nat.reduceLeDiff, Int.reduceSub, Int.reduceNeg, Int.reduceLT, Int.reduceLE, Int.reduceEq, *]
  · intro i x a s hx hi hI hS
    clear hn0 e3
    simp only [go_sem] at hS
    obtain ⟨f0, f3, hn⟩ := hS
    have hw := wrap_succ hi (ok_len hv)
    refine rn ?_
    simp (maxDischargeDepth := 9) only [go_sem, Nat.reduceMul, Nat.reduceAdd, Nat.reduceLeDiff, Int.reduceSub, Int.reduceNeg, Int.reduceLT, Int.reduceLE, Int.reduceEq, *]
    all_goals exact AU_rones
  · intro a s hI hf hS
    clear hn0 e3
    simp only [go_sem] at hS
    obtain ⟨f0, f3, hn⟩ := hS
    try simp only [go_sem] at hf
    refine rn ?_
    simp (maxDischargeDepth := 9) only [go_sem, Nat.reduceMul, Nat.reduceAdd, Nat.reduceLeDiff, Int.reduceSub, Int.reduceNeg, Int.reduceLT, Int.reduceLE, Int.reduceEq, *]
    all_goals exact AU_rones
end Go.Proofs.Ytficdonjodadlaa
end
section
set_option linter.unusedSimpArgs false
set_option linter.unusedVariables false
set_option maxRecDepth 100000
set_option maxHeartbeats 4000000
namespace Go.Proofs.Ytficdonjodadlaa
open Go.Ev Go.Proofs
theorem AU_rplace {p : Prop} (h : p := by
  repeat' (first | (with_reducible refine condLt (fun h h' => ?_) (fun h h' => ?_)) | (with_reducible refine condLe (fun h h' => ?_) (fun h h' => ?_)) | (with_reducible refine dop_val ?_) | (with_reducible refine YsLt (fun h h' => ?_) (fun h h' => ?_)) | (with_reducible refine YsLe (fun h h' => ?_) (fun h h' => ?_)) | (with_reducible refine condP (fun h => ?_) (fun h => ?_)) | (with_reducible refine condN (fun h => ?_) (fun h => ?_)) | (with_reducible refine condB (fun h => ?_) (fun h => ?_)) | (with_reducible refine condR (fun h => ?_) (fun h => ?_)) | (with_reducible refine YsB (fun h => ?_) (fun h => ?_)) | (with_reducible refine YsC (fun h => ?_) (fun h => ?_)) | (with_reducible refine Ys_ite (fun h => ?_) (fun h => ?_)) | (intro h) | (with_reducible refine draw_look (by kernel_rfl) (by kernel_rfl) ?_) | (simp (maxDischargeDepth := 9) only [go_sem, Nat.reduceMul, Nat.reduceAdd, Nat.reduceLeDiff, Int.reduceSub, Int.reduceNeg, Int.reduceLT, Int.reduceLE, Int.reduceEq, *, rname_ans]) | (exfalso; omega))) : p := h
theorem rplace_ans (ext : CallF) (k : Nat) (n : IV) (m : Nat) (p : Nat) (hk : maxLen + (4) ≤ k) (hnn : Ok n) (hm : m < (asL (fld n 1)).length) : ans (tab.run ext k) 70 [.iv p 25 n, .int .i64 (m : Nat)] 2 = some ([.one (.at (.int .i64 (plS n m)))], [34]) := by
  obtain ⟨k, rfl⟩ : ∃ k', k = k' + 1 := ⟨k - 1, by omega⟩
  have hk1 : maxLen < k := by omega
  have hk0 : 0 < k := by omega
  have hk_0 : maxLen + (2) ≤ k := by omega
  refine fn_run (fx := fx70) (m := 56) 58 rfl rfl rfl rfl (fun st hn hg hr => ?_)
  have g0 : st.get (.tmp 0) = .v (.a (.iv p 25 n)) := hg 0 (of_decide_eq_true rfl)
  have g1 : st.get (.tmp 1) = .v (.a (.int .i64 (m : Nat))) := hg 1 (of_decide_eq_true rfl)
  have r0 := hr 0
  have r1 := hr 1
  clear hg hr
  rw [co70]
  simp only [Try.f70, Option.getD_some]
  unfold plS AD
  rw [nms_any]
  unfold PL
  have hl1 := ok_len (ok_fld (j := 1) hnn)
  have hl2 := ok_len (ok_fld (j := 2) hnn)
  by_cases hnm : nmB (asS (fld ((asL (fld n 1)).getD m .N) 0)) = true
  case neg =>
    have hnm2 : nmB (asS (fld ((asL (fld n 1)).getD m .N) 0)) = false := by simpa using hnm
    simp (maxDischargeDepth := 9) only [go_sem, Nat.reduceMul, Nat.reduceAdd, Nat.reduceLeDiff, Int.reduceSub, Int.reduceNeg, Int.reduceLT, Int.reduceLE, Int.reduceEq, *, rname_ans]
  simp (maxDischargeDepth := 9) only [go_sem, Nat.reduceMul, Nat.reduceAdd, Nat.reduceLeDiff, Int.reduceSub, Int.reduceNeg, Int.reduceLT, Int.reduceLE, Int.reduceEq, *, rname_ans]
  refine gen_st (fun s0 hg hr hn0 => ?_)
  have e1 := hg 1
  have e2 := hg 2
  have e5 := hg 5
  have e6 := hg 6
  have q0 := hr 0
  have q1 := hr 1
  clear hg hr
  simp only [go_sem, *] at hn0 e1 e2 e5 e6 q0 q1
  refine nr (runs_forN m (fun (_ : Unit) i => if (asS (fld ((asL (fld n 1)).getD i .N) 0) == (asS (fld ((asL (fld n 1)).getD m .N) 0))) = true then .ret 6 else .next ()) () 58 (fun i a => [(1, s0.get (.tmp 1)), (2, s0.get (.tmp 2)), (5, s0.get (.tmp 5)), (6, .v (.a (.int .i64 (i : Nat))))]) (fun i a => [(0, s0.row 0), (1, s0.row 1)]) (fun i a => True) (by omega) ?_ (trivial) ?_ ?_ ?_ ?_)
  · simp (maxDischargeDepth := 9) only [go_sem, Nat.reduceMul, Nat.reduceAdd, Nat.reduceLeDiff, Int.reduceSub, Int.reduceNeg, Int.reduceLT, Int.reduceLE, Int.reduceEq, *, rname_ans]
  · intro i a; simp (maxDischargeDepth := 9) only [go_sem, Nat.reduceMul, Nat.reduceAdd, Nat.reduceLeDiff, Int.reduceSub, Int.reduceNeg, Int.reduceLT, Int.reduceLE, Int.reduceEq, *, rname_ans]
  · intro i a; simp (maxDischargeDepth := 9) only [go_sem, Nat.reduceMul, Nat.reduceAdd, Nat.reduceLeDiff, Int.reduceSub, Int.reduceNeg, Int.reduceLT, Int.reduceLE, Int.reduceEq, *, rname_ans]
  · intro i a s hi hI hS
    clear hn0 e6
    simp only [go_sem] at hS
    obtain ⟨f1, f2, f5, f6, m0, m1, hn⟩ := hS
    have hw := wrap_succ hi (by omega)
    have him : i < (asL (fld n 1)).length := by omega
    refine rn ?_
    simp (maxDischargeDepth := 9) only [go_sem, Nat.reduceMul, Nat.reduceAdd, Nat.reduceLeDiff, Int.reduceSub, Int.reduceNeg, Int.reduceLT, Int.reduceLE, Int.reduceEq, *, rname_ans]
    all_goals exact AU_rplace
  · intro a s hI hf hS
    clear hn0 e6
    simp only [go_sem] at hS
    obtain ⟨f1, f2, f5, f6, m0, m1, hn⟩ := hS
    try simp only [go_sem] at hf
    refine rn ?_
    simp (maxDischargeDepth := 9) only [go_sem, Nat.reduceMul, Nat.reduceAdd, Nat.reduceLeDiff, Int.reduceSub, Int.reduceNeg, Int.reduceLT, Int.reduceLE, Int.reduceEq, *, rname_ans]
    all_goals exact AU_rplace
theorem AU_rtrans {p : Prop} (h : p := by
  repeat' (first | (with_reducible refine condLt (fun h h' => ?_) (fun h h' => ?_)) | (with_reducible refine condLe (fun h h' => ?_) (fun h h' => ?_)) | (with_reducible refine dop_val ?_) | (with_reducible refine YsLt (fun h h' => ?_) (fun h h' => ?_)) | (with_reducible refine YsLe (fun h h' => ?_) (fun h h' => ?_)) | (with_reducible refine condP (fun h => ?_) (fun h => ?_)) | (with_reducible refine condN (fun h => ?_) (fun h => ?_)) | (with_reducible refine condB (fun h => ?_) (fun h => ?_)) | (with_reducible refine condR (fun h => ?_) (fun h => ?_)) | (with_reducible refine YsB (fun h => ?_) (fun h => ?_)) | (with_reducible refine YsC (fun h => ?_) (fun h => ?_)) | (with_reducible refine Ys_ite (fun h => ?_) (fun h => ?_)) | (intro h) | (with_reducible refine draw_look (by kernel_rfl) (by kernel_rfl) ?_) | (simp (maxDischargeDepth := 9) only [go_sem, Nat.reduceMul, Nat.reduceAdd, Nat.reduceLeDiff, Int.reduceSub, Int.reduceNeg, Int.reduceLT, Int.reduceLE, Int.reduceEq, *, rname_ans, rarcs_ans]) | (exfalso; omega))) : p := h
theorem rtrans_ans (ext : CallF) (k : Nat) (n : IV) (m : Nat) (p : Nat) (hk : maxLen + (6) ≤ k) (hnn : Ok n) (hm : m < (asL (fld n 2)).length) : ans (tab.run ext k) 71 [.iv p 25 n, .int .i64 (m : Nat)] 2 = some ([.one (.at (.int .i64 (trS n m)))], [34]) := by
  obtain ⟨k, rfl⟩ : ∃ k', k = k' + 1 := ⟨k - 1, by omega⟩
  have hk1 : maxLen < k := by omega
  have hk0 : 0 < k := by omega
  have hk_0 : maxLen + (2) ≤ k := by omega
  refine fn_run (fx := fx71) (m := 73) 75 rfl rfl rfl rfl (fun st hn hg hr => ?_)
  have g0 : st.get (.tmp 0) = .v (.a (.iv p 25 n)) := hg 0 (of_decide_eq_true rfl)
  have g1 : st.get (.tmp 1) = .v (.a (.int .i64 (m : Nat))) := hg 1 (of_decide_eq_true rfl)
  have r0 := hr 0
  have r1 := hr 1
  clear hg hr
  rw [co71]
  simp only [Try.f71, Option.getD_some]
  unfold trS AD
  rw [List.any_append, nms_any, nms_any]
  unfold TR
  have hl1 := ok_len (ok_fld (j := 1) hnn)
  have hl2 := ok_len (ok_fld (j := 2) hnn)
  have hot : Ok ((asL (fld n 2)).getD m .N) := ok_getD (ok_fld hnn)
  by_cases hnm : nmB (asS (fld ((asL (fld n 2)).getD m .N) 0)) = true
  case neg =>
    have hnm2 : nmB (asS (fld ((asL (fld n 2)).getD m .N) 0)) = false := by simpa using hnm
    simp (maxDischargeDepth := 9) only [go_sem, Nat.reduceMul, Nat.reduceAdd, Nat.reduceLeDiff, Int.reduceSub, Int.reduceNeg, Int.reduceLT, Int.reduceLE, Int.reduceEq, *, rname_ans, rarcs_ans]
  simp (maxDischargeDepth := 9) only [go_sem, Nat.reduceMul, Nat.reduceAdd, Nat.reduceLeDiff, Int.reduceSub, Int.reduceNeg, Int.reduceLT, Int.reduceLE, Int.reduceEq, *, rname_ans, rarcs_ans]
  refine gen_st (fun s0 hg hr hn0 => ?_)
  have e1 := hg 1
  have e2 := hg 2
  have e5 := hg 5
  have e6 := hg 6
  have q0 := hr 0
  have q1 := hr 1
  clear hg hr
  simp only [go_sem, *] at hn0 e1 e2 e5 e6 q0 q1
  refine nr (runs_forN (asL (fld n 1)).length (fun (_ : Unit) i => if (asS (fld ((asL (fld n 1)).getD i .N) 0) == (asS (fld ((asL (fld n 2)).getD m .N) 0))) = true then .ret 6 else .next ()) () 75 (fun i a => [(1, s0.get (.tmp 1)), (2, s0.get (.tmp 2)), (5, s0.get (.tmp 5)), (6, .v (.a (.int .i64 (i : Nat))))]) (fun i a => [(0, s0.row 0), (1, s0.row 1)]) (fun i a => True) (by omega) ?_ (trivial) ?_ ?_ ?_ ?_)
  · simp (maxDischargeDepth := 9) only [go_sem, Nat.reduceMul, Nat.reduceAdd, Nat.reduceLeDiff, Int.reduceSub, Int.reduceNeg, Int.reduceLT, Int.reduceLE, Int.reduceEq, *, rname_ans, rarcs_ans]
  · intro i a; simp (maxDischargeDepth := 9) only [go_sem, Nat.reduceMul, Nat.reduceAdd, Nat.reduceLeDiff, Int.reduceSub, Int.reduceNeg, Int.reduceLT, Int.reduceLE, Int.reduceEq, *, rname_ans, rarcs_ans]
  · intro i a; simp (maxDischargeDepth := 9) only [go_sem, Nat.reduceMul, Nat.reduceAdd, Nat.reduceLeDiff, Int.reduceSub, Int.reduceNeg, Int.reduceLT, Int.reduceLE, Int.reduceEq, *, rname_ans, rarcs_ans]
  · intro i a s hi hI hS
    clear hn0 e6
    simp only [go_sem] at hS
    obtain ⟨f1, f2, f5, f6, m0, m1, hn⟩ := hS
    have hw := wrap_succ hi (hl1)
    refine rn ?_
    simp (maxDischargeDepth := 9) only [go_sem, Nat.reduceMul, Nat.reduceAdd, Nat.reduceLeDiff, Int.reduceSub, Int.reduceNeg, Int.reduceLT, Int.reduceLE, Int.reduceEq, *, rname_ans, rarcs_ans]
    all_goals exact AU_rtrans
  · intro a s hI hf hS
    clear hn0 e6
    simp only [go_sem] at hS
    obtain ⟨f1, f2, f5, f6, m0, m1, hn⟩ := hS
    try simp only [go_sem] at hf
    refine rn ?_
    simp (maxDischargeDepth := 9) only [go_sem, Nat.reduceMul, Nat.reduceAdd, Nat.reduceLeDiff, Int.reduceSub, Int.reduceNeg, Int.reduceLT, Int.reduceLE, Int.reduceEq, *, rname_ans, rarcs_ans]
    refine gen_st (fun s0 hg hr hn0 => ?_)
    have e1 := hg 1
    have e2 := hg 2
    have e5 := hg 5
    have e7 := hg 7
    have q0 := hr 0
    have q1 := hr 1
    clear hg hr
    simp only [go_sem, *] at hn0 e1 e2 e5 e7 q0 q1
    refine nr (runs_forN m (fun (_ : Unit) i => if (asS (fld ((asL (fld n 2)).getD i .N) 0) == (asS (fld ((asL (fld n 2)).getD m .N) 0))) = true then .ret 6 else .next ()) () 75 (fun i a => [(1, s0.get (.tmp 1)), (2, s0.get (.tmp 2)), (5, s0.get (.tmp 5)), (7, .v (.a (.int .i64 (i : Nat))))]) (fun i a => [(0, s0.row 0), (1, s0.row 1)]) (fun i a => True) (by omega) ?_ (trivial) ?_ ?_ ?_ ?_)
    · simp (maxDischargeDepth := 9) only [go_sem, Nat.reduceMul, Nat.reduceAdd, Nat.reduceLeDiff, Int.reduceSub, Int.reduceNeg, Int.reduceLT, Int.reduceLE, Int.reduceEq, *, rname_ans, rarcs_ans]
    · intro i a; simp (maxDischargeDepth := 9) only [go_sem, Nat.reduceMul, Nat.reduceAdd, Nat.reduceLeDiff, Int.reduceSub, Int.reduceNeg, Int.reduceLT, Int.reduceLE, Int.reduceEq, *, rname_ans, rarcs_ans]
    · intro i a; simp (maxDischargeDepth := 9) only [go_sem, Nat.reduceMul, Nat.reduceAdd, Nat.reduceLeDiff, Int.reduceSub, Int.reduceNeg, Int.reduceLT, Int.reduceLE, Int.reduceEq, *, rname_ans, rarcs_ans]
    · intro i a s hi hI hS
      clear hn0 e7
      simp only [go_sem] at hS
      obtain ⟨f1, f2, f5, f7, m0, m1, hn⟩ := hS
      have hw := wrap_succ hi (by omega)
      have him : i < (asL (fld n 2)).length := by omega
      refine rn ?_
      simp (maxDischargeDepth := 9) only [go_sem, Nat.reduceMul, Nat.reduceAdd, Nat.reduceLeDiff, Int.reduceSub, Int.reduceNeg, Int.reduceLT, Int.reduceLE, Int.reduceEq, *, rname_ans, rarcs_ans]
      all_goals exact AU_rtrans
    · intro a s hI hf hS
      clear hn0 e7
      simp only [go_sem] at hS
      obtain ⟨f1, f2, f5, f7, m0, m1, hn⟩ := hS
      try simp only [go_sem] at hf
      refine rn ?_
      simp (maxDischargeDepth := 9) only [go_sem, Nat.reduceMul, Nat.reduceAdd, Nat.reduceLeDiff, Int.reduceSub, Int.reduceNeg, Int.reduceLT, Int.reduceLE, Int.reduceEq, *, rname_ans, rarcs_ans]
      all_goals exact AU_rtrans
end Go.Proofs.Ytficdonjodadlaa
end
section
set_option linter.unusedSimpArgs false
set_option linter.unusedVariables false
set_option maxRecDepth 100000
set_option maxHeartbeats 4000000
namespace Go.Proofs.Ytficdonjodadlaa
open Go.Ev Go.Proofs
theorem AU_rcheck {p : Prop} (h : p := by
  repeat' (first | (with_reducible refine condLt (fun h h' => ?_) (fun h h' => ?_)) | (with_reducible refine condLe (fun h h' => ?_) (fun h h' => ?_)) | (with_reducible refine dop_val ?_) | (with_reducible refine YsLt (fun h h' => ?_) (fun h h' => ?_)) | (with_reducible refine YsLe (fun h h' => ?_) (fun h h' => ?_)) | (with_reducible refine condP (fun h => ?_) (fun h => ?_)) | (with_reducible refine condN (fun h => ?_) (fun h => ?_)) | (with_reducible refine condB (fun h => ?_) (fun h => ?_)) | (with_reducible refine condR (fun h => ?_) (fun h => ?_)) | (with_reducible refine YsB (fun h => ?_) (fun h => ?_)) | (with_reducible refine YsC (fun h => ?_) (fun h => ?_)) | (with_reducible refine Ys_ite (fun h => ?_) (fun h => ?_)) | (intro h) | (with_reducible refine draw_look (by kernel_rfl) (by kernel_rfl) ?_) | (simp (maxDischargeDepth := 9) only [go_sem, Nat.reduceMul, Nat.reduceAdd, Nat.reduceLeDiff, Int.reduceSub, Int.reduceNeg, Int.reduceLT, Int.reduceLE, Int.reduceEq, *, rname_ans, rplace_ans, rtrans_ans]) | (exfalso; omega))) : p := h
theorem rcheck_ans (ext : CallF) (k : Nat) (n : IV) (p : Nat) (hk : maxLen + (8) ≤ k) (hnn : Ok n) : ans (tab.run ext k) 38 [.iv p 25 n] 2 = some ([.one (.at (.iv 2 38 (.A [.I (NC n).1, .I (NC n).2])))], [38]) := by
  obtain ⟨k, rfl⟩ : ∃ k', k = k' + 1 := ⟨k - 1, by omega⟩
  have hk1 : maxLen < k := by omega
  have hk0 : 0 < k := by omega
  have hk_0 : maxLen + (2) ≤ k := by omega
  have hk_1 : maxLen + (4) ≤ k := by omega
  have hk_2 : maxLen + (6) ≤ k := by omega
  refine fn_run (fx := fx38) (m := 63) 64 rfl rfl rfl rfl (fun st hn hg hr => ?_)
  have g0 : st.get (.tmp 0) = .v (.a (.iv p 25 n)) := hg 0 (of_decide_eq_true rfl)
  have r0 := hr 0
  have r1 := hr 1
  clear hg hr
  rw [co38]
  simp only [Try.f38, Option.getD_some]
  unfold NC
  have hl1 := ok_len (ok_fld (j := 1) hnn)
  have hl2 := ok_len (ok_fld (j := 2) hnn)
  by_cases hnm : nmB (asS (fld n 0)) = true
  case neg =>
    have hnm2 : nmB (asS (fld n 0)) = false := by simpa using hnm
    simp (maxDischargeDepth := 9) only [go_sem, Nat.reduceMul, Nat.reduceAdd, Nat.reduceLeDiff, Int.reduceSub, Int.reduceNeg, Int.reduceLT, Int.reduceLE, Int.reduceEq, *, rname_ans, rplace_ans, rtrans_ans]
  simp (maxDischargeDepth := 9) only [go_sem, Nat.reduceMul, Nat.reduceAdd, Nat.reduceLeDiff, Int.reduceSub, Int.reduceNeg, Int.reduceLT, Int.reduceLE, Int.reduceEq, *, rname_ans, rplace_ans, rtrans_ans]
  repeat' (first | (with_reducible refine condLt (fun h h' => ?_) (fun h h' => ?_)) | (with_reducible refine condLe (fun h h' => ?_) (fun h h' => ?_)) | (with_reducible refine dop_val ?_) | (with_reducible refine YsLt (fun h h' => ?_) (fun h h' => ?_)) | (with_reducible refine YsLe (fun h h' => ?_) (fun h h' => ?_)) | (with_reducible refine condP (fun h => ?_) (fun h => ?_)) | (with_reducible refine condN (fun h => ?_) (fun h => ?_)) | (with_reducible refine condB (fun h => ?_) (fun h => ?_)) | (with_reducible refine condR (fun h => ?_) (fun h => ?_)) | (with_reducible refine YsB (fun h => ?_) (fun h => ?_)) | (with_reducible refine YsC (fun h => ?_) (fun h => ?_)) | (with_reducible refine Ys_ite (fun h => ?_) (fun h => ?_)) | (intro h) | (with_reducible refine draw_look (by kernel_rfl) (by kernel_rfl) ?_) | (simp (maxDischargeDepth := 9) only [go_sem, Nat.reduceMul, Nat.reduceAdd, Nat.reduceLeDiff, Int.reduceSub, Int.reduceNeg, Int.reduceLT, Int.reduceLE, Int.reduceEq, *, rname_ans, rplace_ans, rtrans_ans]) | (exfalso; omega))
  unfold NC1
  refine gen_st (fun s0 hg hr hn0 => ?_)
  have e1 := hg 1
  have e2 := hg 2
  have e3 := hg 3
  have q0 := hr 0
  have q1 := hr 1
  clear hg hr
  simp only [go_sem, *] at hn0 e1 e2 e3 q0 q1
  refine nr (runs_forN (asL (fld n 1)).length (ckP n) () 64 (fun i a => [(1, s0.get (.tmp 1)), (2, s0.get (.tmp 2)), (3, .v (.a (.int .i64 (i : Nat))))]) (fun i a => [(0, s0.row 0), (1, s0.row 1)]) (fun i a => True) (by omega) ?_ (trivial) ?_ ?_ ?_ ?_)
  · simp (maxDischargeDepth := 9) only [go_sem, Nat.reduceMul, Nat.reduceAdd, Nat.reduceLeDiff, Int.reduceSub, Int.reduceNeg, Int.reduceLT, Int.reduceLE, Int.reduceEq, *, rname_ans, rplace_ans, rtrans_ans]
  · intro i a; simp (maxDischargeDepth := 9) only [go_sem, Nat.reduceMul, Nat.reduceAdd, Nat.reduceLeDiff, Int.reduceSub, Int.reduceNeg, Int.reduceLT, Int.reduceLE, Int.reduceEq, *, rname_ans, rplace_ans, rtrans_ans]
  · intro i a; simp (maxDischargeDepth := 9) only [go_sem, Nat.reduceMul, Nat.reduceAdd, Nat.reduceLeDiff, Int.reduceSub, Int.reduceNeg, Int.reduceLT, Int.reduceLE, Int.reduceEq, *, rname_ans, rplace_ans, rtrans_ans]
  · intro i a s hi hI hS
    clear hn0 e3
    simp only [go_sem] at hS
    obtain ⟨f1, f2, f3, m0, m1, hn⟩ := hS
    have hw := wrap_succ hi (hl1)
    refine rn ?_
    simp (maxDischargeDepth := 9) only [go_sem, Nat.reduceMul, Nat.reduceAdd, Nat.reduceLeDiff, Int.reduceSub, Int.reduceNeg, Int.reduceLT, Int.reduceLE, Int.reduceEq, *, rname_ans, rplace_ans, rtrans_ans]
    unfold ckP
    repeat' (first | (with_reducible refine condLt (fun h h' => ?_) (fun h h' => ?_)) | (with_reducible refine condLe (fun h h' => ?_) (fun h h' => ?_)) | (with_reducible refine dop_val ?_) | (with_reducible refine YsLt (fun h h' => ?_) (fun h h' => ?_)) | (with_reducible refine YsLe (fun h h' => ?_) (fun h h' => ?_)) | (with_reducible refine condP (fun h => ?_) (fun h => ?_)) | (with_reducible refine condN (fun h => ?_) (fun h => ?_)) | (with_reducible refine condB (fun h => ?_) (fun h => ?_)) | (with_reducible refine condR (fun h => ?_) (fun h => ?_)) | (with_reducible refine YsB (fun h => ?_) (fun h => ?_)) | (with_reducible refine YsC (fun h => ?_) (fun h => ?_)) | (with_reducible refine Ys_ite (fun h => ?_) (fun h => ?_)) | (intro h) | (with_reducible refine draw_look (by kernel_rfl) (by kernel_rfl) ?_) | (simp (maxDischargeDepth := 9) only [go_sem, Nat.reduceMul, Nat.reduceAdd, Nat.reduceLeDiff, Int.reduceSub, Int.reduceNeg, Int.reduceLT, Int.reduceLE, Int.reduceEq, *, rname_ans, rplace_ans, rtrans_ans]) | (exfalso; omega))
  · intro a s hI hf hS
    clear hn0 e3
    simp only [go_sem] at hS
    obtain ⟨f1, f2, f3, m0, m1, hn⟩ := hS
    try simp only [go_sem] at hf
    unfold NC2
    refine rn ?_
    simp (maxDischargeDepth := 9) only [go_sem, Nat.reduceMul, Nat.reduceAdd, Nat.reduceLeDiff, Int.reduceSub, Int.reduceNeg, Int.reduceLT, Int.reduceLE, Int.reduceEq, *, rname_ans, rplace_ans, rtrans_ans]
    refine gen_st (fun s0 hg hr hn0 => ?_)
    have e1 := hg 1
    have e2 := hg 2
    have e5 := hg 5
    have q0 := hr 0
    have q1 := hr 1
    clear hg hr
    simp only [go_sem, *] at hn0 e1 e2 e5 q0 q1
    refine nr (runs_forN (asL (fld n 2)).length (ckT n) () 64 (fun i a => [(1, s0.get (.tmp 1)), (2, s0.get (.tmp 2)), (5, .v (.a (.int .i64 (i : Nat))))]) (fun i a => [(0, s0.row 0), (1, s0.row 1)]) (fun i a => True) (by omega) ?_ (trivial) ?_ ?_ ?_ ?_)
    · simp (maxDischargeDepth := 9) only [go_sem, Nat.reduceMul, Nat.reduceAdd, Nat.reduceLeDiff, Int.reduceSub, Int.reduceNeg, Int.reduceLT, Int.reduceLE, Int.reduceEq, *, rname_ans, rplace_ans, rtrans_ans]
    · intro i a; simp (maxDischargeDepth := 9) only [go_sem, Nat.reduceMul, Nat.reduceAdd, Nat.reduceLeDiff, Int.reduceSub, Int.reduceNeg, Int.reduceLT, Int.reduceLE, Int.reduceEq, *, rname_ans, rplace_ans, rtrans_ans]
    · intro i a; simp (maxDischargeDepth := 9) only [go_sem, Nat.reduceMul, Nat.reduceAdd, Nat.reduceLeDiff, Int.reduceSub, Int.reduceNeg, Int.reduceLT, Int.reduceLE, Int.reduceEq, *, rname_ans, rplace_ans, rtrans_ans]
    · intro i a s hi hI hS
      clear hn0 e5
      simp only [go_sem] at hS
      obtain ⟨f1, f2, f5, m0, m1, hn⟩ := hS
      have hw := wrap_succ hi (hl2)
      have hwa : IntKind.i64.wrap (((asL (fld n 1)).length : Int) + (i : Int)) = ((asL (fld n 1)).length : Int) + (i : Int) := Go.IntWalk.i64_in _ (by omega)
      refine rn ?_
      simp (maxDischargeDepth := 9) only [go_sem, Nat.reduceMul, Nat.reduceAdd, Nat.reduceLeDiff, Int.reduceSub, Int.reduceNeg, Int.reduceLT, Int.reduceLE, Int.reduceEq, *, rname_ans, rplace_ans, rtrans_ans]
      unfold ckT
      repeat' (first | (with_reducible refine condLt (fun h h' => ?_) (fun h h' => ?_)) | (with_reducible refine condLe (fun h h' => ?_) (fun h h' => ?_)) | (with_reducible refine dop_val ?_) | (with_reducible refine YsLt (fun h h' => ?_) (fun h h' => ?_)) | (with_reducible refine YsLe (fun h h' => ?_) (fun h h' => ?_)) | (with_reducible refine condP (fun h => ?_) (fun h => ?_)) | (with_reducible refine condN (fun h => ?_) (fun h => ?_)) | (with_reducible refine condB (fun h => ?_) (fun h => ?_)) | (with_reducible refine condR (fun h => ?_) (fun h => ?_)) | (with_reducible refine YsB (fun h => ?_) (fun h => ?_)) | (with_reducible refine YsC (fun h => ?_) (fun h => ?_)) | (with_reducible refine Ys_ite (fun h => ?_) (fun h => ?_)) | (intro h) | (with_reducible refine draw_look (by kernel_rfl) (by kernel_rfl) ?_) | (simp (maxDischargeDepth := 9) only [go_sem, Nat.reduceMul, Nat.reduceAdd, Nat.reduceLeDiff, Int.reduceSub, Int.reduceNeg, Int.reduceLT, Int.reduceLE, Int.reduceEq, *, rname_ans, rplace_ans, rtrans_ans]) | (exfalso; omega))
    · intro a s hI hf hS
      clear hn0 e5
      simp only [go_sem] at hS
      obtain ⟨f1, f2, f5, m0, m1, hn⟩ := hS
      try simp only [go_sem] at hf
      refine rn ?_
      simp (maxDischargeDepth := 9) only [go_sem, Nat.reduceMul, Nat.reduceAdd, Nat.reduceLeDiff, Int.reduceSub, Int.reduceNeg, Int.reduceLT, Int.reduceLE, Int.reduceEq, *, rname_ans, rplace_ans, rtrans_ans]
      all_goals exact AU_rcheck
theorem rvalid_ans (ext : CallF) (k : Nat) (n : IV) (p : Nat) (hk : maxLen + (12) ≤ k) (hnn : Ok n) : ans (tab.run ext k) 72 [.iv p 25 n] 1 = some ([.one (.at (.bool (VN n)))], [4]) := by
  obtain ⟨k, rfl⟩ : ∃ k', k = k' + 1 := ⟨k - 1, by omega⟩
  have hk1 : maxLen < k := by omega
  have hk0 : 0 < k := by omega
  have hk_0 : maxLen + (8) ≤ k := by omega
  refine fn_run (fx := fx72) (m := 6) 7 rfl rfl rfl rfl (fun st hn hg hr => ?_)
  have g0 : st.get (.tmp 0) = .v (.a (.iv p 25 n)) := hg 0 (of_decide_eq_true rfl)
  have r0 := hr 0
  clear hg hr
  rw [co72]
  simp only [Try.f72, Option.getD_some]
  repeat' (first | (with_reducible refine condLt (fun h h' => ?_) (fun h h' => ?_)) | (with_reducible refine condLe (fun h h' => ?_) (fun h h' => ?_)) | (with_reducible refine dop_val ?_) | (with_reducible refine YsLt (fun h h' => ?_) (fun h h' => ?_)) | (with_reducible refine YsLe (fun h h' => ?_) (fun h h' => ?_)) | (with_reducible refine condP (fun h => ?_) (fun h => ?_)) | (with_reducible refine condN (fun h => ?_) (fun h => ?_)) | (with_reducible refine condB (fun h => ?_) (fun h => ?_)) | (with_reducible refine condR (fun h => ?_) (fun h => ?_)) | (with_reducible refine YsB (fun h => ?_) (fun h => ?_)) | (with_reducible refine YsC (fun h => ?_) (fun h => ?_)) | (with_reducible refine Ys_ite (fun h => ?_) (fun h => ?_)) | (intro h) | (with_reducible refine draw_look (by kernel_rfl) (by kernel_rfl) ?_) | (simp (maxDischargeDepth := 9) only [go_sem, Nat.reduceMul, Nat.reduceAdd, Nat.reduceLeDiff, Int.reduceSub, Int.reduceNeg, Int.reduceLT, Int.reduceLE, Int.reduceEq, *, rcheck_ans, VN]) | (exfalso; omega))
theorem AU_rplain {p : Prop} (h : p := by
  repeat' (first | (with_reducible refine condLt (fun h h' => ?_) (fun h h' => ?_)) | (with_reducible refine condLe (fun h h' => ?_) (fun h h' => ?_)) | (with_reducible refine dop_val ?_) | (with_reducible refine YsLt (fun h h' => ?_) (fun h h' => ?_)) | (with_reducible refine YsLe (fun h h' => ?_) (fun h h' => ?_)) | (with_reducible refine condP (fun h => ?_) (fun h => ?_)) | (with_reducible refine condN (fun h => ?_) (fun h => ?_)) | (with_reducible refine condB (fun h => ?_) (fun h => ?_)) | (with_reducible refine condR (fun h => ?_) (fun h => ?_)) | (with_reducible refine YsB (fun h => ?_) (fun h => ?_)) | (with_reducible refine YsC (fun h => ?_) (fun h => ?_)) | (with_reducible refine Ys_ite (fun h => ?_) (fun h => ?_)) | (intro h) | (with_reducible refine draw_look (by kernel_rfl) (by kernel_rfl) ?_) | (simp (maxDischargeDepth := 9) only [go_sem, Nat.reduceMul, Nat.reduceAdd, Nat.reduceLeDiff, Int.reduceSub, Int.reduceNeg, Int.reduceLT, Int.reduceLE, Int.reduceEq, *, rvalid_ans]) | (exfalso; omega))) : p := h
theorem rplain_ans (ext : CallF) (k : Nat) (n : IV) (p : Nat) (hk : maxLen + (16) ≤ k) (hnn : Ok n) : ans (tab.run ext k) 39 [.iv p 25 n] 1 = some ([.one (.at (.bool (PN n)))], [4]) := by
  obtain ⟨k, rfl⟩ : ∃ k', k = k' + 1 := ⟨k - 1, by omega⟩
  have hk1 : maxLen < k := by omega
  have hk0 : 0 < k := by omega
  have hk_0 : maxLen + (12) ≤ k := by omega
  refine fn_run (fx := fx39) (m := 45) 46 rfl rfl rfl rfl (fun st hn hg hr => ?_)
  have g0 : st.get (.tmp 0) = .v (.a (.iv p 25 n)) := hg 0 (of_decide_eq_true rfl)
  have r0 := hr 0
  clear hg hr
  rw [co39]
  simp only [Try.f39, Option.getD_some]
  unfold PN
  have hl1 := ok_len (ok_fld (j := 1) hnn)
  have hl2 := ok_len (ok_fld (j := 2) hnn)
  by_cases hvn : VN n = true
  case neg =>
    have hvf : VN n = false := by simpa using hvn
    simp (maxDischargeDepth := 9) only [go_sem, Nat.reduceMul, Nat.reduceAdd, Nat.reduceLeDiff, Int.reduceSub, Int.reduceNeg, Int.reduceLT, Int.reduceLE, Int.reduceEq, *, rvalid_ans]
  simp (maxDischargeDepth := 9) only [go_sem, Nat.reduceMul, Nat.reduceAdd, Nat.reduceLeDiff, Int.reduceSub, Int.reduceNeg, Int.reduceLT, Int.reduceLE, Int.reduceEq, *, rvalid_ans]
  refine gen_st (fun s0 hg hr hn0 => ?_)
  have e1 := hg 1
  have e3 := hg 3
  have q0 := hr 0
  clear hg hr
  simp only [go_sem, *] at hn0 e1 e3 q0
  refine nr (runs_for (asL (fld n 1)) (fun (_ : Unit) x => if asI (fld x 2) = 0 then .next () else .ret false) () 46 (fun i a => [(1, s0.get (.tmp 1)), (3, .v (.a (.int .i64 (i : Nat))))]) (fun i a => [(0, s0.row 0)]) (fun i a => True) (by omega) ?_ (trivial) ?_ ?_ ?_ ?_)
  · simp (maxDischargeDepth := 9) only [go_sem, Nat.reduceMul, Nat.reduceAdd, Nat.reduceLeDiff, Int.reduceSub, Int.reduceNeg, Int.reduceLT, Int.reduceLE, Int.reduceEq, *, rvalid_ans]
  · intro i a; simp (maxDischargeDepth := 9) only [go_sem, Nat.reduceMul, Nat.reduceAdd, Nat.reduceLeDiff, Int.reduceSub, Int.reduceNeg, Int.reduceLT, Int.reduceLE, Int.reduceEq, *, rvalid_ans]
  · intro i a; simp (maxDischargeDepth := 9) only [go_sem, Nat.reduceMul, Nat.reduceAdd, Nat.reduceLeDiff, Int.reduceSub, Int.reduceNeg, Int.reduceLT, Int.reduceLE, Int.reduceEq, *, rvalid_ans]
  · intro i x a s hx hi hI hS
    clear hn0 e3
    simp only [go_sem] at hS
    obtain ⟨f1, f3, m0, hn⟩ := hS
    have hw := wrap_succ hi (hl1)
    refine rn ?_
    simp (maxDischargeDepth := 9) only [go_sem, Nat.reduceMul, Nat.reduceAdd, Nat.reduceLeDiff, Int.reduceSub, Int.reduceNeg, Int.reduceLT, Int.reduceLE, Int.reduceEq, *, rvalid_ans]
    all_goals exact AU_rplain
  · intro a s hI hf hS
    clear hn0 e3
    simp only [go_sem] at hS
    obtain ⟨f1, f3, m0, hn⟩ := hS
    try simp only [go_sem] at hf
    refine rn ?_
    simp (maxDischargeDepth := 9) only [go_sem, Nat.reduceMul, Nat.reduceAdd, Nat.reduceLeDiff, Int.reduceSub, Int.reduceNeg, Int.reduceLT, Int.reduceLE, Int.reduceEq, *, rvalid_ans]
    refine gen_st (fun s0 hg hr hn0 => ?_)
    have e1 := hg 1
    have e4 := hg 4
    have q0 := hr 0
    clear hg hr
    simp only [go_sem, *] at hn0 e1 e4 q0
    refine nr (runs_for (asL (fld n 2)) (fun (_ : Unit) x => if (0 : Int) < ((asL (fld x 3)).length : Int) ∨ ¬asI (fld x 4) = 0 then .ret false else .next ()) () 46 (fun i a => [(1, s0.get (.tmp 1)), (4, .v (.a (.int .i64 (i : Nat))))]) (fun i a => [(0, s0.row 0)]) (fun i a => True) (by omega) ?_ (trivial) ?_ ?_ ?_ ?_)
    · simp (maxDischargeDepth := 9) only [go_sem, Nat.reduceMul, Nat.reduceAdd, Nat.reduceLeDiff, Int.reduceSub, Int.reduceNeg, Int.reduceLT, Int.reduceLE, Int.reduceEq, *, rvalid_ans]
    · intro i a; simp (maxDischargeDepth := 9) only [go_sem, Nat.reduceMul, Nat.reduceAdd, Nat.reduceLeDiff, Int.reduceSub, Int.reduceNeg, Int.reduceLT, Int.reduceLE, Int.reduceEq, *, rvalid_ans]
    · intro i a; simp (maxDischargeDepth := 9) only [go_sem, Nat.reduceMul, Nat.reduceAdd, Nat.reduceLeDiff, Int.reduceSub, Int.reduceNeg, Int.reduceLT, Int.reduceLE, Int.reduceEq, *, rvalid_ans]
    · intro i x a s hx hi hI hS
      clear hn0 e4
      simp only [go_sem] at hS
      obtain ⟨f1, f4, m0, hn⟩ := hS
      have hw := wrap_succ hi (hl2)
      refine rn ?_
      simp (maxDischargeDepth := 9) only [go_sem, Nat.reduceMul, Nat.reduceAdd, Nat.reduceLeDiff, Int.reduceSub, Int.reduceNeg, Int.reduceLT, Int.reduceLE, Int.reduceEq, *, rvalid_ans]
      all_goals exact AU_rplain
    · intro a s hI hf hS
      clear hn0 e4
      simp only [go_sem] at hS
      obtain ⟨f1, f4, m0, hn⟩ := hS
      try simp only [go_sem] at hf
      refine rn ?_
      simp (maxDischargeDepth := 9) only [go_sem, Nat.reduceMul, Nat.reduceAdd, Nat.reduceLeDiff, Int.reduceSub, Int.reduceNeg, Int.reduceLT, Int.reduceLE, Int.reduceEq, *, rvalid_ans]
      all_goals exact AU_rplain
theorem AU_rordinary {p : Prop} (h : p := by
  repeat' (first | (with_reducible refine condLt (fun h h' => ?_) (fun h h' => ?_)) | (with_reducible refine condLe (fun h h' => ?_) (fun h h' => ?_)) | (with_reducible refine dop_val ?_) | (with_reducible refine YsLt (fun h h' => ?_) (fun h h' => ?_)) | (with_reducible refine YsLe (fun h h' => ?_) (fun h h' => ?_)) | (with_reducible refine condP (fun h => ?_) (fun h => ?_)) | (with_reducible refine condN (fun h => ?_) (fun h => ?_)) | (with_reducible refine condB (fun h => ?_) (fun h => ?_)) | (with_reducible refine condR (fun h => ?_) (fun h => ?_)) | (with_reducible refine YsB (fun h => ?_) (fun h => ?_)) | (with_reducible refine YsC (fun h => ?_) (fun h => ?_)) | (with_reducible refine Ys_ite (fun h => ?_) (fun h => ?_)) | (intro h) | (with_reducible refine draw_look (by kernel_rfl) (by kernel_rfl) ?_) | (simp (maxDischargeDepth := 9) only [go_sem, Nat.reduceMul, Nat.reduceAdd, Nat.reduceLeDiff, Int.reduceSub, Int.reduceNeg, Int.reduceLT, Int.reduceLE, Int.reduceEq, *, rvalid_ans, rones_ans]) | (exfalso; omega))) : p := h
theorem rordinary_ans (ext : CallF) (k : Nat) (n : IV) (p : Nat) (hk : maxLen + (16) ≤ k) (hnn : Ok n) : ans (tab.run ext k) 40 [.iv p 25 n] 1 = some ([.one (.at (.bool (ON n)))], [4]) := by
  obtain ⟨k, rfl⟩ : ∃ k', k = k' + 1 := ⟨k - 1, by omega⟩
  have hk1 : maxLen < k := by omega
  have hk0 : 0 < k := by omega
  have hk_0 : maxLen + (12) ≤ k := by omega
  have hk_1 : maxLen + (2) ≤ k := by omega
  refine fn_run (fx := fx40) (m := 31) 32 rfl rfl rfl rfl (fun st hn hg hr => ?_)
  have g0 : st.get (.tmp 0) = .v (.a (.iv p 25 n)) := hg 0 (of_decide_eq_true rfl)
  have r0 := hr 0
  clear hg hr
  rw [co40]
  simp only [Try.f40, Option.getD_some]
  unfold ON
  simp only [List.any_cons, List.any_nil, Bool.or_false]
  have hl1 := ok_len (ok_fld (j := 1) hnn)
  have hl2 := ok_len (ok_fld (j := 2) hnn)
  by_cases hvn : VN n = true
  case neg =>
    have hvf : VN n = false := by simpa using hvn
    simp (maxDischargeDepth := 9) only [go_sem, Nat.reduceMul, Nat.reduceAdd, Nat.reduceLeDiff, Int.reduceSub, Int.reduceNeg, Int.reduceLT, Int.reduceLE, Int.reduceEq, *, rvalid_ans, rones_ans]
  simp (maxDischargeDepth := 9) only [go_sem, Nat.reduceMul, Nat.reduceAdd, Nat.reduceLeDiff, Int.reduceSub, Int.reduceNeg, Int.reduceLT, Int.reduceLE, Int.reduceEq, *, rvalid_ans, rones_ans]
  refine gen_st (fun s0 hg hr hn0 => ?_)
  have e1 := hg 1
  have e3 := hg 3
  have q0 := hr 0
  clear hg hr
  simp only [go_sem, *] at hn0 e1 e3 q0
  refine nr (runs_for (asL (fld n 2)) (fun (_ : Unit) x => if (((asL (fld x 1)).any fun z => !decide (asI (fld z 1) = 1)) || ((asL (fld x 2)).any fun z => !decide (asI (fld z 1) = 1))) = true then .ret false else .next ()) () 32 (fun i a => [(1, s0.get (.tmp 1)), (3, .v (.a (.int .i64 (i : Nat))))]) (fun i a => [(0, s0.row 0)]) (fun i a => True) (by omega) ?_ (trivial) ?_ ?_ ?_ ?_)
  · simp (maxDischargeDepth := 9) only [go_sem, Nat.reduceMul, Nat.reduceAdd, Nat.reduceLeDiff, Int.reduceSub, Int.reduceNeg, Int.reduceLT, Int.reduceLE, Int.reduceEq, *, rvalid_ans, rones_ans]
  · intro i a; simp (maxDischargeDepth := 9) only [go_sem, Nat.reduceMul, Nat.reduceAdd, Nat.reduceLeDiff, Int.reduceSub, Int.reduceNeg, Int.reduceLT, Int.reduceLE, Int.reduceEq, *, rvalid_ans, rones_ans]
  · intro i a; simp (maxDischargeDepth := 9) only [go_sem, Nat.reduceMul, Nat.reduceAdd, Nat.reduceLeDiff, Int.reduceSub, Int.reduceNeg, Int.reduceLT, Int.reduceLE, Int.reduceEq, *, rvalid_ans, rones_ans]
  · intro i x a s hx hi hI hS
    clear hn0 e3
    simp only [go_sem] at hS
    obtain ⟨f1, f3, m0, hn⟩ := hS
    have hw := wrap_succ hi (hl2)
    have hox : Ok x := ok_get (ok_fld hnn) hx
    have ho1 : Ok (fld x 1) := ok_fld hox
    have ho2 : Ok (fld x 2) := ok_fld hox
    refine rn ?_
    simp (maxDischargeDepth := 9) only [go_sem, Nat.reduceMul, Nat.reduceAdd, Nat.reduceLeDiff, Int.reduceSub, Int.reduceNeg, Int.reduceLT, Int.reduceLE, Int.reduceEq, *, rvalid_ans, rones_ans]
    cases hA : ((asL (fld x 1)).any fun z => !decide (asI (fld z 1) = 1)) <;> cases hB : ((asL (fld x 2)).any fun z => !decide (asI (fld z 1) = 1))
    all_goals (try (simp (maxDischargeDepth := 9) only [go_sem, Nat.reduceMul, Nat.reduceAdd, Nat.reduceLeDiff, Int.reduceSub, Int.reduceNeg, Int.reduceLT, Int.reduceLE, Int.reduceEq, *, rvalid_ans, rones_ans]))
    all_goals (repeat' (first | (with_reducible refine condLt (fun h h' => ?_) (fun h h' => ?_)) | (with_reducible refine condLe (fun h h' => ?_) (fun h h' => ?_)) | (with_reducible refine dop_val ?_) | (with_reducible refine YsLt (fun h h' => ?_) (fun h h' => ?_)) | (with_reducible refine YsLe (fun h h' => ?_) (fun h h' => ?_)) | (with_reducible refine condP (fun h => ?_) (fun h => ?_)) | (with_reducible refine condN (fun h => ?_) (fun h => ?_)) | (with_reducible refine condB (fun h => ?_) (fun h => ?_)) | (with_reducible refine condR (fun h => ?_) (fun h => ?_)) | (with_reducible refine YsB (fun h => ?_) (fun h => ?_)) | (with_reducible refine YsC (fun h => ?_) (fun h => ?_)) | (with_reducible refine Ys_ite (fun h => ?_) (fun h => ?_)) | (intro h) | (with_reducible refine draw_look (by kernel_rfl) (by kernel_rfl) ?_) | (simp (maxDischargeDepth := 9) only [go_sem, Nat.reduceMul, Nat.reduceAdd, Nat.reduceLeDiff, Int.reduceSub, Int.reduceNeg, Int.reduceLT, Int.reduceLE, Int.reduceEq, *, rvalid_ans, rones_ans]) | (exfalso; omega)))
  · intro a s hI hf hS
    clear hn0 e3
    simp only [go_sem] at hS
    obtain ⟨f1, f3, m0, hn⟩ := hS
    try simp only [go_sem] at hf
    refine rn ?_
    simp (maxDischargeDepth := 9) only [go_sem, Nat.reduceMul, Nat.reduceAdd, Nat.reduceLeDiff, Int.reduceSub, Int.reduceNeg, Int.reduceLT, Int.reduceLE, Int.reduceEq, *, rvalid_ans, rones_ans]
    all_goals exact AU_rordinary
end Go.Proofs.Ytficdonjodadlaa
end
section
set_option linter.unusedSimpArgs false
set_option linter.unusedVariables false
set_option maxRecDepth 100000
set_option maxHeartbeats 4000000
namespace Go.Proofs.Ytficdonjodadlaa
open Go.Ev Go.Proofs
theorem AU_rinitial {p : Prop} (h : p := by
  repeat' (first | (with_reducible refine condLt (fun h h' => ?_) (fun h h' => ?_)) | (with_reducible refine condLe (fun h h' => ?_) (fun h h' => ?_)) | (with_reducible refine dop_val ?_) | (with_reducible refine YsLt (fun h h' => ?_) (fun h h' => ?_)) | (with_reducible refine YsLe (fun h h' => ?_) (fun h h' => ?_)) | (with_reducible refine condP (fun h => ?_) (fun h => ?_)) | (with_reducible refine condN (fun h => ?_) (fun h => ?_)) | (with_reducible refine condB (fun h => ?_) (fun h => ?_)) | (with_reducible refine condR (fun h => ?_) (fun h => ?_)) | (with_reducible refine YsB (fun h => ?_) (fun h => ?_)) | (with_reducible refine YsC (fun h => ?_) (fun h => ?_)) | (with_reducible refine Ys_ite (fun h => ?_) (fun h => ?_)) | (intro h) | (with_reducible refine draw_look (by kernel_rfl) (by kernel_rfl) ?_) | (simp (maxDischargeDepth := 9) only [go_sem, Nat.reduceMul, Nat.reduceAdd, Nat.reduceLeDiff, Int.reduceSub, Int.reduceNeg, Int.reduceLT, Int.reduceLE, Int.reduceEq, *, rcheck_ans, rplain_ans, rordinary_ans]) | (exfalso; omega))) : p := h
theorem rinitial_ans (ext : CallF) (k : Nat) (n : IV) (p : Nat) (hk : maxLen + (24) ≤ k) (hnn : Ok n) (hzp : (asL (fld n 1)).length ≤ 1000) : ans (tab.run ext k) 14 [.iv p 25 n] 7 = some ([ibR n, .one (.at (.int .i64 (IE n)))], [29, 34]) := by
  obtain ⟨k, rfl⟩ : ∃ k', k = k' + 1 := ⟨k - 1, by omega⟩
  have hk1 : maxLen < k := by omega
  have hk0 : 0 < k := by omega
  have hk_0 : maxLen + (16) ≤ k := by omega
  have hk_1 : maxLen + (8) ≤ k := by omega
  refine fn_run (fx := fx14) (m := 70) 71 rfl rfl rfl rfl (fun st hn hg hr => ?_)
  have g0 : st.get (.tmp 0) = .v (.a (.iv p 25 n)) := hg 0 (of_decide_eq_true rfl)
  have r0 := hr 0
  have r1 := hr 1
  have r2 := hr 2
  have r3 := hr 3
  have r4 := hr 4
  have r5 := hr 5
  have r6 := hr 6
  clear hg hr
  rw [co14]
  simp only [Try.f14, Option.getD_some]
  have hl1 := ok_len (ok_fld (j := 1) hnn)
  have hl2 := ok_len (ok_fld (j := 2) hnn)
  unfold ibR IE
  by_cases h1 : (NC n).1 = 0
  case neg =>
    simp (maxDischargeDepth := 9) only [go_sem, Nat.reduceMul, Nat.reduceAdd, Nat.reduceLeDiff, Int.reduceSub, Int.reduceNeg, Int.reduceLT, Int.reduceLE, Int.reduceEq, *, rcheck_ans, rplain_ans, rordinary_ans]
    with_reducible refine draw_with [1] (by kernel_rfl) (by kernel_rfl) ?_
    simp (maxDischargeDepth := 9) only [go_sem, Nat.reduceMul, Nat.reduceAdd, Nat.reduceLeDiff, Int.reduceSub, Int.reduceNeg, Int.reduceLT, Int.reduceLE, Int.reduceEq, *, rcheck_ans, rplain_ans, rordinary_ans]
    with_reducible refine dop_valW ?_ ?_
    · simp only [St.keysOf, Op.operands, List.flatMap_cons, List.flatMap_nil, SV.keys, V1.keys, At.keys, go_sem, *]
      try rfl
    simp (maxDischargeDepth := 9) only [go_sem, Nat.reduceMul, Nat.reduceAdd, Nat.reduceLeDiff, Int.reduceSub, Int.reduceNeg, Int.reduceLT, Int.reduceLE, Int.reduceEq, *, rcheck_ans, rplain_ans, rordinary_ans]
    with_reducible refine dop_valW ?_ ?_
    · simp only [St.keysOf, Op.operands, List.flatMap_cons, List.flatMap_nil, SV.keys, V1.keys, At.keys, go_sem, *]
      try rfl
    simp (maxDischargeDepth := 9) only [go_sem, Nat.reduceMul, Nat.reduceAdd, Nat.reduceLeDiff, Int.reduceSub, Int.reduceNeg, Int.reduceLT, Int.reduceLE, Int.reduceEq, *, rcheck_ans, rplain_ans, rordinary_ans]
    with_reducible refine dop_valW ?_ ?_
    · simp only [St.keysOf, Op.operands, List.flatMap_cons, List.flatMap_nil, SV.keys, V1.keys, At.keys, go_sem, *]
      try rfl
    simp (maxDischargeDepth := 9) only [go_sem, Nat.reduceMul, Nat.reduceAdd, Nat.reduceLeDiff, Int.reduceSub, Int.reduceNeg, Int.reduceLT, Int.reduceLE, Int.reduceEq, *, rcheck_ans, rplain_ans, rordinary_ans]
    with_reducible refine dop_eff (by kernel_rfl) rfl ?_
    simp (maxDischargeDepth := 9) only [go_sem, Nat.reduceMul, Nat.reduceAdd, Nat.reduceLeDiff, Int.reduceSub, Int.reduceNeg, Int.reduceLT, Int.reduceLE, Int.reduceEq, *, rcheck_ans, rplain_ans, rordinary_ans, Tab.eff]
    with_reducible refine dop_valW ?_ ?_
    · simp only [St.keysOf, Op.operands, List.flatMap_cons, List.flatMap_nil, SV.keys, V1.keys, At.keys, go_sem, *]
      try rfl
    simp (maxDischargeDepth := 9) only [go_sem, Nat.reduceMul, Nat.reduceAdd, Nat.reduceLeDiff, Int.reduceSub, Int.reduceNeg, Int.reduceLT, Int.reduceLE, Int.reduceEq, *, rcheck_ans, rplain_ans, rordinary_ans]
  by_cases h2 : PN n = true
  case neg =>
    have h2n : PN n = false := by simpa using h2
    simp (maxDischargeDepth := 9) only [go_sem, Nat.reduceMul, Nat.reduceAdd, Nat.reduceLeDiff, Int.reduceSub, Int.reduceNeg, Int.reduceLT, Int.reduceLE, Int.reduceEq, *, rcheck_ans, rplain_ans, rordinary_ans]
  by_cases h3 : ON n = true
  case neg =>
    have h3n : ON n = false := by simpa using h3
    simp (maxDischargeDepth := 9) only [go_sem, Nat.reduceMul, Nat.reduceAdd, Nat.reduceLeDiff, Int.reduceSub, Int.reduceNeg, Int.reduceLT, Int.reduceLE, Int.reduceEq, *, rcheck_ans, rplain_ans, rordinary_ans]
  simp (maxDischargeDepth := 9) only [go_sem, Nat.reduceMul, Nat.reduceAdd, Nat.reduceLeDiff, Int.reduceSub, Int.reduceNeg, Int.reduceLT, Int.reduceLE, Int.reduceEq, *, rcheck_ans, rplain_ans, rordinary_ans]
  refine gen_st (fun s0 hg hr hn0 => ?_)
  have e1 := hg 1
  have e2 := hg 2
  have e5 := hg 5
  have q0 := hr 0
  have q1 := hr 1
  have q2 := hr 2
  clear hg hr
  simp only [go_sem, *] at hn0 e1 e2 e5 q0 q1 q2
  refine nr (runs_for (asL (fld n 2)) (fun (_ : Unit) x => if (asL (fld x 1)).length = 0 then .ret true else .next ()) () 71 (fun i a => [(1, s0.get (.tmp 1)), (2, s0.get (.tmp 2)), (5, .v (.a (.int .i64 (i : Nat))))]) (fun i a => [(0, s0.row 0), (1, s0.row 1), (2, s0.row 2)]) (fun i a => True) (by omega) ?_ (trivial) ?_ ?_ ?_ ?_)
  · simp (maxDischargeDepth := 9) only [go_sem, Nat.reduceMul, Nat.reduceAdd, Nat.reduceLeDiff, Int.reduceSub, Int.reduceNeg, Int.reduceLT, Int.reduceLE, Int.reduceEq, *, rcheck_ans, rplain_ans, rordinary_ans]
  · intro i a; simp (maxDischargeDepth := 9) only [go_sem, Nat.reduceMul, Nat.reduceAdd, Nat.reduceLeDiff, Int.reduceSub, Int.reduceNeg, Int.reduceLT, Int.reduceLE, Int.reduceEq, *, rcheck_ans, rplain_ans, rordinary_ans]
  · intro i a; simp (maxDischargeDepth := 9) only [go_sem, Nat.reduceMul, Nat.reduceAdd, Nat.reduceLeDiff, Int.reduceSub, Int.reduceNeg, Int.reduceLT, Int.reduceLE, Int.reduceEq, *, rcheck_ans, rplain_ans, rordinary_ans]
  · intro i x a s hx hi hI hS
    clear hn0 e5
    simp only [go_sem] at hS
    obtain ⟨f1, f2, f5, m0, m1, m2, hn⟩ := hS
    have hw := wrap_succ hi (hl2)
    refine rn ?_
    simp (maxDischargeDepth := 9) only [go_sem, Nat.reduceMul, Nat.reduceAdd, Nat.reduceLeDiff, Int.reduceSub, Int.reduceNeg, Int.reduceLT, Int.reduceLE, Int.reduceEq, *, rcheck_ans, rplain_ans, rordinary_ans]
    all_goals exact AU_rinitial
  · intro a s hI hf hS
    clear hn0 e5
    simp only [go_sem] at hS
    obtain ⟨f1, f2, f5, m0, m1, m2, hn⟩ := hS
    try simp only [go_sem] at hf
    refine rn ?_
    simp (maxDischargeDepth := 9) only [go_sem, Nat.reduceMul, Nat.reduceAdd, Nat.reduceLeDiff, Int.reduceSub, Int.reduceNeg, Int.reduceLT, Int.reduceLE, Int.reduceEq, *, rcheck_ans, rplain_ans, rordinary_ans]
    refine gen_st (fun s0 hg hr hn0 => ?_)
    have e1 := hg 1
    have e2 := hg 2
    have e6 := hg 6
    have e7 := hg 7
    have q0 := hr 0
    have q1 := hr 1
    have q2 := hr 2
    have q3 := hr 3
    have q4 := hr 4
    clear hg hr
    simp only [go_sem, *] at hn0 e1 e2 e6 e7 q0 q1 q2 q3 q4
    refine nr (runs_forN (asL (fld n 1)).length (fun (_ : Unit) i => if (1 : Int) < asI (fld ((asL (fld n 1)).getD i .N) 1) then .ret true else .next ()) () 71 (fun i a => [(1, s0.get (.tmp 1)), (2, s0.get (.tmp 2)), (6, s0.get (.tmp 6)), (7, .v (.a (.int .i64 (i : Nat))))]) (fun i a => [(0, s0.row 0), (1, s0.row 1), (2, s0.row 2), (3, some (.box false 29 [0] (.g 29 [.own 4, .iv 2 27 .N]))), (4, some (.arr 2 54 (ics n i)))]) (fun i a => True) (by omega) ?_ (trivial) ?_ ?_ ?_ ?_)
    · simp (maxDischargeDepth := 9) only [go_sem, Nat.reduceMul, Nat.reduceAdd, Nat.reduceLeDiff, Int.reduceSub, Int.reduceNeg, Int.reduceLT, Int.reduceLE, Int.reduceEq, *, rcheck_ans, rplain_ans, rordinary_ans]
    · intro i a; simp (maxDischargeDepth := 9) only [go_sem, Nat.reduceMul, Nat.reduceAdd, Nat.reduceLeDiff, Int.reduceSub, Int.reduceNeg, Int.reduceLT, Int.reduceLE, Int.reduceEq, *, rcheck_ans, rplain_ans, rordinary_ans]
    · intro i a; simp (maxDischargeDepth := 9) only [go_sem, Nat.reduceMul, Nat.reduceAdd, Nat.reduceLeDiff, Int.reduceSub, Int.reduceNeg, Int.reduceLT, Int.reduceLE, Int.reduceEq, *, rcheck_ans, rplain_ans, rordinary_ans]
    · intro i a s hi hI hS
      clear hn0 e7 q3 q4
      simp only [go_sem] at hS
      obtain ⟨f1, f2, f6, f7, m0, m1, m2, m3, m4, hn⟩ := hS
      have hw := wrap_succ hi (hl1)
      have hil : (ics n i).length + 1 ≤ 1000000 := by have := ics_len (n := n) (i := i); omega
      refine rn ?_
      simp (maxDischargeDepth := 9) only [go_sem, Nat.reduceMul, Nat.reduceAdd, Nat.reduceLeDiff, Int.reduceSub, Int.reduceNeg, Int.reduceLT, Int.reduceLE, Int.reduceEq, *, rcheck_ans, rplain_ans, rordinary_ans]
      all_goals exact AU_rinitial
    · intro a s hI hf hS
      clear hn0 e7 q3 q4
      simp only [go_sem] at hS
      obtain ⟨f1, f2, f6, f7, m0, m1, m2, m3, m4, hn⟩ := hS
      try simp only [go_sem] at hf
      refine rn ?_
      simp (maxDischargeDepth := 9) only [go_sem, Nat.reduceMul, Nat.reduceAdd, Nat.reduceLeDiff, Int.reduceSub, Int.reduceNeg, Int.reduceLT, Int.reduceLE, Int.reduceEq, *, rcheck_ans, rplain_ans, rordinary_ans]
      all_goals exact AU_rinitial
theorem AU_rrise {p : Prop} (h : p := by
  repeat' (first | (with_reducible refine condLt (fun h h' => ?_) (fun h h' => ?_)) | (with_reducible refine condLe (fun h h' => ?_) (fun h h' => ?_)) | (with_reducible refine dop_val ?_) | (with_reducible refine YsLt (fun h h' => ?_) (fun h h' => ?_)) | (with_reducible refine YsLe (fun h h' => ?_) (fun h h' => ?_)) | (with_reducible refine condP (fun h => ?_) (fun h => ?_)) | (with_reducible refine condN (fun h => ?_) (fun h => ?_)) | (with_reducible refine condB (fun h => ?_) (fun h => ?_)) | (with_reducible refine condR (fun h => ?_) (fun h => ?_)) | (with_reducible refine YsB (fun h => ?_) (fun h => ?_)) | (with_reducible refine YsC (fun h => ?_) (fun h => ?_)) | (with_reducible refine Ys_ite (fun h => ?_) (fun h => ?_)) | (intro h) | (with_reducible refine draw_look (by kernel_rfl) (by kernel_rfl) ?_) | (simp (maxDischargeDepth := 9) only [go_sem, Nat.reduceMul, Nat.reduceAdd, Nat.reduceLeDiff, Int.reduceSub, Int.reduceNeg, Int.reduceLT, Int.reduceLE, Int.reduceEq, *]) | (exfalso; omega))) : p := h
theorem rrise_ans (ext : CallF) (k : Nat) (l : IV) (p : Nat) (hk : maxLen + (2) ≤ k) (hv : Ok l) : ans (tab.run ext k) 42 [.iv p 46 l] 0 = some ([.one (.at (.bool (!RZ l)))], [4]) := by
  obtain ⟨k, rfl⟩ : ∃ k', k = k' + 1 := ⟨k - 1, by omega⟩
  have hk1 : maxLen < k := by omega
  have hk0 : 0 < k := by omega
  refine fn_run (fx := fx42) (m := 19) 20 rfl rfl rfl rfl (fun st hn hg hr => ?_)
  have g0 : st.get (.tmp 0) = .v (.a (.iv p 46 l)) := hg 0 (of_decide_eq_true rfl)
  clear hg hr
  rw [co42]
  simp only [Try.f42, Option.getD_some]
  unfold RZ
  have hlq := ok_len hv
  simp (maxDischargeDepth := 9) only [go_sem, Nat.reduceMul, Nat.reduceAdd, Nat.reduceLeDiff, Int.reduceSub, Int.reduceNeg, Int.reduceLT, Int.reduceLE, Int.reduceEq, *]
  refine gen_st (fun s0 hg hr hn0 => ?_)
  have e0 := hg 0
  have e3 := hg 3
  clear hg hr
  simp only [go_sem, *] at hn0 e0 e3
  refine nr (runs_forN ((asL l).length - 1) (fun (_ : Unit) i => if asI ((asL l).getD (i + 1) .N) ≤ asI ((asL l).getD i .N) then .ret true else .next ()) () 20 (fun i a => [(0, s0.get (.tmp 0)), (3, .v (.a (.int .i64 (((i : Nat) : Int) + 1))))]) (fun i a => []) (fun i a => True) (by omega) ?_ (trivial) ?_ ?_ ?_ ?_)
  · simp (maxDischargeDepth := 9) only [go_sem, Nat.reduceMul, Nat.reduceAdd, Nat.reduceLeDiff, Int.reduceSub, Int.reduceNeg, Int.reduceLT, Int.reduceLE, Int.reduceEq, *]
  · intro i a; simp (maxDischargeDepth := 9) only [go_sem, Nat.reduceMul, Nat.reduceAdd, Nat.reduceLeDiff, Int.reduceSub, Int.reduceNeg, Int.reduceLT, Int.reduceLE, Int.reduceEq, *]
  · intro i a; simp (maxDischargeDepth := 9) only [go_sem, Nat.reduceMul, Nat.reduceAdd, Nat.reduceLeDiff, Int.reduceSub, Int.reduceNeg, Int.reduceLT, Int.reduceLE, Int.reduceEq, *]
  · intro i a s hi hI hS
    clear hn0 e3
    simp only [go_sem] at hS
    obtain ⟨f0, f3, hn⟩ := hS
    have hlt : ((i : Nat) : Int) + 1 < ((asL l).length : Int) := by omega
    have hiL : i < (asL l).length := by omega
    have hiL2 : i + 1 < (asL l).length := by omega
    have hw : IntKind.i64.wrap (((i : Nat) : Int) + 1 + 1) = ((i + 1 : Nat) : Int) + 1 := by
      rw [Go.IntWalk.i64_in _ (by unfold maxLen at hlq; omega)]; omega
    have hws : IntKind.i64.wrap (((i : Nat) : Int) + 1 - 1) = ((i : Nat) : Int) := by
      rw [Go.IntWalk.i64_in _ (by unfold maxLen at hlq; omega)]; omega
    have hge : (0 : Int) ≤ ((i : Nat) : Int) + 1 := by omega
    have hti : (((i : Nat) : Int) + 1).toNat = i + 1 := by omega
    refine rn ?_
    simp (maxDischargeDepth := 9) only [go_sem, Nat.reduceMul, Nat.reduceAdd, Nat.reduceLeDiff, Int.reduceSub, Int.reduceNeg, Int.reduceLT, Int.reduceLE, Int.reduceEq, *]
    all_goals exact AU_rrise
  · intro a s hI hf hS
    clear hn0 e3
    simp only [go_sem] at hS
    obtain ⟨f0, f3, hn⟩ := hS
    try simp only [go_sem] at hf
    have hnl : ¬ (((asL l).length - 1 : Nat) : Int) + 1 < ((asL l).length : Int) := by omega
    refine rn ?_
    simp (maxDischargeDepth := 9) only [go_sem, Nat.reduceMul, Nat.reduceAdd, Nat.reduceLeDiff, Int.reduceSub, Int.reduceNeg, Int.reduceLT, Int.reduceLE, Int.reduceEq, *]
    all_goals exact AU_rrise
end Go.Proofs.Ytficdonjodadlaa
end
section
set_option linter.unusedSimpArgs false
set_option linter.unusedVariables false
set_option maxRecDepth 100000
set_option maxHeartbeats 4000000
namespace Go.Proofs.Ytficdonjodadlaa
open Go.Ev Go.Proofs
theorem AU_rfits {p : Prop} (h : p := by
  repeat' (first | (with_reducible refine condLt (fun h h' => ?_) (fun h h' => ?_)) | (with_reducible refine condLe (fun h h' => ?_) (fun h h' => ?_)) | (with_reducible refine dop_val ?_) | (with_reducible refine YsLt (fun h h' => ?_) (fun h h' => ?_)) | (with_reducible refine YsLe (fun h h' => ?_) (fun h h' => ?_)) | (with_reducible refine condP (fun h => ?_) (fun h => ?_)) | (with_reducible refine condN (fun h => ?_) (fun h => ?_)) | (with_reducible refine condB (fun h => ?_) (fun h => ?_)) | (with_reducible refine condR (fun h => ?_) (fun h => ?_)) | (with_reducible refine YsB (fun h => ?_) (fun h => ?_)) | (with_reducible refine YsC (fun h => ?_) (fun h => ?_)) | (with_reducible refine Ys_ite (fun h => ?_) (fun h => ?_)) | (intro h) | (with_reducible refine draw_look (by kernel_rfl) (by kernel_rfl) ?_) | (simp (maxDischargeDepth := 9) only [go_sem, Nat.reduceMul, Nat.reduceAdd, Nat.reduceLeDiff, Int.reduceSub, Int.reduceNeg, Int.reduceLT, Int.reduceLE, Int.reduceEq, *]) | (exfalso; omega))) : p := h
theorem rfits_ans (ext : CallF) (k : Nat) (n b l : IV) (t : Int) (p q r : Nat) (hk : maxLen + (2) ≤ k) (hnn : Ok n) (hv : Ok l) (ht0 : 0 ≤ t) (ht1 : t < ((asL (fld n 2)).length : Int)) (hin : ∀ x ∈ asL l, 0 ≤ asI x ∧ asI x < ((asL (fld b 0)).length : Int)) : ans (tab.run ext k) 43 [.iv p 25 n, .iv q 29 b, .int .i64 t, .iv r 46 l] 2 = some ([.one (.at (.bool (rfit b (asL (fld (el (asL (fld n 2)) t) 1)) (asL l))))], [4]) := by
  obtain ⟨k, rfl⟩ : ∃ k', k = k' + 1 := ⟨k - 1, by omega⟩
  have hk1 : maxLen < k := by omega
  have hk0 : 0 < k := by omega
  refine fn_run (fx := fx43) (m := 52) 56 rfl rfl rfl rfl (fun st hn hg hr => ?_)
  have g0 : st.get (.tmp 0) = .v (.a (.iv p 25 n)) := hg 0 (of_decide_eq_true rfl)
  have g1 : st.get (.tmp 1) = .v (.a (.iv q 29 b)) := hg 1 (of_decide_eq_true rfl)
  have g2 : st.get (.tmp 2) = .v (.a (.int .i64 t)) := hg 2 (of_decide_eq_true rfl)
  have g3 : st.get (.tmp 3) = .v (.a (.iv r 46 l)) := hg 3 (of_decide_eq_true rfl)
  have r0 := hr 0
  have r1 := hr 1
  clear hg hr
  rw [co43]
  simp only [Try.f43, Option.getD_some]
  unfold rfit
  have hlv := ok_len hv
  have hlp : (asL (fld (el (asL (fld n 2)) t) 1)).length ≤ maxLen := ok_len (ok_fld (ok_el (ok_fld hnn)))
  by_cases hpl : (asL (fld (el (asL (fld n 2)) t) 1)).length = (asL l).length
  case neg =>
    have hpl2 : ¬(asL l).length = (asL (fld (el (asL (fld n 2)) t) 1)).length := fun h => hpl h.symm
    simp (maxDischargeDepth := 9) only [go_sem, Nat.reduceMul, Nat.reduceAdd, Nat.reduceLeDiff, Int.reduceSub, Int.reduceNeg, Int.reduceLT, Int.reduceLE, Int.reduceEq, *]
    all_goals exact AU_rfits
  simp (maxDischargeDepth := 9) only [go_sem, Nat.reduceMul, Nat.reduceAdd, Nat.reduceLeDiff, Int.reduceSub, Int.reduceNeg, Int.reduceLT, Int.reduceLE, Int.reduceEq, *]
  refine gen_st (fun s0 hg hr hn0 => ?_)
  have e3 := hg 3
  have e5 := hg 5
  have e9 := hg 9
  have e10 := hg 10
  have q0 := hr 0
  have q1 := hr 1
  clear hg hr
  simp only [go_sem, *] at hn0 e3 e5 e9 e10 q0 q1
  refine nr (runs_forN (asL l).length (fun (_ : Unit) i => if ((asL l).any fun x => decide (asI (fld (el (asL (fld b 0)) (asI x)) 0) = asI (fld ((asL (fld (el (asL (fld n 2)) t) 1)).getD i .N) 0))) = true then .next () else .ret false) () 56 (fun i a => [(3, s0.get (.tmp 3)), (5, s0.get (.tmp 5)), (9, s0.get (.tmp 9)), (10, .v (.a (.int .i64 (i : Nat))))]) (fun i a => [(0, s0.row 0), (1, s0.row 1)]) (fun i a => True) (by omega) ?_ (trivial) ?_ ?_ ?_ ?_)
  · simp (maxDischargeDepth := 9) only [go_sem, Nat.reduceMul, Nat.reduceAdd, Nat.reduceLeDiff, Int.reduceSub, Int.reduceNeg, Int.reduceLT, Int.reduceLE, Int.reduceEq, *]
  · intro i a; simp (maxDischargeDepth := 9) only [go_sem, Nat.reduceMul, Nat.reduceAdd, Nat.reduceLeDiff, Int.reduceSub, Int.reduceNeg, Int.reduceLT, Int.reduceLE, Int.reduceEq, *]
  · intro i a; simp (maxDischargeDepth := 9) only [go_sem, Nat.reduceMul, Nat.reduceAdd, Nat.reduceLeDiff, Int.reduceSub, Int.reduceNeg, Int.reduceLT, Int.reduceLE, Int.reduceEq, *]
  · intro i a s hi hI hS
    clear hn0 e10
    simp only [go_sem] at hS
    obtain ⟨f3, f5, f9, f10, m0, m1, hn⟩ := hS
    have hw := wrap_succ hi (hlv)
    have hio := hi
    refine rn ?_
    simp (maxDischargeDepth := 9) only [go_sem, Nat.reduceMul, Nat.reduceAdd, Nat.reduceLeDiff, Int.reduceSub, Int.reduceNeg, Int.reduceLT, Int.reduceLE, Int.reduceEq, *]
    refine gen_st (fun s0 hg hr hn0 => ?_)
    have e3 := hg 3
    have e5 := hg 5
    have e9 := hg 9
    have e10 := hg 10
    have e24 := hg 24
    have e25 := hg 25
    have e26 := hg 26
    have e27 := hg 27
    have e12 := hg 12
    have e11 := hg 11
    have q0 := hr 0
    have q1 := hr 1
    clear hg hr
    simp only [go_sem, *] at hn0 e3 e5 e9 e10 e24 e25 e26 e27 e12 e11 q0 q1
    refine nr (runs_for (asL l) (fun (fnd : Bool) x => Stp.next (ρ := Unit) (fnd || decide (asI (fld (el (asL (fld b 0)) (asI x)) 0) = asI (fld ((asL (fld (el (asL (fld n 2)) t) 1)).getD i .N) 0)))) false 56 (fun j fnd => [(3, s0.get (.tmp 3)), (5, s0.get (.tmp 5)), (9, s0.get (.tmp 9)), (10, s0.get (.tmp 10)), (24, s0.get (.tmp 24)), (25, s0.get (.tmp 25)), (26, s0.get (.tmp 26)), (27, s0.get (.tmp 27)), (11, .v (.a (.bool fnd))), (12, .v (.a (.int .i64 (j : Nat))))]) (fun j fnd => [(0, s0.row 0), (1, s0.row 1)]) (fun j fnd => True) (by omega) ?_ (trivial) ?_ ?_ ?_ ?_)
    · simp (maxDischargeDepth := 9) only [go_sem, Nat.reduceMul, Nat.reduceAdd, Nat.reduceLeDiff, Int.reduceSub, Int.reduceNeg, Int.reduceLT, Int.reduceLE, Int.reduceEq, *]
    · intro i a; simp (maxDischargeDepth := 9) only [go_sem, Nat.reduceMul, Nat.reduceAdd, Nat.reduceLeDiff, Int.reduceSub, Int.reduceNeg, Int.reduceLT, Int.reduceLE, Int.reduceEq, *]
    · intro i a; simp (maxDischargeDepth := 9) only [go_sem, Nat.reduceMul, Nat.reduceAdd, Nat.reduceLeDiff, Int.reduceSub, Int.reduceNeg, Int.reduceLT, Int.reduceLE, Int.reduceEq, *]
    · intro j x fnd s hx hi hI hS
      clear hn0 e12 e11
      simp only [go_sem] at hS
      obtain ⟨f3, f5, f9, f10, f24, f25, f26, f27, f11, f12, m0, m1, hn⟩ := hS
      have hw := wrap_succ hi (hlv)
      obtain ⟨hx0, hx1⟩ := hin x (List.mem_of_getElem? hx)
      refine rn ?_
      simp (maxDischargeDepth := 9) only [go_sem, Nat.reduceMul, Nat.reduceAdd, Nat.reduceLeDiff, Int.reduceSub, Int.reduceNeg, Int.reduceLT, Int.reduceLE, Int.reduceEq, *]
      cases fnd
      case false =>
        with_reducible refine draw_look (by kernel_rfl) (by kernel_rfl) ?_
        simp (maxDischargeDepth := 9) only [go_sem, Nat.reduceMul, Nat.reduceAdd, Nat.reduceLeDiff, Int.reduceSub, Int.reduceNeg, Int.reduceLT, Int.reduceLE, Int.reduceEq, *]
        iterate 18
          with_reducible refine dop_val ?_
          simp (maxDischargeDepth := 9) only [go_sem, Nat.reduceMul, Nat.reduceAdd, Nat.reduceLeDiff, Int.reduceSub, Int.reduceNeg, Int.reduceLT, Int.reduceLE, Int.reduceEq, *]
        with_reducible refine dop_loud (by kernel_rfl) ?_
        simp (maxDischargeDepth := 9) only [go_sem, Nat.reduceMul, Nat.reduceAdd, Nat.reduceLeDiff, Int.reduceSub, Int.reduceNeg, Int.reduceLT, Int.reduceLE, Int.reduceEq, *]
      case true =>
        with_reducible refine draw_look (by kernel_rfl) (by kernel_rfl) ?_
        simp (maxDischargeDepth := 9) only [go_sem, Nat.reduceMul, Nat.reduceAdd, Nat.reduceLeDiff, Int.reduceSub, Int.reduceNeg, Int.reduceLT, Int.reduceLE, Int.reduceEq, *]
        iterate 18
          with_reducible refine dop_val ?_
          simp (maxDischargeDepth := 9) only [go_sem, Nat.reduceMul, Nat.reduceAdd, Nat.reduceLeDiff, Int.reduceSub, Int.reduceNeg, Int.reduceLT, Int.reduceLE, Int.reduceEq, *]
        with_reducible refine dop_loud (by kernel_rfl) ?_
        simp (maxDischargeDepth := 9) only [go_sem, Nat.reduceMul, Nat.reduceAdd, Nat.reduceLeDiff, Int.reduceSub, Int.reduceNeg, Int.reduceLT, Int.reduceLE, Int.reduceEq, *]
    · intro fnd s hI hf hS
      clear hn0 e12 e11
      simp only [go_sem] at hS
      obtain ⟨f3, f5, f9, f10, f24, f25, f26, f27, f11, f12, m0, m1, hn⟩ := hS
      try simp only [go_sem] at hf
      rw [foldl_orb, Bool.false_or] at hf
      subst hf
      refine rn ?_
      simp (maxDischargeDepth := 9) only [go_sem, Nat.reduceMul, Nat.reduceAdd, Nat.reduceLeDiff, Int.reduceSub, Int.reduceNeg, Int.reduceLT, Int.reduceLE, Int.reduceEq, *]
      all_goals exact AU_rfits
  · intro a s hI hf hS
    clear hn0 e10
    simp only [go_sem] at hS
    obtain ⟨f3, f5, f9, f10, m0, m1, hn⟩ := hS
    try simp only [go_sem] at hf
    refine rn ?_
    simp (maxDischargeDepth := 9) only [go_sem, Nat.reduceMul, Nat.reduceAdd, Nat.reduceLeDiff, Int.reduceSub, Int.reduceNeg, Int.reduceLT, Int.reduceLE, Int.reduceEq, *]
    all_goals exact AU_rfits
theorem AU_rlisted {p : Prop} (h : p := by
  repeat' (first | (with_reducible refine condLt (fun h h' => ?_) (fun h h' => ?_)) | (with_reducible refine condLe (fun h h' => ?_) (fun h h' => ?_)) | (with_reducible refine dop_val ?_) | (with_reducible refine YsLt (fun h h' => ?_) (fun h h' => ?_)) | (with_reducible refine YsLe (fun h h' => ?_) (fun h h' => ?_)) | (with_reducible refine condP (fun h => ?_) (fun h => ?_)) | (with_reducible refine condN (fun h => ?_) (fun h => ?_)) | (with_reducible refine condB (fun h => ?_) (fun h => ?_)) | (with_reducible refine condR (fun h => ?_) (fun h => ?_)) | (with_reducible refine YsB (fun h => ?_) (fun h => ?_)) | (with_reducible refine YsC (fun h => ?_) (fun h => ?_)) | (with_reducible refine Ys_ite (fun h => ?_) (fun h => ?_)) | (intro h) | (with_reducible refine draw_look (by kernel_rfl) (by kernel_rfl) ?_) | (simp (maxDischargeDepth := 9) only [go_sem, Nat.reduceMul, Nat.reduceAdd, Nat.reduceLeDiff, Int.reduceSub, Int.reduceNeg, Int.reduceLT, Int.reduceLE, Int.reduceEq, *, lsame_ans]) | (exfalso; omega))) : p := h
theorem rlisted_ans (ext : CallF) (k : Nat) (b l : IV) (m : Nat) (t : Int) (p q : Nat) (hk : maxLen + (6) ≤ k) (hb : Ok b) (hm : m ≤ (asL (fld b 1)).length) : ans (tab.run ext k) 44 [.iv p 29 b, .int .i64 (m : Nat), .int .i64 t, .iv q 46 l] 1 = some ([.one (.at (.bool (lst b m t l)))], [4]) := by
  obtain ⟨k, rfl⟩ : ∃ k', k = k' + 1 := ⟨k - 1, by omega⟩
  have hk1 : maxLen < k := by omega
  have hk0 : 0 < k := by omega
  have hk_0 : maxLen + (2) ≤ k := by omega
  refine fn_run (fx := fx44) (m := 29) 33 rfl rfl rfl rfl (fun st hn hg hr => ?_)
  have g0 : st.get (.tmp 0) = .v (.a (.iv p 29 b)) := hg 0 (of_decide_eq_true rfl)
  have g1 : st.get (.tmp 1) = .v (.a (.int .i64 (m : Nat))) := hg 1 (of_decide_eq_true rfl)
  have g2 : st.get (.tmp 2) = .v (.a (.int .i64 t)) := hg 2 (of_decide_eq_true rfl)
  have g3 : st.get (.tmp 3) = .v (.a (.iv q 46 l)) := hg 3 (of_decide_eq_true rfl)
  have r0 := hr 0
  clear hg hr
  rw [co44]
  simp only [Try.f44, Option.getD_some]
  unfold lst
  have hl1 := ok_len (ok_fld (j := 1) hb)
  simp (maxDischargeDepth := 9) only [go_sem, Nat.reduceMul, Nat.reduceAdd, Nat.reduceLeDiff, Int.reduceSub, Int.reduceNeg, Int.reduceLT, Int.reduceLE, Int.reduceEq, *, lsame_ans]
  refine gen_st (fun s0 hg hr hn0 => ?_)
  have e1 := hg 1
  have e2 := hg 2
  have e3 := hg 3
  have e4 := hg 4
  have e9 := hg 9
  have q0 := hr 0
  clear hg hr
  simp only [go_sem, *] at hn0 e1 e2 e3 e4 e9 q0
  refine nr (runs_forN m (fun (_ : Unit) i => if (decide (asI (fld ((asL (fld b 1)).getD i .N) 0) = t) && SM (fld ((asL (fld b 1)).getD i .N) 1) l) = true then .ret true else .next ()) () 33 (fun i a => [(1, s0.get (.tmp 1)), (2, s0.get (.tmp 2)), (3, s0.get (.tmp 3)), (4, s0.get (.tmp 4)), (9, .v (.a (.int .i64 (i : Nat))))]) (fun i a => [(0, s0.row 0)]) (fun i a => True) (by omega) ?_ (trivial) ?_ ?_ ?_ ?_)
  · simp (maxDischargeDepth := 9) only [go_sem, Nat.reduceMul, Nat.reduceAdd, Nat.reduceLeDiff, Int.reduceSub, Int.reduceNeg, Int.reduceLT, Int.reduceLE, Int.reduceEq, *, lsame_ans]
  · intro i a; simp (maxDischargeDepth := 9) only [go_sem, Nat.reduceMul, Nat.reduceAdd, Nat.reduceLeDiff, Int.reduceSub, Int.reduceNeg, Int.reduceLT, Int.reduceLE, Int.reduceEq, *, lsame_ans]
  · intro i a; simp (maxDischargeDepth := 9) only [go_sem, Nat.reduceMul, Nat.reduceAdd, Nat.reduceLeDiff, Int.reduceSub, Int.reduceNeg, Int.reduceLT, Int.reduceLE, Int.reduceEq, *, lsame_ans]
  · intro i a s hi hI hS
    clear hn0 e9
    simp only [go_sem] at hS
    obtain ⟨f1, f2, f3, f4, f9, m0, hn⟩ := hS
    have hw := wrap_succ hi (by omega)
    have hiL : i < (asL (fld b 1)).length := by omega
    have hox : Ok (fld ((asL (fld b 1)).getD i .N) 1) := ok_fld (ok_getD (ok_fld hb))
    refine rn ?_
    simp (maxDischargeDepth := 9) only [go_sem, Nat.reduceMul, Nat.reduceAdd, Nat.reduceLeDiff, Int.reduceSub, Int.reduceNeg, Int.reduceLT, Int.reduceLE, Int.reduceEq, *, lsame_ans]
    all_goals exact AU_rlisted
  · intro a s hI hf hS
    clear hn0 e9
    simp only [go_sem] at hS
    obtain ⟨f1, f2, f3, f4, f9, m0, hn⟩ := hS
    try simp only [go_sem] at hf
    refine rn ?_
    simp (maxDischargeDepth := 9) only [go_sem, Nat.reduceMul, Nat.reduceAdd, Nat.reduceLeDiff, Int.reduceSub, Int.reduceNeg, Int.reduceLT, Int.reduceLE, Int.reduceEq, *, lsame_ans]
    all_goals exact AU_rlisted
end Go.Proofs.Ytficdonjodadlaa
end
section
set_option linter.unusedSimpArgs false
set_option linter.unusedVariables false
set_option maxRecDepth 100000
set_option maxHeartbeats 4000000
namespace Go.Proofs.Ytficdonjodadlaa
open Go.Ev Go.Proofs
theorem AU_rchoose1 {p : Prop} (h : p := by
  repeat' (first | (with_reducible refine condLt (fun h h' => ?_) (fun h h' => ?_)) | (with_reducible refine condLe (fun h h' => ?_) (fun h h' => ?_)) | (with_reducible refine dop_val ?_) | (with_reducible refine YsLt (fun h h' => ?_) (fun h h' => ?_)) | (with_reducible refine YsLe (fun h h' => ?_) (fun h h' => ?_)) | (with_reducible refine condP (fun h => ?_) (fun h => ?_)) | (with_reducible refine condN (fun h => ?_) (fun h => ?_)) | (with_reducible refine condB (fun h => ?_) (fun h => ?_)) | (with_reducible refine condR (fun h => ?_) (fun h => ?_)) | (with_reducible refine YsB (fun h => ?_) (fun h => ?_)) | (with_reducible refine YsC (fun h => ?_) (fun h => ?_)) | (with_reducible refine Ys_ite (fun h => ?_) (fun h => ?_)) | (intro h) | (with_reducible refine draw_look (by kernel_rfl) (by kernel_rfl) ?_) | (simp (maxDischargeDepth := 9) only [go_sem, Nat.reduceMul, Nat.reduceAdd, Nat.reduceLeDiff, Int.reduceSub, Int.reduceNeg, Int.reduceLT, Int.reduceLE, Int.reduceEq, *, rfits_ans, rlisted_ans, rcopy_ans, rweight_ans, together_ans]) | (exfalso; omega))) : p := h
theorem rchoose1_ans (ext : CallF) (k : Nat) (n b v : IV) (t : Int) (w fr r m : Nat) (hk : maxLen + (20) ≤ k) (hnn : Ok n) (hb : Ok b) (hv : Ok v) (hfd : FD b = true) (hz : (asL (fld b 1)).length ≤ 1000000) (hL : (asL (fld b 0)).length ≤ 24) (ht0 : 0 ≤ t) (ht1 : t < ((asL (fld n 2)).length : Int)) (hin : ∀ x ∈ asL v, ∃ c : Nat, x = .I (c : Int) ∧ c < (asL (fld b 0)).length) (hfl : fr ≤ (asL (fld b 0)).length) (hm : m ≤ 6) (hrm : (asL v).length + r = m) (hrec : ∀ k' : Nat, k = k' + 1 → ∀ c r' : Nat, c < (asL (fld b 0)).length → r = r' + 1 → ans (tab.run ext k') 49 [.iv 2 25 n, .iv 2 29 b, .int .i64 t, .iv 2 46 (.L (asL v ++ [.I (c : Int)])), .int .i64 ((c + 1 : Nat) : Int), .int .i64 ((m : Nat) : Int)] 5 = some ([.one (chR (chF b (fld (el (asL (fld n 2)) t) 1) t r' (asL v ++ [.I (c : Int)])) (chs b (fld (el (asL (fld n 2)) t) 1) t r' (asL v ++ [.I (c : Int)]) (c + 1)))], [44])) : ans (tab.run ext k) 49 [.iv 2 25 n, .iv 2 29 b, .int .i64 t, .iv w 46 v, .int .i64 ((fr : Nat) : Int), .int .i64 ((m : Nat) : Int)] 5 = some ([.one (chR (chF b (fld (el (asL (fld n 2)) t) 1) t r (asL v)) (chs b (fld (el (asL (fld n 2)) t) 1) t r (asL v) fr))], [44]) := by
  obtain ⟨k, rfl⟩ : ∃ k', k = k' + 1 := ⟨k - 1, by omega⟩
  have hk1 : maxLen < k := by omega
  have hk0 : 0 < k := by omega
  have hk_0 : maxLen + (10) ≤ k := by omega
  have hk_1 : maxLen + (2) ≤ k := by omega
  have hk_2 : maxLen + (6) ≤ k := by omega
  refine fn_run (fx := fx49) (m := 89) 95 rfl rfl rfl rfl (fun st hn hg hr => ?_)
  have g0 : st.get (.tmp 0) = .v (.a (.iv 2 25 n)) := hg 0 (of_decide_eq_true rfl)
  have g1 : st.get (.tmp 1) = .v (.a (.iv 2 29 b)) := hg 1 (of_decide_eq_true rfl)
  have g2 : st.get (.tmp 2) = .v (.a (.int .i64 t)) := hg 2 (of_decide_eq_true rfl)
  have g3 : st.get (.tmp 3) = .v (.a (.iv w 46 v)) := hg 3 (of_decide_eq_true rfl)
  have g4 : st.get (.tmp 4) = .v (.a (.int .i64 ((fr : Nat) : Int))) := hg 4 (of_decide_eq_true rfl)
  have g5 : st.get (.tmp 5) = .v (.a (.int .i64 ((m : Nat) : Int))) := hg 5 (of_decide_eq_true rfl)
  have r0 := hr 0
  have r1 := hr 1
  have r2 := hr 2
  have r3 := hr 3
  have r4 := hr 4
  clear hg hr
  rw [co49]
  simp only [Try.f49, Option.getD_some]
  have hl0 := ok_len (ok_fld (j := 0) hb)
  have hl1 := ok_len (ok_fld (j := 1) hb)
  have hlv := ok_len hv
  have hint : ∀ x ∈ asL v, ∃ z : Int, x = .I z := fun x hx => by obtain ⟨c, h, _⟩ := hin x hx; exact ⟨_, h⟩
  have hinr : ∀ x ∈ asL v, 0 ≤ asI x ∧ asI x < ((asL (fld b 0)).length : Int) := fun x hx => by
    obtain ⟨c, h, h2⟩ := hin x hx
    rw [h]; exact ⟨by show 0 ≤ (c : Int); omega, by show (c : Int) < _; omega⟩
  have hcpy := cpy_eq hint
  have hvz : (asL v).length ≤ 100000 := by omega
  have hvz1 : (asL v).length + 1 ≤ 1000000 := by omega
  have hop : Ok (fld (el (asL (fld n 2)) t) 1) := ok_fld (ok_el (ok_fld hnn))
  by_cases hr0 : (asL v).length = m
  case pos =>
    have hr1 : r = 0 := by omega
    subst hr1
    subst hr0
    clear hrec
    rw [chs_zero, chF_zero]
    have hft := rfits_ans ext k n b v t 2 2 w (by omega) hnn hv ht0 ht1 hinr
    have hli := rlisted_ans ext k b v (asL (fld b 1)).length t 2 w (by omega) hb (Nat.le_refl _)
    have hls : lst b (asL (fld b 1)).length t (.L (asL v)) = lst b (asL (fld b 1)).length t v := rfl
    by_cases h1 : rfit b (asL (fld (el (asL (fld n 2)) t) 1)) (asL v) = true
    case neg =>
      have h1f : rfit b (asL (fld (el (asL (fld n 2)) t) 1)) (asL v) = false := by simpa using h1
      simp (maxDischargeDepth := 9) only [go_sem, Nat.reduceMul, Nat.reduceAdd, Nat.reduceLeDiff, Int.reduceSub, Int.reduceNeg, Int.reduceLT, Int.reduceLE, Int.reduceEq, *, rfits_ans, rlisted_ans, rcopy_ans, rweight_ans, together_ans]
      all_goals exact AU_rchoose1
    by_cases h2 : lst b (asL (fld b 1)).length t v = true
    case pos =>
      simp (maxDischargeDepth := 9) only [go_sem, Nat.reduceMul, Nat.reduceAdd, Nat.reduceLeDiff, Int.reduceSub, Int.reduceNeg, Int.reduceLT, Int.reduceLE, Int.reduceEq, *, rfits_ans, rlisted_ans, rcopy_ans, rweight_ans, together_ans]
      all_goals exact AU_rchoose1
    have h2f : lst b (asL (fld b 1)).length t v = false := by simpa using h2
    simp (maxDischargeDepth := 9) only [go_sem, Nat.reduceMul, Nat.reduceAdd, Nat.reduceLeDiff, Int.reduceSub, Int.reduceNeg, Int.reduceLT, Int.reduceLE, Int.reduceEq, *, rfits_ans, rlisted_ans, rcopy_ans, rweight_ans, together_ans]
    all_goals exact AU_rchoose1
  obtain ⟨r, rfl⟩ : ∃ r', r = r' + 1 := ⟨r - 1, by omega⟩
  rw [chs_succ, chF_succ]
  simp (maxDischargeDepth := 9) only [go_sem, Nat.reduceMul, Nat.reduceAdd, Nat.reduceLeDiff, Int.reduceSub, Int.reduceNeg, Int.reduceLT, Int.reduceLE, Int.reduceEq, *, rfits_ans, rlisted_ans, rcopy_ans, rweight_ans, together_ans]
  refine gen_st (fun s0 hg hr hn0 => ?_)
  have e2 := hg 2
  have e3 := hg 3
  have e5 := hg 5
  have e6 := hg 6
  have e7 := hg 7
  have e12 := hg 12
  have e14 := hg 14
  have e13 := hg 13
  have q0 := hr 0
  have q1 := hr 1
  have q2 := hr 2
  clear hg hr
  simp only [go_sem, *] at hn0 e2 e3 e5 e6 e7 e12 e14 e13 q0 q1 q2
  refine nr (runs_forN ((asL (fld b 0)).length - fr) (fun (_ : Unit) _ => Stp.next (ρ := Unit) ()) () 95 (fun i a => [(2, s0.get (.tmp 2)), (3, s0.get (.tmp 3)), (5, s0.get (.tmp 5)), (6, s0.get (.tmp 6)), (7, s0.get (.tmp 7)), (12, s0.get (.tmp 12)), (13, .v (.a (.own 2))), (14, .v (.a (.int .i64 ((fr + i : Nat) : Int))))]) (fun i a => [(0, s0.row 0), (1, s0.row 1), (2, some (.arr 2 46 (chp b (fld (el (asL (fld n 2)) t) 1) t r (asL v) fr i)))]) (fun i a => True) (by omega) ?_ (trivial) ?_ ?_ ?_ ?_)
  · simp (maxDischargeDepth := 9) only [go_sem, Nat.reduceMul, Nat.reduceAdd, Nat.reduceLeDiff, Int.reduceSub, Int.reduceNeg, Int.reduceLT, Int.reduceLE, Int.reduceEq, *, rfits_ans, rlisted_ans, rcopy_ans, rweight_ans, together_ans]
  · intro i a; simp (maxDischargeDepth := 9) only [go_sem, Nat.reduceMul, Nat.reduceAdd, Nat.reduceLeDiff, Int.reduceSub, Int.reduceNeg, Int.reduceLT, Int.reduceLE, Int.reduceEq, *, rfits_ans, rlisted_ans, rcopy_ans, rweight_ans, together_ans]
  · intro i a; simp (maxDischargeDepth := 9) only [go_sem, Nat.reduceMul, Nat.reduceAdd, Nat.reduceLeDiff, Int.reduceSub, Int.reduceNeg, Int.reduceLT, Int.reduceLE, Int.reduceEq, *, rfits_ans, rlisted_ans, rcopy_ans, rweight_ans, together_ans]
  · intro i a s hi hI hS
    clear hn0 e14 e13 q2
    simp only [go_sem] at hS
    obtain ⟨f2, f3, f5, f6, f7, f12, f13, f14, m0, m1, m2, hn⟩ := hS
    have hlt : ((fr + i : Nat) : Int) < ((asL (fld b 0)).length : Int) := by omega
    have hltn : fr + i < (asL (fld b 0)).length := by omega
    have hge : 0 ≤ ((fr + i : Nat) : Int) := by omega
    have hw : IntKind.i64.wrap (((fr + i : Nat) : Int) + 1) = ((fr + (i + 1) : Nat) : Int) := by
      rw [Go.IntWalk.i64_in _ (by omega)]; omega
    have hsc := chp_succ (b := b) (p := (fld (el (asL (fld n 2)) t) 1)) (t := t) (r := r) (l := asL v) (fr := fr) (i := i)
    have hre : ans (tab.run ext k) 49 [.iv 2 25 n, .iv 2 29 b, .int .i64 t, .iv 2 46 (.L (asL v ++ [.I ((fr + i : Nat) : Int)])), .int .i64 ((fr + (i + 1) : Nat) : Int), .int .i64 ((m : Nat) : Int)] 5 = some ([.one (chR (chF b (fld (el (asL (fld n 2)) t) 1) t r (asL v ++ [.I ((fr + i : Nat) : Int)])) (chs b (fld (el (asL (fld n 2)) t) 1) t r (asL v ++ [.I ((fr + i : Nat) : Int)]) (fr + i + 1)))], [44]) := hrec k rfl (fr + i) r hltn rfl
    clear hrec
    have hcs1 := chp_small (b := b) (p := (fld (el (asL (fld n 2)) t) 1)) (t := t) (r := r) (l := asL v) (fr := fr) (i := i) hL (by omega) (by omega)
    have hcs2 := chs_small (b := b) (p := (fld (el (asL (fld n 2)) t) 1)) (t := t) (r := r) (l := asL v ++ [.I ((fr + i : Nat) : Int)]) (fr := fr + i + 1) hL (by omega)
    have hcs3 : (chp b (fld (el (asL (fld n 2)) t) 1) t r (asL v) fr i).length + (chs b (fld (el (asL (fld n 2)) t) 1) t r (asL v ++ [.I ((fr + i : Nat) : Int)]) (fr + i + 1)).length ≤ 1000000 := by omega
    have hcs4 : (chs b (fld (el (asL (fld n 2)) t) 1) t r (asL v ++ [.I ((fr + i : Nat) : Int)]) (fr + i + 1)).length ≤ maxLen := Nat.le_trans hcs2 (by unfold maxLen; omega)
    have hwg := rweight_ans ext k (fld (el (asL (fld n 2)) t) 1) (plo b (fr + i)) 2 (by omega) hop
    have hpl : asI (fld ((asL (fld b 0)).getD (fr + i) .N) 0) = plo b (fr + i) := rfl
    have hpl2 : asI (fld (el (asL (fld b 0)) ((fr + i : Nat) : Int)) 0) = plo b (fr + i) := rfl
    refine rn ?_
    simp (maxDischargeDepth := 9) only [go_sem, Nat.reduceMul, Nat.reduceAdd, Nat.reduceLeDiff, Int.reduceSub, Int.reduceNeg, Int.reduceLT, Int.reduceLE, Int.reduceEq, *, rfits_ans, rlisted_ans, rcopy_ans, rweight_ans, together_ans]
    by_cases hw0 : wgt (fld (el (asL (fld n 2)) t) 1) (plo b (fr + i)) = 0
    case pos =>
      have hcx := chx_w (r := r) (l := asL v) (t := t) hw0
      rw [hcx, List.append_nil] at hsc
      with_reducible refine draw_look (by kernel_rfl) (by kernel_rfl) ?_
      simp (maxDischargeDepth := 9) only [go_sem, Nat.reduceMul, Nat.reduceAdd, Nat.reduceLeDiff, Int.reduceSub, Int.reduceNeg, Int.reduceLT, Int.reduceLE, Int.reduceEq, *, rfits_ans, rlisted_ans, rcopy_ans, rweight_ans, together_ans]
      all_goals exact AU_rchoose1
    with_reducible refine draw_look (by kernel_rfl) (by kernel_rfl) ?_
    simp (maxDischargeDepth := 9) only [go_sem, Nat.reduceMul, Nat.reduceAdd, Nat.reduceLeDiff, Int.reduceSub, Int.reduceNeg, Int.reduceLT, Int.reduceLE, Int.reduceEq, *, rfits_ans, rlisted_ans, rcopy_ans, rweight_ans, together_ans]
    repeat' (first | (with_reducible refine condLt (fun h h' => ?_) (fun h h' => ?_)) | (with_reducible refine condLe (fun h h' => ?_) (fun h h' => ?_)) | (with_reducible refine dop_val ?_) | (with_reducible refine YsLt (fun h h' => ?_) (fun h h' => ?_)) | (with_reducible refine YsLe (fun h h' => ?_) (fun h h' => ?_)) | (with_reducible refine condP (fun h => ?_) (fun h => ?_)) | (with_reducible refine condN (fun h => ?_) (fun h => ?_)) | (with_reducible refine condB (fun h => ?_) (fun h => ?_)) | (with_reducible refine condR (fun h => ?_) (fun h => ?_)) | (with_reducible refine YsB (fun h => ?_) (fun h => ?_)) | (with_reducible refine YsC (fun h => ?_) (fun h => ?_)) | (with_reducible refine Ys_ite (fun h => ?_) (fun h => ?_)) | (intro h) | (with_reducible refine draw_look (by kernel_rfl) (by kernel_rfl) ?_) | (simp (maxDischargeDepth := 9) only [go_sem, Nat.reduceMul, Nat.reduceAdd, Nat.reduceLeDiff, Int.reduceSub, Int.reduceNeg, Int.reduceLT, Int.reduceLE, Int.reduceEq, *, rfits_ans, rlisted_ans, rcopy_ans, rweight_ans, together_ans]) | (exfalso; omega))
    refine gen_st (fun s0 hg hr hn0 => ?_)
    have e2 := hg 2
    have e3 := hg 3
    have e5 := hg 5
    have e6 := hg 6
    have e7 := hg 7
    have e12 := hg 12
    have e13 := hg 13
    have e14 := hg 14
    have e41 := hg 41
    have e42 := hg 42
    have e43 := hg 43
    have e44 := hg 44
    have e45 := hg 45
    have e48 := hg 48
    have e49 := hg 49
    have e50 := hg 50
    have e51 := hg 51
    have e52 := hg 52
    have e53 := hg 53
    have e54 := hg 54
    have e55 := hg 55
    have e56 := hg 56
    have e57 := hg 57
    have e58 := hg 58
    have e59 := hg 59
    have e60 := hg 60
    have e61 := hg 61
    have e16 := hg 16
    have e15 := hg 15
    have q0 := hr 0
    have q1 := hr 1
    have q2 := hr 2
    clear hg hr
    simp only [go_sem, *] at hn0 e2 e3 e5 e6 e7 e12 e13 e14 e41 e42 e43 e44 e45 e48 e49 e50 e51 e52 e53 e54 e55 e56 e57 e58 e59 e60 e61 e16 e15 q0 q1 q2
    refine nr (runs_for (asL v) (fun (g : Bool) x => Stp.next (ρ := Unit) (g && TG b (asI x) ((fr + i : Nat) : Int))) true 95 (fun j g => [(2, s0.get (.tmp 2)), (3, s0.get (.tmp 3)), (5, s0.get (.tmp 5)), (6, s0.get (.tmp 6)), (7, s0.get (.tmp 7)), (12, s0.get (.tmp 12)), (13, s0.get (.tmp 13)), (14, s0.get (.tmp 14)), (41, s0.get (.tmp 41)), (42, s0.get (.tmp 42)), (43, s0.get (.tmp 43)), (44, s0.get (.tmp 44)), (45, s0.get (.tmp 45)), (48, s0.get (.tmp 48)), (49, s0.get (.tmp 49)), (50, s0.get (.tmp 50)), (51, s0.get (.tmp 51)), (52, s0.get (.tmp 52)), (53, s0.get (.tmp 53)), (54, s0.get (.tmp 54)), (55, s0.get (.tmp 55)), (56, s0.get (.tmp 56)), (57, s0.get (.tmp 57)), (58, s0.get (.tmp 58)), (59, s0.get (.tmp 59)), (60, s0.get (.tmp 60)), (61, s0.get (.tmp 61)), (15, .v (.a (.bool g))), (16, .v (.a (.int .i64 (j : Nat))))]) (fun j g => [(0, s0.row 0), (1, s0.row 1), (2, s0.row 2)]) (fun j g => True) (by omega) ?_ (trivial) ?_ ?_ ?_ ?_)
    · simp (maxDischargeDepth := 9) only [go_sem, Nat.reduceMul, Nat.reduceAdd, Nat.reduceLeDiff, Int.reduceSub, Int.reduceNeg, Int.reduceLT, Int.reduceLE, Int.reduceEq, *, rfits_ans, rlisted_ans, rcopy_ans, rweight_ans, together_ans]
    · intro i a; simp (maxDischargeDepth := 9) only [go_sem, Nat.reduceMul, Nat.reduceAdd, Nat.reduceLeDiff, Int.reduceSub, Int.reduceNeg, Int.reduceLT, Int.reduceLE, Int.reduceEq, *, rfits_ans, rlisted_ans, rcopy_ans, rweight_ans, together_ans]
    · intro i a; simp (maxDischargeDepth := 9) only [go_sem, Nat.reduceMul, Nat.reduceAdd, Nat.reduceLeDiff, Int.reduceSub, Int.reduceNeg, Int.reduceLT, Int.reduceLE, Int.reduceEq, *, rfits_ans, rlisted_ans, rcopy_ans, rweight_ans, together_ans]
    · intro j x g s hx hi hI hS
      clear hn0 e16 e15
      simp only [go_sem] at hS
      obtain ⟨f2, f3, f5, f6, f7, f12, f13, f14, f41, f42, f43, f44, f45, f48, f49, f50, f51, f52, f53, f54, f55, f56, f57, f58, f59, f60, f61, f15, f16, m0, m1, m2, hn⟩ := hS
      have hw := wrap_succ hi (hlv)
      obtain ⟨hx0, hx1⟩ := hinr x (List.mem_of_getElem? hx)
      refine rn ?_
      simp (maxDischargeDepth := 9) only [go_sem, Nat.reduceMul, Nat.reduceAdd, Nat.reduceLeDiff, Int.reduceSub, Int.reduceNeg, Int.reduceLT, Int.reduceLE, Int.reduceEq, *, rfits_ans, rlisted_ans, rcopy_ans, rweight_ans, together_ans]
      cases g
      case false =>
        with_reducible refine draw_look (by kernel_rfl) (by kernel_rfl) ?_
        simp (maxDischargeDepth := 9) only [go_sem, Nat.reduceMul, Nat.reduceAdd, Nat.reduceLeDiff, Int.reduceSub, Int.reduceNeg, Int.reduceLT, Int.reduceLE, Int.reduceEq, *, rfits_ans, rlisted_ans, rcopy_ans, rweight_ans, together_ans]
        iterate 10
          with_reducible refine dop_val ?_
          simp (maxDischargeDepth := 9) only [go_sem, Nat.reduceMul, Nat.reduceAdd, Nat.reduceLeDiff, Int.reduceSub, Int.reduceNeg, Int.reduceLT, Int.reduceLE, Int.reduceEq, *, rfits_ans, rlisted_ans, rcopy_ans, rweight_ans, together_ans]
        with_reducible refine dop_loud (by kernel_rfl) ?_
        simp (maxDischargeDepth := 9) only [go_sem, Nat.reduceMul, Nat.reduceAdd, Nat.reduceLeDiff, Int.reduceSub, Int.reduceNeg, Int.reduceLT, Int.reduceLE, Int.reduceEq, *, rfits_ans, rlisted_ans, rcopy_ans, rweight_ans, together_ans]
      case true =>
        with_reducible refine draw_look (by kernel_rfl) (by kernel_rfl) ?_
        simp (maxDischargeDepth := 9) only [go_sem, Nat.reduceMul, Nat.reduceAdd, Nat.reduceLeDiff, Int.reduceSub, Int.reduceNeg, Int.reduceLT, Int.reduceLE, Int.reduceEq, *, rfits_ans, rlisted_ans, rcopy_ans, rweight_ans, together_ans]
        iterate 10
          with_reducible refine dop_val ?_
          simp (maxDischargeDepth := 9) only [go_sem, Nat.reduceMul, Nat.reduceAdd, Nat.reduceLeDiff, Int.reduceSub, Int.reduceNeg, Int.reduceLT, Int.reduceLE, Int.reduceEq, *, rfits_ans, rlisted_ans, rcopy_ans, rweight_ans, together_ans]
        with_reducible refine dop_loud (by kernel_rfl) ?_
        simp (maxDischargeDepth := 9) only [go_sem, Nat.reduceMul, Nat.reduceAdd, Nat.reduceLeDiff, Int.reduceSub, Int.reduceNeg, Int.reduceLT, Int.reduceLE, Int.reduceEq, *, rfits_ans, rlisted_ans, rcopy_ans, rweight_ans, together_ans]
    · intro g s hI hf hS
      clear hn0 e16 e15
      simp only [go_sem] at hS
      obtain ⟨f2, f3, f5, f6, f7, f12, f13, f14, f41, f42, f43, f44, f45, f48, f49, f50, f51, f52, f53, f54, f55, f56, f57, f58, f59, f60, f61, f15, f16, m0, m1, m2, hn⟩ := hS
      try simp only [go_sem] at hf
      rw [foldl_andb, Bool.true_and] at hf
      subst hf
      have hgo : ((asL v).all fun x => TG b (asI x) ((fr + i : Nat) : Int)) = good b (asL v) (fr + i) := rfl
      by_cases hg : good b (asL v) (fr + i) = true
      case neg =>
        have hgf : good b (asL v) (fr + i) = false := by simpa using hg
        have hcx := chx_n (p := (fld (el (asL (fld n 2)) t) 1)) (r := r) (t := t) hgf
        rw [hcx, List.append_nil] at hsc
        refine rn ?_
        simp (maxDischargeDepth := 9) only [go_sem, Nat.reduceMul, Nat.reduceAdd, Nat.reduceLeDiff, Int.reduceSub, Int.reduceNeg, Int.reduceLT, Int.reduceLE, Int.reduceEq, *, rfits_ans, rlisted_ans, rcopy_ans, rweight_ans, together_ans]
        all_goals exact AU_rchoose1
      have hcx := chx_y (r := r) (t := t) hw0 hg
      rw [hcx] at hsc
      refine rn ?_
      simp (maxDischargeDepth := 9) only [go_sem, Nat.reduceMul, Nat.reduceAdd, Nat.reduceLeDiff, Int.reduceSub, Int.reduceNeg, Int.reduceLT, Int.reduceLE, Int.reduceEq, *, rfits_ans, rlisted_ans, rcopy_ans, rweight_ans, together_ans]
      all_goals exact AU_rchoose1
  · intro a s hI hf hS
    clear hn0 e14 e13 q2
    simp only [go_sem] at hS
    obtain ⟨f2, f3, f5, f6, f7, f12, f13, f14, m0, m1, m2, hn⟩ := hS
    try simp only [go_sem] at hf
    have hnl : ¬ ((fr + ((asL (fld b 0)).length - fr) : Nat) : Int) < ((asL (fld b 0)).length : Int) := by omega
    have hnl2 : ((asL (fld b 0)).length : Int) ≤ ((fr + ((asL (fld b 0)).length - fr) : Nat) : Int) := by omega
    refine rn ?_
    simp (maxDischargeDepth := 9) only [go_sem, Nat.reduceMul, Nat.reduceAdd, Nat.reduceLeDiff, Int.reduceSub, Int.reduceNeg, Int.reduceLT, Int.reduceLE, Int.reduceEq, *, rfits_ans, rlisted_ans, rcopy_ans, rweight_ans, together_ans]
    all_goals exact AU_rchoose1
theorem rchoose_ans (ext : CallF) (n b : IV) (t : Int) (hnn : Ok n) (hb : Ok b) (hfd : FD b = true) (hz : (asL (fld b 1)).length ≤ 1000000) (hL : (asL (fld b 0)).length ≤ 24) (ht0 : 0 ≤ t) (ht1 : t < ((asL (fld n 2)).length : Int)) (m : Nat) (hm : m ≤ 6) : ∀ (r k : Nat) (v : IV) (w fr : Nat), maxLen + 20 + r ≤ k → Ok v → (∀ x ∈ asL v, ∃ c : Nat, x = .I (c : Int) ∧ c < (asL (fld b 0)).length) → fr ≤ (asL (fld b 0)).length → (asL v).length + r = m → ans (tab.run ext k) 49 [.iv 2 25 n, .iv 2 29 b, .int .i64 t, .iv w 46 v, .int .i64 ((fr : Nat) : Int), .int .i64 ((m : Nat) : Int)] 5 = some ([.one (chR (chF b (fld (el (asL (fld n 2)) t) 1) t r (asL v)) (chs b (fld (el (asL (fld n 2)) t) 1) t r (asL v) fr))], [44]) := by
  intro r
  induction r with
  | zero =>
    intro k v w fr hk hv hin hfl hrm
    exact rchoose1_ans ext k n b v t w fr 0 m (by omega) hnn hb hv hfd hz hL ht0 ht1 hin hfl hm hrm (fun k' hk' c r' hc h => by omega)
  | succ r ih =>
    intro k v w fr hk hv hin hfl hrm
    refine rchoose1_ans ext k n b v t w fr (r + 1) m (by omega) hnn hb hv hfd hz hL ht0 ht1 hin hfl hm hrm (fun k' hk' c r' hc h => ?_)
    obtain rfl : r = r' := by omega
    refine ih k' (IV.L (asL v ++ [IV.I (c : Int)])) 2 (c + 1) (by omega) ?_ ?_ hc ?_
    · refine .L (by rw [List.length_append]; show _ + 1 ≤ _; unfold maxLen; omega) (fun x hx => ?_)
      rcases List.mem_append.1 hx with h | h
      · obtain ⟨d, h2, h3⟩ := hin x h
        rw [h2]; exact .I (by omega)
      · obtain rfl := List.mem_singleton.1 h
        exact .I (by omega)
    · intro x hx
      rcases List.mem_append.1 hx with h | h
      · exact hin x h
      · exact ⟨c, List.mem_singleton.1 h, hc⟩
    · show (asL v ++ [IV.I (c : Int)]).length + r = m
      rw [List.length_append]; show _ + 1 + r = m; omega
end Go.Proofs.Ytficdonjodadlaa
end
section
set_option linter.unusedVariables false
namespace Go.Ev
noncomputable def rCH (n b : IV) (i : Nat) : List IV := chs b (fld ((asL (fld n 2)).getD i .N) 1) (i : Int) (asL (fld ((asL (fld n 2)).getD i .N) 1)).length [] 0
noncomputable def rPI (n b : IV) (i j : Nat) : List IV := (List.range j).map fun (k : Nat) => .L ([.I (i : Int)] ++ asL ((rCH n b i).getD k .N))
theorem rPI_zero {n b : IV} {i : Nat} : rPI n b i 0 = [] := (rfl)
theorem rPI_succ {n b : IV} {i j : Nat} : rPI n b i (j + 1) = rPI n b i j ++ [.L ([.I (i : Int)] ++ asL ((rCH n b i).getD j .N))] := by simp [rPI, List.range_succ]
theorem rPI_len {n b : IV} {i j : Nat} : (rPI n b i j).length = j := by simp [rPI]
noncomputable def rPO (n b : IV) (i : Nat) : List IV := (List.range i).flatMap fun t => rPI n b t (rCH n b t).length
theorem rPO_zero {n b : IV} : rPO n b 0 = [] := (rfl)
theorem rPO_succ {n b : IV} {i : Nat} : rPO n b (i + 1) = rPO n b i ++ rPI n b i (rCH n b i).length := by simp [rPO, List.range_succ, List.flatMap_append]
theorem rCH_len {n b : IV} {i : Nat} (hc : (asL (fld b 0)).length ≤ 24) (hr : (asL (fld ((asL (fld n 2)).getD i .N) 1)).length ≤ 6) : (rCH n b i).length ≤ 134596 := chs_small hc hr
theorem rPO_len {n b : IV} (hc : (asL (fld b 0)).length ≤ 24) (hr : ∀ i, (asL (fld ((asL (fld n 2)).getD i .N) 1)).length ≤ 6) : ∀ i, (rPO n b i).length ≤ i * 134596
  | 0 => by simp [rPO]
  | i + 1 => by
    rw [rPO_succ, List.length_append, Nat.succ_mul, rPI_len]
    exact Nat.add_le_add (rPO_len hc hr i) (rCH_len hc (hr i))
noncomputable def rPS (n b : IV) : List IV := if (CK n b).1 = 0 then rPO n b (asL (fld n 2)).length else []
theorem chs_row {b p : IV} {t : Int} : ∀ {r : Nat} {l : List IV} {fr : Nat} {u : IV}, u ∈ chs b p t r l fr → (asL u).length = l.length + r
  | 0, l, fr, u, h => by
    unfold chs at h
    split at h
    · rw [List.mem_singleton.1 h]; rfl
    · cases h
  | r + 1, l, fr, u, h => by
    rw [chs_succ] at h
    unfold chp at h
    obtain ⟨j, _, hj⟩ := List.mem_flatMap.1 h
    unfold chx at hj
    split at hj
    · cases hj
    · split at hj
      · have := chs_row hj
        rw [List.length_append] at this
        simp only [List.length_cons, List.length_nil] at this
        omega
      · cases hj
theorem rCH_row {n b u : IV} {i : Nat} (h : u ∈ rCH n b i) : (asL u).length = (asL (fld ((asL (fld n 2)).getD i .N) 1)).length := by
  have h2 := chs_row (show u ∈ chs b (fld ((asL (fld n 2)).getD i .N) 1) (i : Int) (asL (fld ((asL (fld n 2)).getD i .N) 1)).length [] 0 from h)
  rw [h2]; exact Nat.zero_add _
attribute [go_sem] rPI_zero rPO_zero
noncomputable def Xt (b p : IV) : List IV → Nat → List Nat → Prop
  | _, _, [] => True
  | l, fr, c :: s => fr ≤ c ∧ c < (asL (fld b 0)).length ∧ ¬wgt p (plo b c) = 0 ∧ good b l c = true ∧ Xt b p (l ++ [.I (c : Int)]) (c + 1) s
def ints (s : List Nat) : List IV := s.map fun (c : Nat) => .I (c : Int)
theorem ints_app {l : List IV} {c : Nat} {s : List Nat} : l ++ [IV.I (c : Int)] ++ ints s = l ++ ints (c :: s) := by
  rw [List.append_assoc]; rfl
theorem mem_chs {b p : IV} {t : Int} {u : IV} : ∀ {r : Nat} {l : List IV} {fr : Nat}, u ∈ chs b p t r l fr ↔ ∃ s : List Nat, s.length = r ∧ Xt b p l fr s ∧ rfit b (asL p) (l ++ ints s) = true ∧ lst b (asL (fld b 1)).length t (.L (l ++ ints s)) = false ∧ u = .L (l ++ ints s)
  | 0, l, fr => by
    unfold chs
    constructor
    · intro h
      split at h
      · rename_i hc
        simp only [Bool.and_eq_true, Bool.not_eq_true'] at hc
        refine ⟨[], rfl, trivial, ?_, ?_, ?_⟩
        · simpa [ints] using hc.1
        · simpa [ints] using hc.2
        · simpa [ints] using List.mem_singleton.1 h
      · cases h
    · rintro ⟨s, hs, _, h1, h2, h3⟩
      obtain rfl := List.eq_nil_of_length_eq_zero hs
      simp only [ints, List.map_nil, List.append_nil] at h1 h2 h3
      rw [h1, h2, h3]; simp
  | r + 1, l, fr => by
    rw [chs_succ]
    unfold chp
    rw [List.mem_flatMap]
    constructor
    · rintro ⟨j, hj, h⟩
      have hj := List.mem_range.1 hj
      unfold chx at h
      split at h
      · cases h
      · rename_i hw
        split at h
        · rename_i hg
          obtain ⟨s, h1, h2, h3, h4, h5⟩ := mem_chs.1 h
          have e : l ++ [IV.I ((fr + j : Nat) : Int)] ++ ints s = l ++ ints ((fr + j) :: s) := ints_app
          rw [e] at h3 h4 h5
          exact ⟨(fr + j) :: s, by rw [List.length_cons, h1], ⟨by omega, by omega, hw, hg, h2⟩, h3, h4, h5⟩
        · cases h
    · rintro ⟨s, h1, h2, h3, h4, h5⟩
      cases s with
      | nil => cases h1
      | cons c s =>
        obtain ⟨k1, k2, k3, k4, k5⟩ := h2
        refine ⟨c - fr, List.mem_range.2 (by omega), ?_⟩
        have hc : fr + (c - fr) = c := by omega
        unfold chx
        rw [hc, if_neg k3, if_pos k4]
        have e : l ++ [IV.I ((c : Nat) : Int)] ++ ints s = l ++ ints (c :: s) := ints_app
        exact mem_chs.2 ⟨s, by simpa using h1, k5, by rw [e]; exact h3, by rw [e]; exact h4, by rw [e]; exact h5⟩
theorem of_xt {b p : IV} : ∀ {s : List Nat} {l : List IV} {fr : Nat}, Xt b p l fr s → (∀ c ∈ s, fr ≤ c ∧ c < (asL (fld b 0)).length) ∧ s.Pairwise (fun a c => a < c) ∧ (∀ x ∈ l, ∀ c ∈ s, TG b (asI x) (c : Int) = true) ∧ s.Pairwise (fun (a c : Nat) => TG b (a : Int) (c : Int) = true)
  | [], _, _, _ => ⟨by simp, .nil, by simp, .nil⟩
  | c :: s, l, fr, h => by
    obtain ⟨k1, k2, k3, k4, k5⟩ := h
    obtain ⟨h1, h2, h3, h4⟩ := of_xt k5
    refine ⟨fun d hd => ?_, List.pairwise_cons.2 ⟨fun d hd => ?_, h2⟩, fun x hx d hd => ?_, List.pairwise_cons.2 ⟨fun d hd => ?_, h4⟩⟩
    · rcases List.mem_cons.1 hd with rfl | hd
      · exact ⟨k1, k2⟩
      · have := h1 d hd; omega
    · have := h1 d hd; omega
    · rcases List.mem_cons.1 hd with rfl | hd
      · unfold good at k4; exact List.all_eq_true.1 k4 x hx
      · exact h3 x (List.mem_append_left _ hx) d hd
    · exact h3 (.I (c : Int)) (List.mem_append_right _ (List.mem_singleton_self _)) d hd
end Go.Ev
end
