/- Part 8 of a proof: Dh. Words and walks that a program printed for this claim stand here without what the claim does not use. -/
import Derived.Test.YtficdonjodadlaaDh4
import Derived.Test.YtficdonjodadlaaDh6
import Derived.Test.YtficdonjodadlaaDh7
set_option linter.unusedSimpArgs false
set_option linter.unusedVariables false
section
set_option linter.unusedVariables false
namespace Go.Ev
theorem ck_run {n b : IV} (h : (CK n b).1 = 0) : IE n = 0 ∧ nEv b ≤ 2000 ∧ (fcs n).length ≤ nCo b ∧
    (∀ c, c < (fcs n).length → asI (fld ((asL (fld b 0)).getD c .N) 0) = asI (fld ((fcs n).getD c .N) 0) ∧ asI (fld ((asL (fld b 0)).getD c .N) 1) = asI (fld ((fcs n).getD c .N) 1)) ∧
    ∃ nx : Nat → Nat, nx 0 = (fcs n).length ∧ (∀ i, i < nEv b → CE n b (i : Int) (nx i : Int) = 0 ∧ nx (i + 1) = nx i + (asL (fld ((asL (fld b 1)).getD i .N) 2)).length) ∧ nCo b ≤ nx (nEv b) := by
  unfold CK at h
  split at h
  · rename_i h1
    split at h
    · cases h
    · rename_i h2
      split at h
      · cases h
      · rename_i h3
        unfold CK1 at h
        split at h
        · cases h
        · rename_i h4
          refine ⟨h1, by unfold nEv; omega, by unfold nCo; omega, fun c hc => ?_, ?_⟩
          · have h5 := List.any_eq_false.1 (Bool.eq_false_iff.2 h4) c (List.mem_range.2 hc)
            simpa using h5
          · unfold CK2 at h
            split at h
            · rename_i r hr
              have : r.1 ≠ 0 := fold_ret (P := fun r => r.1 ≠ 0) (fun a x r hr => by
                unfold ckE at hr
                split at hr
                · cases hr
                · rename_i hne; cases hr; exact hne) hr
              exact absurd h this
            · rename_i m hm
              obtain ⟨nx, k1, k2, k3⟩ := fold_run (fun a x r => by unfold ckE; split <;> simp) hm
              split at h
              · cases h
              · rename_i h6
                refine ⟨nx, k1, fun i hi => ?_, ?_⟩
                · have := k2 i i (by rw [List.getElem?_range]; exact hi)
                  unfold ckE at this
                  split at this
                  · rename_i h7; injection this with this; exact ⟨h7, this.symm⟩
                  · cases this
                · rw [List.length_range] at k3
                  unfold nEv nCo; omega
            · rename_i hm; exact absurd hm fold_no_next
  · rename_i h1; exact absurd h h1
theorem fcs_from {n : IV} {c : Nat} (hc : c < (fcs n).length) : asI (fld ((fcs n).getD c .N) 1) = -1 := by
  have := memD hc
  generalize (fcs n).getD c .N = x at this
  simp only [fcs, ics, List.mem_map] at this
  obtain ⟨k, _, rfl⟩ := this
  rfl
theorem CE_cp {n b : IV} {i m : Int} (h : CE n b i m = 0) : (0 ≤ asI (fld (el (asL (fld b 1)) i) 0) ∧ asI (fld (el (asL (fld b 1)) i) 0) < ((asL (fld n 2)).length : Int)) ∧ CP n (cutB b i m) (el (asL (fld b 1)) i) = 0 ∧ PO n b i m = 0 := by
  unfold CE at h
  split at h
  · cases h
  · rename_i h1
    split at h
    · rename_i h2; exact ⟨by omega, h2, h⟩
    · rename_i h2; exact absurd h h2
theorem CP_ok {n b e : IV} (h : CP n b e = 0) : (asL (fld e 1)).length = (insL n e).length ∧ RZ (fld e 1) = false ∧ (∀ x ∈ asL (fld e 1), 0 ≤ asI x ∧ asI x < ((asL (fld b 0)).length : Int)) ∧ CS b (fld e 1) = true ∧ KN b (asI (fld e 0)) (fld e 1) = false := by
  unfold CP at h
  split at h
  · rename_i h1
    split at h
    · cases h
    · rename_i h2
      split at h
      · cases h
      · rename_i h3
        unfold CP2 at h
        split at h
        · cases h
        · split at h
          · rename_i h4
            split at h
            · cases h
            · rename_i h5
              refine ⟨h1, by simpa using h2, fun x hx => ?_, h4, by simpa using h5⟩
              have := List.any_eq_false.1 (Bool.eq_false_iff.2 h3) x hx
              simp only [decide_eq_true_eq] at this
              omega
          · cases h
  · cases h
theorem PO_ok {n b : IV} {i m : Int} (h : PO n b i m = 0) : (asL (fld (el (asL (fld b 1)) i) 2)).length = (outs n b i).length ∧ ∀ k, k < (asL (fld (el (asL (fld b 1)) i) 2)).length →
    asI ((asL (fld (el (asL (fld b 1)) i) 2)).getD k .N) = m + (k : Int) ∧ m + (k : Int) < ((asL (fld b 0)).length : Int) ∧ asI (fld (el (asL (fld b 0)) (m + (k : Int))) 0) = asI ((outs n b i).getD k .N) ∧ frm b (m + (k : Int)) = i := by
  unfold PO at h
  split at h
  · rename_i h1
    refine ⟨h1, ?_⟩
    cases hf : foldS (poS n b i m) () (List.range (asL (fld (el (asL (fld b 1)) i) 2)).length) with
    | next r => exact absurd hf fold_no_next
    | ret r => rw [hf] at h; cases h
    | stop r =>
      have hall := fold_all hf (fun x hx r => by unfold poS; split <;> (try split) <;> (try split) <;> simp)
      intro k hk
      have := hall k (List.mem_range.2 hk)
      unfold poS at this
      split at this
      · rename_i e1
        split at this
        · cases this
        · rename_i e2
          split at this
          · rename_i e3
            simp only [Bool.and_eq_true, decide_eq_true_eq] at e3
            rw [e1] at e2 e3
            exact ⟨e1, by omega, e3.1, e3.2⟩
          · cases this
      · cases this
  · cases h
structure PF (n b : IV) (nx : Nat → Nat) : Prop where
  ev : nEv b ≤ 2000
  le : (fcs n).length ≤ nCo b
  fc : ∀ c, c < (fcs n).length → asI (fld ((asL (fld b 0)).getD c .N) 0) = asI (fld ((fcs n).getD c .N) 0) ∧ frm b (c : Int) = -1
  z : nx 0 = (fcs n).length
  s : ∀ i, i < nEv b → CE n b (i : Int) (nx i : Int) = 0 ∧ nx (i + 1) = nx i + (asL (fld ((asL (fld b 1)).getD i .N) 2)).length
  t : nCo b ≤ nx (nEv b)
theorem pf_of {n b : IV} (h : (CK n b).1 = 0) : ∃ nx, PF n b nx := by
  obtain ⟨h1, h2, h3, h4, nx, h5, h6, h7⟩ := ck_run h
  exact ⟨nx, h2, h3, fun c hc => ⟨(h4 c hc).1, by rw [frm, el_nat, (h4 c hc).2]; exact fcs_from hc⟩, h5, h6, h7⟩
section
variable {n b : IV} {nx : Nat → Nat}
theorem PF.own (h : PF n b nx) : ∀ i, i ≤ nEv b → nx i ≤ nCo b ∧ ∀ c : Nat, c < nx i → -1 ≤ frm b (c : Int) ∧ frm b (c : Int) < (i : Int)
  | 0, _ => by
    rw [h.z]
    exact ⟨h.le, fun c hc => by rw [(h.fc c hc).2]; omega⟩
  | i + 1, hi => by
    obtain ⟨h1, h2⟩ := h.own i (by omega)
    obtain ⟨h3, h4⟩ := h.s i (by omega)
    have h5 := CE_ok h3 h1
    obtain ⟨_, h6⟩ := PO_ok (CE_cp h3).2.2
    rw [el_nat] at h6
    rw [h4]
    refine ⟨h5, fun c hc => ?_⟩
    by_cases hlt : c < nx i
    · have := h2 c hlt; omega
    · have := (h6 (c - nx i) (by omega)).2.2.2
      rw [show ((nx i : Nat) : Int) + ((c - nx i : Nat) : Int) = (c : Int) by omega] at this
      rw [this]; omega
theorem FD_of (h1 : ∀ c : Nat, c < nCo b → -1 ≤ frm b (c : Int) ∧ frm b (c : Int) < (nEv b : Int)) (h2 : ∀ i, i < nEv b → ∀ x ∈ pre b i, 0 ≤ asI x ∧ asI x < (nCo b : Int) ∧ frm b (asI x) < (i : Int)) : FD b = true := by
  simp only [FD, Bool.and_eq_true, Bool.not_eq_true', List.any_eq_false, decide_eq_true_eq, List.any_eq_true, not_exists, not_and, not_or]
  constructor
  · intro x hx
    obtain ⟨i, hi, rfl⟩ := List.getElem_of_mem hx
    have := h1 i hi
    rw [frm, el_nat] at this
    have e : (asL (fld b 0)).getD i .N = (asL (fld b 0))[i] := by simp [List.getD, hi]
    rw [e] at this
    unfold nEv at this
    omega
  · intro i hi x hx
    have := h2 i (List.mem_range.1 hi) x hx
    simp only [nCo, frm] at this
    omega
theorem PF.pre (h : PF n b nx) {i : Nat} (hi : i < nEv b) : (∀ x ∈ Go.Ev.pre b i, 0 ≤ asI x ∧ asI x < (nx i : Int)) ∧ CS (cutB b (i : Int) (nx i : Int)) (fld ((asL (fld b 1)).getD i .N) 1) = true := by
  obtain ⟨h1, h2⟩ := h.own i (by omega)
  obtain ⟨h3, h4⟩ := h.s i hi
  obtain ⟨_, h5, _⟩ := CE_cp h3
  obtain ⟨_, _, h6, h7, _⟩ := CP_ok h5
  rw [el_nat] at h6 h7
  refine ⟨fun x hx => ?_, h7⟩
  have := h6 x hx
  have e : (asL (fld (cutB b (i : Int) (nx i : Int)) 0)).length = nx i := by
    show ((asL (fld b 0)).take (nx i : Int).toNat).length = nx i
    rw [List.length_take, Int.toNat_natCast]; unfold nCo at h1; omega
  rw [e] at this
  exact this
theorem PF.fd (h : PF n b nx) : FD b = true := by
  refine FD_of (fun c hc => ?_) (fun i hi x hx => ?_)
  · have := h.t
    obtain ⟨_, h2⟩ := h.own (nEv b) (Nat.le_refl _)
    exact h2 c (by omega)
  · obtain ⟨h1, h2⟩ := h.own i (by omega)
    have h3 := (h.pre hi).1 x hx
    have h4 := h2 (asI x).toNat (by omega)
    rw [show (((asI x).toNat : Nat) : Int) = asI x by omega] at h4
    omega
theorem pre_cut {i m h : Nat} (hh : h < i) : Go.Ev.pre (cutB b (i : Int) (m : Int)) h = Go.Ev.pre b h := by
  unfold Go.Ev.pre
  rw [cutB_1, Int.toNat_natCast, take_get hh]
theorem frm_cut {i m : Nat} {c : Int} (h0 : 0 ≤ c) (h1 : c < (m : Int)) : frm (cutB b (i : Int) (m : Int)) c = frm b c := by
  unfold frm
  show asI (fld (el ((asL (fld b 0)).take (m : Int).toNat) c) 1) = _
  unfold el
  rw [Int.toNat_natCast, take_get (by omega)]
theorem PF.rch (h : PF n b nx) {i e g : Nat} (hi : i < nEv b) (he : e < i) (hr : Rch b e g) : Rch (cutB b (i : Int) (nx i : Int)) e g := by
  have hfd := h.fd
  have hmono : ∀ j, j ≤ i → nx j ≤ nx i := by
    intro j hj
    induction i with
    | zero => obtain rfl : j = 0 := by omega
              exact Nat.le_refl _
    | succ i ih =>
      rcases Nat.eq_or_lt_of_le hj with rfl | hj
      · exact Nat.le_refl _
      · have h1 := (h.s i (by omega)).2
        have : nx j ≤ nx i := by
          clear ih hr he
          have : ∀ a c, a ≤ c → c ≤ nEv b → nx a ≤ nx c := by
            intro a c hac hc
            induction c with
            | zero => obtain rfl : a = 0 := by omega
                      exact Nat.le_refl _
            | succ c ihc =>
              rcases Nat.eq_or_lt_of_le hac with rfl | hac
              · exact Nat.le_refl _
              · have h1 := (h.s c (by omega)).2
                have := ihc (by omega) (by omega)
                omega
          exact this j i (by omega) (by omega)
        omega
  induction hr with
  | refl => exact .refl
  | step hr hx ih =>
    rename_i h' g'
    have hle := rch_le hfd (by omega) hr
    refine .step ih ?_
    obtain ⟨x, hx, e1⟩ := hx
    have hp := (h.pre (i := h') (by omega)).1 x hx
    have := hmono h' (by omega)
    exact ⟨x, by rw [pre_cut (by omega)]; exact hx, by rw [frm_cut hp.1 (by omega)]; exact e1⟩
theorem CS_pair {b l : IV} (h : CS b l = true) {x y : IV} (hx : x ∈ asL l) (hy : y ∈ asL l) (hne : asI x ≠ asI y) : TG b (asI x) (asI y) = true := by
  simp only [CS, Bool.and_eq_true, Bool.not_eq_true', List.any_eq_false, List.any_eq_true, not_exists, not_and, List.mem_range, Bool.not_eq_true] at h
  obtain ⟨i, hi, rfl⟩ := List.getElem_of_mem hx
  obtain ⟨k, hk, rfl⟩ := List.getElem_of_mem hy
  have ei : (asL l).getD i .N = (asL l)[i] := by simp [List.getD, hi]
  have ek : (asL l).getD k .N = (asL l)[k] := by simp [List.getD, hk]
  rcases Nat.lt_trichotomy i k with hik | hik | hik
  · have := h.2 k hk i hik
    rw [ei, ek] at this
    rw [TG_symm]; simpa using this
  · subst hik; exact absurd rfl hne
  · have := h.2 i hi k hik
    rw [ei, ek] at this
    simpa using this
end
end Go.Ev
end
section
set_option linter.unusedVariables false
namespace Go.Ev
section
variable {n b : IV} {nx : Nat → Nat}
theorem PF.tg (h : PF n b nx) {i : Nat} (hi : i < nEv b) {x c : IV} (hx : x ∈ Go.Ev.pre b i) (hc : c ∈ Go.Ev.pre b i) (hne : asI x ≠ asI c) : TG (cutB b (i : Int) (nx i : Int)) (asI x) (asI c) = true :=
  CS_pair (h.pre hi).2 hx hc hne
theorem cut_ev {i m : Nat} (hi : i ≤ nEv b) : (asL (fld (cutB b (i : Int) (m : Int)) 1)).length = i := by
  rw [cutB_1, Int.toNat_natCast, List.length_take]; unfold nEv at hi; omega
theorem PF.hist (h : PF n b nx) {i e g : Nat} (hi : i < nEv b) {c : IV} (hc : c ∈ Go.Ev.pre b i) (he : frm b (asI c) = (e : Int)) (hr : Rch b e g) : Go.Ev.hist (cutB b (i : Int) (nx i : Int)) (frm (cutB b (i : Int) (nx i : Int)) (asI c)) g = true ∧ g < i := by
  have hp := (h.pre hi).1 c hc
  have hf := FD_pre h.fd hi hc
  have hle := rch_le h.fd (by omega) hr
  refine ⟨?_, by omega⟩
  rw [frm_cut hp.1 hp.2, he, hist_nat]
  exact decide_eq_true (h.rch hi (by omega) hr)
theorem PF.cn (h : PF n b nx) {i e g : Nat} (hi : i < nEv b) {x c : IV} (hx : x ∈ Go.Ev.pre b i) (hc : c ∈ Go.Ev.pre b i) (hne : asI x ≠ asI c) (he : frm b (asI c) = (e : Int)) (hr : Rch b e g) : ∀ y ∈ Go.Ev.pre b g, asI y ≠ asI x := by
  have tg := h.tg hi hc hx (fun e => hne e.symm)
  obtain ⟨hh, hg⟩ := h.hist hi hc he hr
  unfold TG at tg
  simp only [Bool.and_eq_true, Bool.not_eq_true'] at tg
  have t2 := tg.1.1.2
  unfold CNf at t2
  have t3 := List.any_eq_false.1 t2 g (List.mem_range.2 (by rw [cut_ev (by omega)]; exact hg))
  intro y hy e1
  apply t3
  rw [hh, Bool.true_and]
  have hy2 : y ∈ Go.Ev.pre (cutB b (i : Int) (nx i : Int)) g := by rw [pre_cut hg]; exact hy
  exact List.any_eq_true.2 ⟨y, hy2, decide_eq_true e1⟩
theorem PF.cl (h : PF n b nx) {i e f g k : Nat} (hi : i < nEv b) {x c : IV} (hx : x ∈ Go.Ev.pre b i) (hc : c ∈ Go.Ev.pre b i) (hne : asI x ≠ asI c) (he : frm b (asI x) = (e : Int)) (hf : frm b (asI c) = (f : Int)) (hr : Rch b e g) (hk : Rch b f k) (hgk : g ≠ k) : ∀ y ∈ Go.Ev.pre b g, ∀ z ∈ Go.Ev.pre b k, asI y ≠ asI z := by
  have tg := h.tg hi hx hc hne
  obtain ⟨h1, hg⟩ := h.hist hi hx he hr
  obtain ⟨h2, hki⟩ := h.hist hi hc hf hk
  unfold TG at tg
  simp only [Bool.and_eq_true, Bool.not_eq_true'] at tg
  have t2 := tg.2
  intro y hy z hz e1
  have hy2 : y ∈ Go.Ev.pre (cutB b (i : Int) (nx i : Int)) g := by rw [pre_cut hg]; exact hy
  have hz2 : z ∈ Go.Ev.pre (cutB b (i : Int) (nx i : Int)) k := by rw [pre_cut hki]; exact hz
  have : CLf (cutB b (i : Int) (nx i : Int)) (Go.Ev.hist (cutB b (i : Int) (nx i : Int)) (frm (cutB b (i : Int) (nx i : Int)) (asI x))) (Go.Ev.hist (cutB b (i : Int) (nx i : Int)) (frm (cutB b (i : Int) (nx i : Int)) (asI c))) = true := by
    simp only [CLf, List.any_eq_true, Bool.and_eq_true, Bool.not_eq_true', decide_eq_false_iff_not, decide_eq_true_eq, List.mem_range]
    refine ⟨g, by rw [cut_ev (by omega)]; exact hg, k, by rw [cut_ev (by omega)]; exact hki, ⟨⟨hgk, h1⟩, h2⟩, y, hy2, z, hz2, ?_⟩
    first | exact e1 | exact e1.symm
  rw [this] at t2; cases t2
theorem PF.self (h : PF n b nx) : ∀ e, e < nEv b → ∀ g k, Rch b e g → Rch b e k → g ≠ k → ∀ y ∈ Go.Ev.pre b g, ∀ z ∈ Go.Ev.pre b k, asI y ≠ asI z := by
  intro e
  induction e using Nat.strongRecOn with
  | _ e ih =>
    intro he g k hg hk hgk y hy z hz e1
    have one : ∀ {k : Nat}, Rch b e k → k ≠ e → ∃ c ∈ Go.Ev.pre b e, ∃ f : Nat, frm b (asI c) = (f : Int) ∧ f < e ∧ Rch b f k := by
      intro k hk hke
      rcases rch_head.1 hk with h1 | ⟨f, ⟨c, hc, h1⟩, h2⟩
      · exact absurd h1 hke
      · have := FD_pre h.fd he hc
        exact ⟨c, hc, f, h1, by omega, h2⟩
    have own : ∀ {k : Nat}, Rch b e k → k ≠ e → ∀ y ∈ Go.Ev.pre b e, ∀ z ∈ Go.Ev.pre b k, asI y ≠ asI z := by
      intro k hk hke y hy z hz e1
      obtain ⟨c, hc, f, h1, h2, h3⟩ := one hk hke
      by_cases hyc : asI y = asI c
      · have hle := rch_le h.fd (by omega) h3
        have := FD_pre h.fd (i := k) (by omega) hz
        rw [← e1, hyc, h1] at this
        omega
      · exact h.cn he hy hc hyc h1 h3 z hz e1.symm
    by_cases hge : g = e
    · subst hge
      exact own hk (fun e => hgk e.symm) y hy z hz e1
    · by_cases hke : k = e
      · subst hke
        exact own hg hge z hz y hy e1.symm
      · obtain ⟨c, hc, f, h1, h2, h3⟩ := one hg hge
        obtain ⟨d, hd, f2, h4, h5, h6⟩ := one hk hke
        by_cases hcd : asI c = asI d
        · have : f = f2 := by rw [hcd, h4] at h1; omega
          subst this
          exact ih f h2 (by omega) g k h3 h6 hgk y hy z hz e1
        · exact h.cl he hc hd hcd h1 h4 h3 h6 hgk y hy z hz e1
structure LW (b : IV) : Prop where
  fd : FD b = true
  self : ∀ e, e < nEv b → CLf b (hist b (e : Int)) (hist b (e : Int)) = false
  back : ∀ e f, e < nEv b → f < nEv b → f < e → hist b (f : Int) e = false
  one : ∀ e f, e < nEv b → hist b (e : Int) f = true → CLf b (hist b (e : Int)) (hist b (f : Int)) = false
theorem PF.noCL (h : PF n b nx) {e : Nat} (he : e < nEv b) {X Y : Nat → Bool} (hX : ∀ g, X g = true → Rch b e g) (hY : ∀ g, Y g = true → Rch b e g) : CLf b X Y = false := by
  cases hc : CLf b X Y with
  | false => rfl
  | true =>
    exfalso
    simp only [CLf, List.any_eq_true, Bool.and_eq_true, Bool.not_eq_true', decide_eq_false_iff_not, decide_eq_true_eq, List.mem_range] at hc
    obtain ⟨g, _, k, _, ⟨⟨h1, h2⟩, h3⟩, y, hy, z, hz, e1⟩ := hc
    first | exact h.self e he g k (hX g h2) (hY k h3) h1 y hy z hz e1 | exact h.self e he g k (hX g h2) (hY k h3) h1 y hy z hz e1.symm
theorem lw_of (hc : (CK n b).1 = 0) : LW b := by
  obtain ⟨nx, h⟩ := pf_of hc
  have hn : ∀ {e g : Nat}, hist b (e : Int) g = true → Rch b e g := fun {e g} hh => by rw [hist_nat] at hh; exact of_decide_eq_true hh
  refine ⟨h.fd, fun e he => h.noCL he (fun g hg => hn hg) (fun g hg => hn hg), fun e f he hf hfe => ?_, fun e f he hef => h.noCL he (fun g hg => hn hg) (fun g hg => rch_trans (hn hef) (hn hg))⟩
  cases hh : hist b (f : Int) e with
  | false => rfl
  | true => have := rch_le h.fd hf (hn hh); omega
end
end Go.Ev
end
section
set_option linter.unusedVariables false
namespace Go.Ev
theorem LG_co {b : IV} (h : LG b = false) : (asL (fld b 0)).length ≤ 1000 := by
  simp only [LG, Bool.or_eq_false_iff, decide_eq_false_iff_not] at h
  omega
theorem sm_pl {n : IV} (hs : smB n = true) : (asL (fld n 1)).length ≤ 1000 := by
  simp only [smB, Bool.and_eq_true, Bool.not_eq_true', decide_eq_false_iff_not, not_or] at hs
  omega
theorem IN_nat {b : IV} {i : Nat} (h : FD b = true) (hi : i < (asL (fld b 1)).length) : IN b (i : Int) = true := by
  simp only [IN, h, Bool.true_and, Bool.and_eq_true, decide_eq_true_eq]; omega
end Go.Ev
end
section
set_option linter.unusedSimpArgs false
set_option linter.unusedVariables false
set_option maxRecDepth 100000
set_option maxHeartbeats 4000000
namespace Go.Proofs.Ytficdonjodadlaa
open Go.Ev Go.Proofs
theorem excl_ans (ext : CallF) (k : Nat) (hN : ExN ext) (hE : ExC ext) (hU : ExU ext) (n b : IV) (hk : maxLen + (D0 + 80) ≤ k) (hnn : Ok n) (hb : Ok b) (hX : ∀ k, maxLen + (D0 + 70) ≤ k → ans (tab.run ext k) 12 [] 2 = some ([.one (.at (.bool true))], [4])) : ans (tab.run ext k) 7 [.iv 2 25 n, .iv 2 29 b] 3 = some ([.one (.at (.bool true))], [4]) := by
  obtain ⟨k, rfl⟩ : ∃ k', k = k' + 1 := ⟨k - 1, by omega⟩
  have hk1 : maxLen < k := by omega
  have hk0 : 0 < k := by omega
  have hk_0 : maxLen + (2) ≤ k := by omega
  have hk_1 : maxLen + (4) ≤ k := by omega
  have hk_2 : maxLen + (D0 + 20) ≤ k := by omega
  refine fn_run (fx := fx7) (m := 79) 81 rfl rfl rfl rfl (fun st hn hg hr => ?_)
  have g0 : st.get (.tmp 0) = .v (.a (.iv 2 25 n)) := hg 0 (of_decide_eq_true rfl)
  have g1 : st.get (.tmp 1) = .v (.a (.iv 2 29 b)) := hg 1 (of_decide_eq_true rfl)
  have r0 := hr 0
  have r1 := hr 1
  have r2 := hr 2
  clear hg hr
  rw [co7]
  simp only [Try.f7, Option.getD_some]
  have hX12 := hX k (by omega)
  by_cases hs : smB n = true
  case neg =>
    have hsf : smB n = false := by simpa using hs
    have hsn := smN_f hsf
    simp (maxDischargeDepth := 9) only [go_sem, Nat.reduceMul, Nat.reduceAdd, Nat.reduceLeDiff, Int.reduceSub, Int.reduceNeg, Int.reduceLT, Int.reduceLE, Int.reduceEq, *, small_ans, large_ans, conflict_ans, before_ans, hX12]
    repeat' (first | (with_reducible refine condLt (fun h h' => ?_) (fun h h' => ?_)) | (with_reducible refine condLe (fun h h' => ?_) (fun h h' => ?_)) | (with_reducible refine dop_val ?_) | (with_reducible refine YsLt (fun h h' => ?_) (fun h h' => ?_)) | (with_reducible refine YsLe (fun h h' => ?_) (fun h h' => ?_)) | (with_reducible refine condP (fun h => ?_) (fun h => ?_)) | (with_reducible refine condN (fun h => ?_) (fun h => ?_)) | (with_reducible refine condB (fun h => ?_) (fun h => ?_)) | (with_reducible refine condR (fun h => ?_) (fun h => ?_)) | (with_reducible refine YsB (fun h => ?_) (fun h => ?_)) | (with_reducible refine YsC (fun h => ?_) (fun h => ?_)) | (with_reducible refine Ys_ite (fun h => ?_) (fun h => ?_)) | (intro h) | (with_reducible refine draw_look (by kernel_rfl) (by kernel_rfl) ?_) | (simp (maxDischargeDepth := 9) only [go_sem, Nat.reduceMul, Nat.reduceAdd, Nat.reduceLeDiff, Int.reduceSub, Int.reduceNeg, Int.reduceLT, Int.reduceLE, Int.reduceEq, *, small_ans, large_ans, conflict_ans, before_ans, hX12]) | (exfalso; omega))
  have hsn := smN_t hs
  by_cases hL : LG b = true
  case pos =>
    simp (maxDischargeDepth := 9) only [go_sem, Nat.reduceMul, Nat.reduceAdd, Nat.reduceLeDiff, Int.reduceSub, Int.reduceNeg, Int.reduceLT, Int.reduceLE, Int.reduceEq, *, small_ans, large_ans, conflict_ans, before_ans, hX12]
    repeat' (first | (with_reducible refine condLt (fun h h' => ?_) (fun h h' => ?_)) | (with_reducible refine condLe (fun h h' => ?_) (fun h h' => ?_)) | (with_reducible refine dop_val ?_) | (with_reducible refine YsLt (fun h h' => ?_) (fun h h' => ?_)) | (with_reducible refine YsLe (fun h h' => ?_) (fun h h' => ?_)) | (with_reducible refine condP (fun h => ?_) (fun h => ?_)) | (with_reducible refine condN (fun h => ?_) (fun h => ?_)) | (with_reducible refine condB (fun h => ?_) (fun h => ?_)) | (with_reducible refine condR (fun h => ?_) (fun h => ?_)) | (with_reducible refine YsB (fun h => ?_) (fun h => ?_)) | (with_reducible refine YsC (fun h => ?_) (fun h => ?_)) | (with_reducible refine Ys_ite (fun h => ?_) (fun h => ?_)) | (intro h) | (with_reducible refine draw_look (by kernel_rfl) (by kernel_rfl) ?_) | (simp (maxDischargeDepth := 9) only [go_sem, Nat.reduceMul, Nat.reduceAdd, Nat.reduceLeDiff, Int.reduceSub, Int.reduceNeg, Int.reduceLT, Int.reduceLE, Int.reduceEq, *, small_ans, large_ans, conflict_ans, before_ans, hX12]) | (exfalso; omega))
  have hLn : LG b = false := by simpa using hL
  have hz := LG_ev hLn
  have hzc := LG_co hLn
  have hl1 := ok_len (ok_fld (j := 1) hb)
  have hck := check_ans ext k hN hE hU n b 2 2 (by omega) hnn hb (by decide) hz (by omega) (sm_pl hs) (ng_of hs)
  by_cases hc : (CK n b).1 = 0
  case neg =>
    simp (maxDischargeDepth := 9) only [go_sem, Nat.reduceMul, Nat.reduceAdd, Nat.reduceLeDiff, Int.reduceSub, Int.reduceNeg, Int.reduceLT, Int.reduceLE, Int.reduceEq, *, small_ans, large_ans, conflict_ans, before_ans, hX12]
    repeat' (first | (with_reducible refine condLt (fun h h' => ?_) (fun h h' => ?_)) | (with_reducible refine condLe (fun h h' => ?_) (fun h h' => ?_)) | (with_reducible refine dop_val ?_) | (with_reducible refine YsLt (fun h h' => ?_) (fun h h' => ?_)) | (with_reducible refine YsLe (fun h h' => ?_) (fun h h' => ?_)) | (with_reducible refine condP (fun h => ?_) (fun h => ?_)) | (with_reducible refine condN (fun h => ?_) (fun h => ?_)) | (with_reducible refine condB (fun h => ?_) (fun h => ?_)) | (with_reducible refine condR (fun h => ?_) (fun h => ?_)) | (with_reducible refine YsB (fun h => ?_) (fun h => ?_)) | (with_reducible refine YsC (fun h => ?_) (fun h => ?_)) | (with_reducible refine Ys_ite (fun h => ?_) (fun h => ?_)) | (intro h) | (with_reducible refine draw_look (by kernel_rfl) (by kernel_rfl) ?_) | (simp (maxDischargeDepth := 9) only [go_sem, Nat.reduceMul, Nat.reduceAdd, Nat.reduceLeDiff, Int.reduceSub, Int.reduceNeg, Int.reduceLT, Int.reduceLE, Int.reduceEq, *, small_ans, large_ans, conflict_ans, before_ans, hX12]) | (exfalso; omega))
  have hlw := lw_of hc
  have hfd := hlw.fd
  simp (maxDischargeDepth := 9) only [go_sem, Nat.reduceMul, Nat.reduceAdd, Nat.reduceLeDiff, Int.reduceSub, Int.reduceNeg, Int.reduceLT, Int.reduceLE, Int.reduceEq, *, small_ans, large_ans, conflict_ans, before_ans, hX12]
  refine gen_st (fun s0 hg hr hn0 => ?_)
  have e3 := hg 3
  have e7 := hg 7
  have q0 := hr 0
  have q1 := hr 1
  have q2 := hr 2
  clear hg hr
  simp only [go_sem, *] at hn0 e3 e7 q0 q1 q2
  refine nr (runs_forN (asL (fld b 1)).length (fun (_ : Unit) _ => Stp.next (ρ := Unit) ()) () 81 (fun i a => [(3, s0.get (.tmp 3)), (7, .v (.a (.int .i64 (i : Nat))))]) (fun i a => [(0, s0.row 0), (1, s0.row 1), (2, s0.row 2)]) (fun i a => True) (by omega) ?_ (trivial) ?_ ?_ ?_ ?_)
  · simp (maxDischargeDepth := 9) only [go_sem, Nat.reduceMul, Nat.reduceAdd, Nat.reduceLeDiff, Int.reduceSub, Int.reduceNeg, Int.reduceLT, Int.reduceLE, Int.reduceEq, *, small_ans, large_ans, conflict_ans, before_ans, hX12]
  · intro i a; simp (maxDischargeDepth := 9) only [go_sem, Nat.reduceMul, Nat.reduceAdd, Nat.reduceLeDiff, Int.reduceSub, Int.reduceNeg, Int.reduceLT, Int.reduceLE, Int.reduceEq, *, small_ans, large_ans, conflict_ans, before_ans, hX12]
  · intro i a; simp (maxDischargeDepth := 9) only [go_sem, Nat.reduceMul, Nat.reduceAdd, Nat.reduceLeDiff, Int.reduceSub, Int.reduceNeg, Int.reduceLT, Int.reduceLE, Int.reduceEq, *, small_ans, large_ans, conflict_ans, before_ans, hX12]
  · intro i a s hi hI hS
    clear hn0 e7
    simp only [go_sem] at hS
    obtain ⟨f3, f7, m0, m1, m2, hn⟩ := hS
    have hw := wrap_succ hi (hl1)
    have hin : IN b (i : Int) = true := IN_nat hfd hi
    have hself := hlw.self i hi
    have hio := hi
    refine rn ?_
    simp (maxDischargeDepth := 9) only [go_sem, Nat.reduceMul, Nat.reduceAdd, Nat.reduceLeDiff, Int.reduceSub, Int.reduceNeg, Int.reduceLT, Int.reduceLE, Int.reduceEq, *, small_ans, large_ans, conflict_ans, before_ans, hX12]
    refine gen_st (fun s0 hg hr hn0 => ?_)
    have e3 := hg 3
    have e7 := hg 7
    have e31 := hg 31
    have e32 := hg 32
    have e33 := hg 33
    have e34 := hg 34
    have e35 := hg 35
    have e38 := hg 38
    have e39 := hg 39
    have e40 := hg 40
    have e41 := hg 41
    have e42 := hg 42
    have e43 := hg 43
    have e44 := hg 44
    have e45 := hg 45
    have e46 := hg 46
    have e47 := hg 47
    have e8 := hg 8
    have q0 := hr 0
    have q1 := hr 1
    have q2 := hr 2
    clear hg hr
    simp only [go_sem, *] at hn0 e3 e7 e31 e32 e33 e34 e35 e38 e39 e40 e41 e42 e43 e44 e45 e46 e47 e8 q0 q1 q2
    refine nr (runs_forN i (fun (_ : Unit) _ => Stp.next (ρ := Unit) ()) () 81 (fun j a => [(3, s0.get (.tmp 3)), (7, s0.get (.tmp 7)), (31, s0.get (.tmp 31)), (32, s0.get (.tmp 32)), (33, s0.get (.tmp 33)), (34, s0.get (.tmp 34)), (35, s0.get (.tmp 35)), (38, s0.get (.tmp 38)), (39, s0.get (.tmp 39)), (40, s0.get (.tmp 40)), (41, s0.get (.tmp 41)), (42, s0.get (.tmp 42)), (43, s0.get (.tmp 43)), (44, s0.get (.tmp 44)), (45, s0.get (.tmp 45)), (46, s0.get (.tmp 46)), (47, s0.get (.tmp 47)), (8, .v (.a (.int .i64 (j : Nat))))]) (fun j a => [(0, s0.row 0), (1, s0.row 1), (2, s0.row 2)]) (fun j a => True) (by omega) ?_ (trivial) ?_ ?_ ?_ ?_)
    · simp (maxDischargeDepth := 9) only [go_sem, Nat.reduceMul, Nat.reduceAdd, Nat.reduceLeDiff, Int.reduceSub, Int.reduceNeg, Int.reduceLT, Int.reduceLE, Int.reduceEq, *, small_ans, large_ans, conflict_ans, before_ans, hX12]
    · intro i a; simp (maxDischargeDepth := 9) only [go_sem, Nat.reduceMul, Nat.reduceAdd, Nat.reduceLeDiff, Int.reduceSub, Int.reduceNeg, Int.reduceLT, Int.reduceLE, Int.reduceEq, *, small_ans, large_ans, conflict_ans, before_ans, hX12]
    · intro i a; simp (maxDischargeDepth := 9) only [go_sem, Nat.reduceMul, Nat.reduceAdd, Nat.reduceLeDiff, Int.reduceSub, Int.reduceNeg, Int.reduceLT, Int.reduceLE, Int.reduceEq, *, small_ans, large_ans, conflict_ans, before_ans, hX12]
    · intro j a s hi hI hS
      clear hn0 e8
      simp only [go_sem] at hS
      obtain ⟨f3, f7, f31, f32, f33, f34, f35, f38, f39, f40, f41, f42, f43, f44, f45, f46, f47, f8, m0, m1, m2, hn⟩ := hS
      have hw := wrap_succ hi (by omega)
      have hjn : j < (asL (fld b 1)).length := by omega
      have hinj : IN b (j : Int) = true := IN_nat hfd hjn
      have hbk := hlw.back i j hio hjn hi
      have hsy : CLf b (hist b (j : Int)) (hist b (i : Int)) = CLf b (hist b (i : Int)) (hist b (j : Int)) := CLf_symm
      have hji : ¬j = i := by omega
      have hij : ¬i = j := by omega
      have hon := hlw.one i j hio
      refine rn ?_
      simp (maxDischargeDepth := 9) only [go_sem, Nat.reduceMul, Nat.reduceAdd, Nat.reduceLeDiff, Int.reduceSub, Int.reduceNeg, Int.reduceLT, Int.reduceLE, Int.reduceEq, *, small_ans, large_ans, conflict_ans, before_ans, hX12]
      by_cases hY : hist b (i : Int) j = true
      case pos =>
        have hon2 := hon hY
        clear hon
        with_reducible refine draw_look (by kernel_rfl) (by kernel_rfl) ?_
        simp (maxDischargeDepth := 9) only [go_sem, Nat.reduceMul, Nat.reduceAdd, Nat.reduceLeDiff, Int.reduceSub, Int.reduceNeg, Int.reduceLT, Int.reduceLE, Int.reduceEq, *, small_ans, large_ans, conflict_ans, before_ans, hX12]
        with_reducible refine dop_val ?_
        simp (maxDischargeDepth := 9) only [go_sem, Nat.reduceMul, Nat.reduceAdd, Nat.reduceLeDiff, Int.reduceSub, Int.reduceNeg, Int.reduceLT, Int.reduceLE, Int.reduceEq, *, small_ans, large_ans, conflict_ans, before_ans, hX12]
        with_reducible refine dop_val ?_
        simp (maxDischargeDepth := 9) only [go_sem, Nat.reduceMul, Nat.reduceAdd, Nat.reduceLeDiff, Int.reduceSub, Int.reduceNeg, Int.reduceLT, Int.reduceLE, Int.reduceEq, *, small_ans, large_ans, conflict_ans, before_ans, hX12]
        with_reducible refine dop_val ?_
        simp (maxDischargeDepth := 9) only [go_sem, Nat.reduceMul, Nat.reduceAdd, Nat.reduceLeDiff, Int.reduceSub, Int.reduceNeg, Int.reduceLT, Int.reduceLE, Int.reduceEq, *, small_ans, large_ans, conflict_ans, before_ans, hX12]
        with_reducible refine dop_val ?_
        simp (maxDischargeDepth := 9) only [go_sem, Nat.reduceMul, Nat.reduceAdd, Nat.reduceLeDiff, Int.reduceSub, Int.reduceNeg, Int.reduceLT, Int.reduceLE, Int.reduceEq, *, small_ans, large_ans, conflict_ans, before_ans, hX12]
        with_reducible refine dop_val ?_
        simp (maxDischargeDepth := 9) only [go_sem, Nat.reduceMul, Nat.reduceAdd, Nat.reduceLeDiff, Int.reduceSub, Int.reduceNeg, Int.reduceLT, Int.reduceLE, Int.reduceEq, *, small_ans, large_ans, conflict_ans, before_ans, hX12]
        with_reducible refine dop_val ?_
        simp (maxDischargeDepth := 9) only [go_sem, Nat.reduceMul, Nat.reduceAdd, Nat.reduceLeDiff, Int.reduceSub, Int.reduceNeg, Int.reduceLT, Int.reduceLE, Int.reduceEq, *, small_ans, large_ans, conflict_ans, before_ans, hX12]
        with_reducible refine dop_val ?_
        simp (maxDischargeDepth := 9) only [go_sem, Nat.reduceMul, Nat.reduceAdd, Nat.reduceLeDiff, Int.reduceSub, Int.reduceNeg, Int.reduceLT, Int.reduceLE, Int.reduceEq, *, small_ans, large_ans, conflict_ans, before_ans, hX12]
        with_reducible refine dop_val ?_
        simp (maxDischargeDepth := 9) only [go_sem, Nat.reduceMul, Nat.reduceAdd, Nat.reduceLeDiff, Int.reduceSub, Int.reduceNeg, Int.reduceLT, Int.reduceLE, Int.reduceEq, *, small_ans, large_ans, conflict_ans, before_ans, hX12]
        with_reducible refine dop_val ?_
        simp (maxDischargeDepth := 9) only [go_sem, Nat.reduceMul, Nat.reduceAdd, Nat.reduceLeDiff, Int.reduceSub, Int.reduceNeg, Int.reduceLT, Int.reduceLE, Int.reduceEq, *, small_ans, large_ans, conflict_ans, before_ans, hX12]
        with_reducible refine dop_val ?_
        simp (maxDischargeDepth := 9) only [go_sem, Nat.reduceMul, Nat.reduceAdd, Nat.reduceLeDiff, Int.reduceSub, Int.reduceNeg, Int.reduceLT, Int.reduceLE, Int.reduceEq, *, small_ans, large_ans, conflict_ans, before_ans, hX12]
        with_reducible refine dop_val ?_
        simp (maxDischargeDepth := 9) only [go_sem, Nat.reduceMul, Nat.reduceAdd, Nat.reduceLeDiff, Int.reduceSub, Int.reduceNeg, Int.reduceLT, Int.reduceLE, Int.reduceEq, *, small_ans, large_ans, conflict_ans, before_ans, hX12]
        with_reducible refine dop_val ?_
        simp (maxDischargeDepth := 9) only [go_sem, Nat.reduceMul, Nat.reduceAdd, Nat.reduceLeDiff, Int.reduceSub, Int.reduceNeg, Int.reduceLT, Int.reduceLE, Int.reduceEq, *, small_ans, large_ans, conflict_ans, before_ans, hX12]
        with_reducible refine dop_loud (by kernel_rfl) ?_
        simp (maxDischargeDepth := 9) only [go_sem, Nat.reduceMul, Nat.reduceAdd, Nat.reduceLeDiff, Int.reduceSub, Int.reduceNeg, Int.reduceLT, Int.reduceLE, Int.reduceEq, *, small_ans, large_ans, conflict_ans, before_ans, hX12]
        with_reducible refine dop_loud (by kernel_rfl) ?_
        simp (maxDischargeDepth := 9) only [go_sem, Nat.reduceMul, Nat.reduceAdd, Nat.reduceLeDiff, Int.reduceSub, Int.reduceNeg, Int.reduceLT, Int.reduceLE, Int.reduceEq, *, small_ans, large_ans, conflict_ans, before_ans, hX12]
        with_reducible refine dop_loud (by kernel_rfl) ?_
        simp (maxDischargeDepth := 9) only [go_sem, Nat.reduceMul, Nat.reduceAdd, Nat.reduceLeDiff, Int.reduceSub, Int.reduceNeg, Int.reduceLT, Int.reduceLE, Int.reduceEq, *, small_ans, large_ans, conflict_ans, before_ans, hX12]
      have hYf : hist b (i : Int) j = false := by simpa using hY
      clear hon
      with_reducible refine draw_look (by kernel_rfl) (by kernel_rfl) ?_
      simp (maxDischargeDepth := 9) only [go_sem, Nat.reduceMul, Nat.reduceAdd, Nat.reduceLeDiff, Int.reduceSub, Int.reduceNeg, Int.reduceLT, Int.reduceLE, Int.reduceEq, *, small_ans, large_ans, conflict_ans, before_ans, hX12]
      with_reducible refine dop_val ?_
      simp (maxDischargeDepth := 9) only [go_sem, Nat.reduceMul, Nat.reduceAdd, Nat.reduceLeDiff, Int.reduceSub, Int.reduceNeg, Int.reduceLT, Int.reduceLE, Int.reduceEq, *, small_ans, large_ans, conflict_ans, before_ans, hX12]
      with_reducible refine dop_val ?_
      simp (maxDischargeDepth := 9) only [go_sem, Nat.reduceMul, Nat.reduceAdd, Nat.reduceLeDiff, Int.reduceSub, Int.reduceNeg, Int.reduceLT, Int.reduceLE, Int.reduceEq, *, small_ans, large_ans, conflict_ans, before_ans, hX12]
      with_reducible refine dop_val ?_
      simp (maxDischargeDepth := 9) only [go_sem, Nat.reduceMul, Nat.reduceAdd, Nat.reduceLeDiff, Int.reduceSub, Int.reduceNeg, Int.reduceLT, Int.reduceLE, Int.reduceEq, *, small_ans, large_ans, conflict_ans, before_ans, hX12]
      with_reducible refine dop_val ?_
      simp (maxDischargeDepth := 9) only [go_sem, Nat.reduceMul, Nat.reduceAdd, Nat.reduceLeDiff, Int.reduceSub, Int.reduceNeg, Int.reduceLT, Int.reduceLE, Int.reduceEq, *, small_ans, large_ans, conflict_ans, before_ans, hX12]
      with_reducible refine dop_val ?_
      simp (maxDischargeDepth := 9) only [go_sem, Nat.reduceMul, Nat.reduceAdd, Nat.reduceLeDiff, Int.reduceSub, Int.reduceNeg, Int.reduceLT, Int.reduceLE, Int.reduceEq, *, small_ans, large_ans, conflict_ans, before_ans, hX12]
      with_reducible refine dop_val ?_
      simp (maxDischargeDepth := 9) only [go_sem, Nat.reduceMul, Nat.reduceAdd, Nat.reduceLeDiff, Int.reduceSub, Int.reduceNeg, Int.reduceLT, Int.reduceLE, Int.reduceEq, *, small_ans, large_ans, conflict_ans, before_ans, hX12]
      with_reducible refine dop_val ?_
      simp (maxDischargeDepth := 9) only [go_sem, Nat.reduceMul, Nat.reduceAdd, Nat.reduceLeDiff, Int.reduceSub, Int.reduceNeg, Int.reduceLT, Int.reduceLE, Int.reduceEq, *, small_ans, large_ans, conflict_ans, before_ans, hX12]
      with_reducible refine dop_val ?_
      simp (maxDischargeDepth := 9) only [go_sem, Nat.reduceMul, Nat.reduceAdd, Nat.reduceLeDiff, Int.reduceSub, Int.reduceNeg, Int.reduceLT, Int.reduceLE, Int.reduceEq, *, small_ans, large_ans, conflict_ans, before_ans, hX12]
      with_reducible refine dop_val ?_
      simp (maxDischargeDepth := 9) only [go_sem, Nat.reduceMul, Nat.reduceAdd, Nat.reduceLeDiff, Int.reduceSub, Int.reduceNeg, Int.reduceLT, Int.reduceLE, Int.reduceEq, *, small_ans, large_ans, conflict_ans, before_ans, hX12]
      with_reducible refine dop_val ?_
      simp (maxDischargeDepth := 9) only [go_sem, Nat.reduceMul, Nat.reduceAdd, Nat.reduceLeDiff, Int.reduceSub, Int.reduceNeg, Int.reduceLT, Int.reduceLE, Int.reduceEq, *, small_ans, large_ans, conflict_ans, before_ans, hX12]
      with_reducible refine dop_val ?_
      simp (maxDischargeDepth := 9) only [go_sem, Nat.reduceMul, Nat.reduceAdd, Nat.reduceLeDiff, Int.reduceSub, Int.reduceNeg, Int.reduceLT, Int.reduceLE, Int.reduceEq, *, small_ans, large_ans, conflict_ans, before_ans, hX12]
      with_reducible refine dop_val ?_
      simp (maxDischargeDepth := 9) only [go_sem, Nat.reduceMul, Nat.reduceAdd, Nat.reduceLeDiff, Int.reduceSub, Int.reduceNeg, Int.reduceLT, Int.reduceLE, Int.reduceEq, *, small_ans, large_ans, conflict_ans, before_ans, hX12]
      with_reducible refine dop_loud (by kernel_rfl) ?_
      simp (maxDischargeDepth := 9) only [go_sem, Nat.reduceMul, Nat.reduceAdd, Nat.reduceLeDiff, Int.reduceSub, Int.reduceNeg, Int.reduceLT, Int.reduceLE, Int.reduceEq, *, small_ans, large_ans, conflict_ans, before_ans, hX12]
      with_reducible refine dop_loud (by kernel_rfl) ?_
      simp (maxDischargeDepth := 9) only [go_sem, Nat.reduceMul, Nat.reduceAdd, Nat.reduceLeDiff, Int.reduceSub, Int.reduceNeg, Int.reduceLT, Int.reduceLE, Int.reduceEq, *, small_ans, large_ans, conflict_ans, before_ans, hX12]
      with_reducible refine dop_loud (by kernel_rfl) ?_
      simp (maxDischargeDepth := 9) only [go_sem, Nat.reduceMul, Nat.reduceAdd, Nat.reduceLeDiff, Int.reduceSub, Int.reduceNeg, Int.reduceLT, Int.reduceLE, Int.reduceEq, *, small_ans, large_ans, conflict_ans, before_ans, hX12]
    · intro a s hI hf hS
      clear hn0 e8
      simp only [go_sem] at hS
      obtain ⟨f3, f7, f31, f32, f33, f34, f35, f38, f39, f40, f41, f42, f43, f44, f45, f46, f47, f8, m0, m1, m2, hn⟩ := hS
      try simp only [go_sem] at hf
      refine rn ?_
      simp (maxDischargeDepth := 9) only [go_sem, Nat.reduceMul, Nat.reduceAdd, Nat.reduceLeDiff, Int.reduceSub, Int.reduceNeg, Int.reduceLT, Int.reduceLE, Int.reduceEq, *, small_ans, large_ans, conflict_ans, before_ans, hX12]
      repeat' (first | (with_reducible refine condLt (fun h h' => ?_) (fun h h' => ?_)) | (with_reducible refine condLe (fun h h' => ?_) (fun h h' => ?_)) | (with_reducible refine dop_val ?_) | (with_reducible refine YsLt (fun h h' => ?_) (fun h h' => ?_)) | (with_reducible refine YsLe (fun h h' => ?_) (fun h h' => ?_)) | (with_reducible refine condP (fun h => ?_) (fun h => ?_)) | (with_reducible refine condN (fun h => ?_) (fun h => ?_)) | (with_reducible refine condB (fun h => ?_) (fun h => ?_)) | (with_reducible refine condR (fun h => ?_) (fun h => ?_)) | (with_reducible refine YsB (fun h => ?_) (fun h => ?_)) | (with_reducible refine YsC (fun h => ?_) (fun h => ?_)) | (with_reducible refine Ys_ite (fun h => ?_) (fun h => ?_)) | (intro h) | (with_reducible refine draw_look (by kernel_rfl) (by kernel_rfl) ?_) | (simp (maxDischargeDepth := 9) only [go_sem, Nat.reduceMul, Nat.reduceAdd, Nat.reduceLeDiff, Int.reduceSub, Int.reduceNeg, Int.reduceLT, Int.reduceLE, Int.reduceEq, *, small_ans, large_ans, conflict_ans, before_ans, hX12]) | (exfalso; omega))
  · intro a s hI hf hS
    clear hn0 e7
    simp only [go_sem] at hS
    obtain ⟨f3, f7, m0, m1, m2, hn⟩ := hS
    try simp only [go_sem] at hf
    refine rn ?_
    simp (maxDischargeDepth := 9) only [go_sem, Nat.reduceMul, Nat.reduceAdd, Nat.reduceLeDiff, Int.reduceSub, Int.reduceNeg, Int.reduceLT, Int.reduceLE, Int.reduceEq, *, small_ans, large_ans, conflict_ans, before_ans, hX12]
    repeat' (first | (with_reducible refine condLt (fun h h' => ?_) (fun h h' => ?_)) | (with_reducible refine condLe (fun h h' => ?_) (fun h h' => ?_)) | (with_reducible refine dop_val ?_) | (with_reducible refine YsLt (fun h h' => ?_) (fun h h' => ?_)) | (with_reducible refine YsLe (fun h h' => ?_) (fun h h' => ?_)) | (with_reducible refine condP (fun h => ?_) (fun h => ?_)) | (with_reducible refine condN (fun h => ?_) (fun h => ?_)) | (with_reducible refine condB (fun h => ?_) (fun h => ?_)) | (with_reducible refine condR (fun h => ?_) (fun h => ?_)) | (with_reducible refine YsB (fun h => ?_) (fun h => ?_)) | (with_reducible refine YsC (fun h => ?_) (fun h => ?_)) | (with_reducible refine Ys_ite (fun h => ?_) (fun h => ?_)) | (intro h) | (with_reducible refine draw_look (by kernel_rfl) (by kernel_rfl) ?_) | (simp (maxDischargeDepth := 9) only [go_sem, Nat.reduceMul, Nat.reduceAdd, Nat.reduceLeDiff, Int.reduceSub, Int.reduceNeg, Int.reduceLT, Int.reduceLE, Int.reduceEq, *, small_ans, large_ans, conflict_ans, before_ans, hX12]) | (exfalso; omega))
end Go.Proofs.Ytficdonjodadlaa
end
