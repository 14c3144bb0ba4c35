/- Part 9 of a proof: Dl. Words and walks that a program printed for this claim stand here without what the claim does not use. -/
import Derived.Test.YtficdonjodadlaaDl6
import Derived.Test.YtficdonjodadlaaDl7
import Derived.Test.YtficdonjodadlaaDl8
set_option linter.unusedSimpArgs false
set_option linter.unusedVariables false
section
set_option linter.unusedVariables false
namespace Go.Ev
theorem fold_next_all {α ρ : Type} {step : Unit → α → Stp Unit ρ} : ∀ {l : List α}, (∀ x ∈ l, step () x = .next ()) → foldS step () l = .stop ()
  | [], _ => rfl
  | x :: l, h => by
    simp only [foldS, h x (List.mem_cons_self ..)]
    exact fold_next_all (fun y hy => h y (List.mem_cons_of_mem _ hy))
theorem fold_run_of {α ρ : Type} {step : α → Nat → Stp α ρ} {st : Nat → α} : ∀ {d m : Nat}, (∀ i, m ≤ i → i < m + d → step (st i) i = .next (st (i + 1))) → foldS step (st m) (List.range' m d) = .stop (st (m + d))
  | 0, m, _ => rfl
  | d + 1, m, h => by
    rw [List.range'_succ]
    simp only [foldS, h m (Nat.le_refl _) (by omega)]
    have := fold_run_of (step := step) (st := st) (d := d) (m := m + 1) (fun i h1 h2 => h i (by omega) (by omega))
    rw [this, show m + 1 + d = m + (d + 1) by omega]
theorem PO_of {n b : IV} {i m : Int} (h1 : (asL (fld (el (asL (fld b 1)) i) 2)).length = (outs n b i).length) (h2 : ∀ k, k < (asL (fld (el (asL (fld b 1)) i) 2)).length →
    asI ((asL (fld (el (asL (fld b 1)) i) 2)).getD k .N) = m + (k : Int) ∧ m + (k : Int) < ((asL (fld b 0)).length : Int) ∧ asI (fld (el (asL (fld b 0)) (m + (k : Int))) 0) = asI ((outs n b i).getD k .N) ∧ frm b (m + (k : Int)) = i) : PO n b i m = 0 := by
  unfold PO
  rw [if_pos h1, fold_next_all]
  intro k hk
  obtain ⟨e1, e2, e3, e4⟩ := h2 k (List.mem_range.1 hk)
  unfold poS
  rw [if_pos e1, e1, if_neg (by omega), if_pos]
  rw [Bool.and_eq_true]
  exact ⟨decide_eq_true e3, decide_eq_true e4⟩
theorem getD_app1 {l u : List IV} {i : Nat} (h : i < l.length) : (l ++ u).getD i .N = l.getD i .N := by
  simp only [List.getD, List.getElem?_append_left h]
theorem getD_app2 {l u : List IV} {i : Nat} : (l ++ u).getD (l.length + i) .N = u.getD i .N := by
  simp only [List.getD]
  rw [List.getElem?_append_right (by omega), show l.length + i - l.length = i by omega]
theorem el_app1 {l u : List IV} {i : Int} (h0 : 0 ≤ i) (h : i < (l.length : Int)) : el (l ++ u) i = el l i := by
  unfold el; exact getD_app1 (by omega)
section
variable {n : IV} {C E C2 : List IV} {x : IV}
theorem cutB_add {i m : Nat} (hi : i ≤ E.length) (hm : m ≤ C.length) : cutB (.A [.L (C ++ C2), .L (E ++ [x])]) (i : Int) (m : Int) = cutB (.A [.L C, .L E]) (i : Int) (m : Int) := by
  show IV.A [.L ((C ++ C2).take (m : Int).toNat), .L ((E ++ [x]).take (i : Int).toNat)] = IV.A [.L (C.take (m : Int).toNat), .L (E.take (i : Int).toNat)]
  rw [Int.toNat_natCast, Int.toNat_natCast, List.take_append_of_le_length hm, List.take_append_of_le_length hi]
theorem CE_add {i m : Nat} (hi : i < E.length) (hm : m ≤ C.length) (h : CE n (.A [.L C, .L E]) (i : Int) (m : Int) = 0) : CE n (.A [.L (C ++ C2), .L (E ++ [x])]) (i : Int) (m : Int) = 0 := by
  obtain ⟨h1, h2, h3⟩ := CE_cp h
  obtain ⟨k1, k2⟩ := PO_ok h3
  have e1 : el (asL (fld (.A [.L (C ++ C2), .L (E ++ [x])]) 1)) (i : Int) = el (asL (fld (.A [.L C, .L E]) 1)) (i : Int) := by
    rw [el_nat, el_nat]; exact getD_app1 hi
  unfold CE
  rw [e1, if_neg (by omega), cutB_add (by omega) hm, if_pos h2]
  have e2 : outs n (.A [.L (C ++ C2), .L (E ++ [x])]) (i : Int) = outs n (.A [.L C, .L E]) (i : Int) := by unfold outs; rw [e1]
  refine PO_of (by rw [e1, e2]; exact k1) (fun k hk => ?_)
  rw [e1] at hk
  obtain ⟨g1, g2, g3, g4⟩ := k2 k hk
  have e3 : el (asL (fld (.A [.L (C ++ C2), .L (E ++ [x])]) 0)) ((m : Int) + (k : Int)) = el (asL (fld (.A [.L C, .L E]) 0)) ((m : Int) + (k : Int)) := el_app1 (by omega) g2
  rw [e1, e2, e3]
  refine ⟨g1, ?_, g3, ?_⟩
  · have : (m : Int) + (k : Int) < (C.length : Int) := g2
    show _ < (((C ++ C2).length : Nat) : Int)
    rw [List.length_append]; omega
  · unfold frm at g4 ⊢
    rw [e3]; exact g4
end
theorem ck_add {n b l : IV} {t : Int} (hbf : ∃ C E, b = .A [.L C, .L E]) (hlf : ∃ L, l = .L L) (hl : ∀ x ∈ asL l, ∃ z, x = .I z) (ha : aE n b t l = 0) : (CK n (.A [.L (aC n b t), .L (exV n b t l)])).1 = 0 := by
  have hck : (CK n b).1 = 0 := by
    unfold aE at ha
    split at ha
    · assumption
    · rename_i h; exact absurd ha h
  unfold aE at ha
  rw [if_pos hck] at ha
  split at ha
  · cases ha
  rename_i h2
  split at ha
  · cases ha
  rename_i h3
  have hcp : CP n b (nE t l) = 0 := Decidable.byContradiction fun h => h2 (.inr (.inr h))
  have ht0 : 0 ≤ t := by omega
  have ht1 : t < ((asL (fld n 2)).length : Int) := by omega
  have hie := CK_IE hck
  obtain ⟨nx, hp⟩ := pf_of hck
  obtain ⟨C, E, rfl⟩ := hbf
  obtain ⟨L, rfl⟩ := hlf
  have hev : nEv (.A [.L C, .L E]) = E.length := rfl
  have hco : nCo (.A [.L C, .L E]) = C.length := rfl
  have hown := hp.own E.length (Nat.le_refl _)
  have hnx : nx E.length = C.length := by have := hp.t; rw [hev, hco] at this; have := hown.1; rw [hco] at this; omega
  have hmono : ∀ i, i ≤ E.length → nx i ≤ C.length := fun i hi => (hp.own i hi).1
  have hcpy : cpy (.L L) L.length = L := cpy_eq hl
  unfold exV aC
  obtain ⟨P2, hP2⟩ : ∃ P2, P2 = (asL (fld (el (asL (fld n 2)) t) 2)) := ⟨_, rfl⟩
  rw [← hP2]
  show (CK n (.A [.L (C ++ ocs n (.A [.L C, .L E]) t P2.length), .L (E ++ [.A [.I t, .L (cpy (.L L) L.length), .L (pss (.A [.L C, .L E]) P2.length), .B false]])])).1 = 0
  rw [hcpy]
  obtain ⟨C2, hC2⟩ : ∃ C2, C2 = ocs n (.A [.L C, .L E]) t P2.length := ⟨_, rfl⟩
  obtain ⟨PS2, hPS⟩ : ∃ PS2, PS2 = pss (.A [.L C, .L E]) P2.length := ⟨_, rfl⟩
  rw [← hC2, ← hPS]
  have hC2l : C2.length = P2.length := by rw [hC2, ocs_len]
  have hPSl : PS2.length = P2.length := by rw [hPS, pss_len]
  obtain ⟨x, hx⟩ : ∃ x, x = IV.A [.I t, .L L, .L PS2, .B false] := ⟨_, rfl⟩
  rw [← hx]
  have hxe : el (asL (fld (.A [.L (C ++ C2), .L (E ++ [x])]) 1)) (E.length : Int) = x := by
    rw [el_nat]
    show (E ++ [x]).getD (E.length + 0) .N = x
    rw [getD_app2]; rfl
  have houts : outs n (.A [.L (C ++ C2), .L (E ++ [x])]) (E.length : Int) = tgs (fld (el (asL (fld n 2)) t) 2) P2.length := by
    unfold outs
    rw [hxe, hx, hP2]
    rfl
  have hcenew : CE n (.A [.L (C ++ C2), .L (E ++ [x])]) (E.length : Int) (C.length : Int) = 0 := by
    unfold CE
    rw [hxe, if_neg (by rw [hx]; show ¬(t < 0 ∨ _ ≤ t); omega)]
    have e1 : cutB (.A [.L (C ++ C2), .L (E ++ [x])]) (E.length : Int) (C.length : Int) = .A [.L C, .L E] := by
      rw [cutB_add (Nat.le_refl _) (Nat.le_refl _)]
      show IV.A [.L (C.take _), .L (E.take _)] = _
      rw [Int.toNat_natCast, Int.toNat_natCast, List.take_length, List.take_length]
    rw [e1]
    have e2 : CP n (.A [.L C, .L E]) x = 0 := by rw [hx]; exact hcp
    rw [if_pos e2]
    refine PO_of ?_ (fun k hk => ?_)
    · rw [hxe, houts, tgs_len, hx]; exact hPSl
    · rw [hxe] at hk
      have hk : k < P2.length := by rw [hx] at hk; have hk : k < PS2.length := hk; omega
      rw [hxe, houts]
      have g1 : PS2.getD k .N = .I ((C.length + k : Nat) : Int) := by
        rw [hPS]
        show ((List.range P2.length).map fun (k : Nat) => IV.I ((C.length + k : Nat) : Int)).getD k .N = _
        simp [List.getD, hk]
      have g2 : C2.getD k .N = .A [.I (asI ((tgs (fld (el (asL (fld n 2)) t) 2) P2.length).getD k .N)), .I (E.length : Int)] := by
        rw [hC2]; unfold ocs
        rw [← hP2]
        show ((List.range P2.length).map fun (k : Nat) => IV.A [.I (asI ((tgs (fld (el (asL (fld n 2)) t) 2) P2.length).getD k .N)), .I (E.length : Int)]).getD k .N = _
        generalize tgs (fld (el (asL (fld n 2)) t) 2) P2.length = TG2
        simp [List.getD, hk]
      have g3 : el (asL (fld (.A [.L (C ++ C2), .L (E ++ [x])]) 0)) ((C.length : Int) + (k : Int)) = C2.getD k .N := by
        rw [show (C.length : Int) + (k : Int) = ((C.length + k : Nat) : Int) by omega, el_nat]
        exact getD_app2
      refine ⟨?_, ?_, ?_, ?_⟩
      · rw [hx]; show asI (PS2.getD k .N) = _
        rw [g1]; show ((C.length + k : Nat) : Int) = _; omega
      · show _ < (((C ++ C2).length : Nat) : Int)
        rw [List.length_append]; omega
      · rw [g3, g2]; rfl
      · unfold frm; rw [g3, g2]; rfl
  obtain ⟨st, hst⟩ : ∃ st : Nat → Nat, st = fun i => if i ≤ E.length then nx i else C.length + P2.length := ⟨_, rfl⟩
  have hfold : foldS (ckE n (.A [.L (C ++ C2), .L (E ++ [x])])) (fcs n).length (List.range (E.length + 1)) = .stop (C.length + P2.length) := by
    have h0 : st 0 = (fcs n).length := by rw [hst]; show (if 0 ≤ E.length then nx 0 else _) = _; rw [if_pos (Nat.zero_le _)]; exact hp.z
    have h1 : st (0 + (E.length + 1)) = C.length + P2.length := by rw [hst]; show (if _ then _ else _) = _; rw [if_neg (by omega)]
    rw [← h0, ← h1, List.range_eq_range']
    refine fold_run_of (fun i _ hi => ?_)
    have hi2 : i ≤ E.length := by omega
    have hsi : st i = nx i := by rw [hst]; show (if _ then _ else _) = _; rw [if_pos hi2]
    rw [hsi]
    unfold ckE
    by_cases he : i < E.length
    · obtain ⟨k1, k2⟩ := hp.s i he
      rw [if_pos (CE_add he (hmono i hi2) k1)]
      have hs2 : st (i + 1) = nx (i + 1) := by rw [hst]; show (if _ then _ else _) = _; rw [if_pos (by omega)]
      rw [hs2, k2]
      have e : (asL (fld (.A [.L (C ++ C2), .L (E ++ [x])]) 1)).getD i .N = (asL (fld (.A [.L C, .L E]) 1)).getD i .N := getD_app1 he
      rw [e]
    · have : i = E.length := by omega
      subst this
      rw [hnx, if_pos hcenew]
      have hs2 : st (E.length + 1) = C.length + P2.length := by rw [hst]; show (if _ then _ else _) = _; rw [if_neg (by omega)]
      rw [hs2]
      have e : (asL (fld (.A [.L (C ++ C2), .L (E ++ [x])]) 1)).getD E.length .N = x := by rw [← el_nat]; exact hxe
      rw [e, hx]
      show Stp.next (C.length + PS2.length) = _
      rw [hPSl]
  have hle : (fcs n).length ≤ C.length := hp.le
  unfold CK
  have hEl : (asL (fld (.A [.L (C ++ C2), .L (E ++ [x])]) 1)).length = E.length + 1 := by show (E ++ [x]).length = _; simp
  have hCl : (asL (fld (.A [.L (C ++ C2), .L (E ++ [x])]) 0)).length = C.length + P2.length := by show (C ++ C2).length = _; rw [List.length_append, hC2l]
  have h3 : ¬(2000 : Int) ≤ (E.length : Int) := h3
  rw [if_pos hie, hEl, hCl, if_neg (by omega), if_neg (by omega)]
  unfold CK1
  rw [if_neg]
  · unfold CK2
    rw [hEl, hfold, hCl]
    show (if ((C.length + P2.length : Nat) : Int) < ((C.length + P2.length : Nat) : Int) then ((2 : Int), ((E.length + 1 : Nat) : Int)) else (0, 0)).1 = 0
    rw [if_neg (by omega)]
  · intro hc
    obtain ⟨c, hc1, hc2⟩ := List.any_eq_true.1 hc
    have hc1 := List.mem_range.1 hc1
    have e : (asL (fld (.A [.L (C ++ C2), .L (E ++ [x])]) 0)).getD c .N = C.getD c .N := getD_app1 (by omega)
    obtain ⟨f1, f2⟩ := hp.fc c hc1
    rw [e] at hc2
    have f1 : asI (fld (C.getD c .N) 0) = asI (fld ((fcs n).getD c .N) 0) := f1
    have f2 : asI (fld (C.getD c .N) 1) = -1 := by unfold frm at f2; rw [el_nat] at f2; exact f2
    rw [f1, f2, fcs_from hc1] at hc2
    simp at hc2
noncomputable def rR (n b : IV) (t : Int) (l : IV) : RV := .one (.at (.iv 2 29 (if aE n b t l = 0 then .A [.L (aC n b t), .L (exV n b t l)] else .A [.N, .N])))
theorem rR_no {n b : IV} {t : Int} {l : IV} (h : ¬aE n b t l = 0) : rR n b t l = .one (.at (.iv 2 29 (.A [.N, .N]))) := by unfold rR; rw [if_neg h]
theorem rR_ok {n b : IV} {t : Int} {l : IV} (h : aE n b t l = 0) : rR n b t l = .one (.at (.iv 2 29 (.A [.L (aC n b t), .L (exV n b t l)]))) := by unfold rR; rw [if_pos h]
theorem rPS_mem {n b x : IV} (h : x ∈ rPS n b) : ∃ (i : Nat) (s : List Nat), x = .L (.I (i : Int) :: ints s) ∧ i < (asL (fld n 2)).length ∧ s.length = (asL (fld ((asL (fld n 2)).getD i .N) 1)).length ∧ ∀ c ∈ s, c < (asL (fld b 0)).length := by
  unfold rPS at h
  split at h
  · unfold rPO at h
    obtain ⟨t, ht, h⟩ := List.mem_flatMap.1 h
    unfold rPI at h
    obtain ⟨k, hk, rfl⟩ := List.mem_map.1 h
    have hu := memD (List.mem_range.1 hk)
    generalize (rCH n b t).getD k .N = u at hu
    unfold rCH at hu
    obtain ⟨s, h1, h2, _, _, rfl⟩ := mem_chs.1 hu
    exact ⟨t, s, rfl, List.mem_range.1 ht, h1, fun c hc => ((of_xt h2).1 c hc).2⟩
  · cases h
theorem rPS_len {n b x : IV} (hl : ∀ i, (asL (fld ((asL (fld n 2)).getD i .N) 1)).length ≤ 6) (h : x ∈ rPS n b) : (asL x).length ≤ 7 := by
  obtain ⟨i, s, rfl, _, h1, _⟩ := rPS_mem h
  have := hl i
  show (ints s).length + 1 ≤ 7
  rw [ints_len]; omega
theorem ok_row {n b : IV} {s : Int} {u : List IV} (hc : (asL (fld b 0)).length ≤ 24) (hl : ∀ i, (asL (fld ((asL (fld n 2)).getD i .N) 1)).length ≤ 6) (h : IV.L (.I s :: u) ∈ rPS n b) : Ok (.L u) := by
  obtain ⟨i, v, h1, _, h2, h3⟩ := rPS_mem h
  injection h1 with h1
  injection h1 with _ h1
  subst h1
  have := hl i
  refine .L (by rw [ints_len]; unfold maxLen; omega) (fun x hx => ?_)
  obtain ⟨c, hc2, rfl⟩ := ints_mem.1 hx
  have := h3 c hc2
  exact .I (by omega)
end Go.Ev
end
section
set_option linter.unusedVariables false
namespace Go.Ev
theorem poS_1 {n b : IV} {i m k : Nat} {a : Unit} (p1 : ¬asI ((asL (fld ((asL (fld b 1)).getD i .N) 2)).getD k .N) = (m : Int) + (k : Int)) : poS n b (i : Int) (m : Int) a k = .ret true := by
  unfold poS; rw [el_nat, if_neg p1]
theorem poS_2 {n b : IV} {i m k : Nat} {a : Unit} (p1 : asI ((asL (fld ((asL (fld b 1)).getD i .N) 2)).getD k .N) = (m : Int) + (k : Int)) (p2 : ((asL (fld b 0)).length : Int) ≤ (m : Int) + (k : Int)) : poS n b (i : Int) (m : Int) a k = .ret true := by
  unfold poS; rw [el_nat, if_pos p1, p1, if_pos p2]
theorem poS_3 {n b : IV} {i m k : Nat} {a : Unit} (p1 : asI ((asL (fld ((asL (fld b 1)).getD i .N) 2)).getD k .N) = (m : Int) + (k : Int)) (p2 : (m : Int) + (k : Int) < ((asL (fld b 0)).length : Int)) (hk : k < (asL (fld (el (asL (fld n 2)) (asI (fld ((asL (fld b 1)).getD i .N) 0))) 2)).length)
    (h : ¬(asI (fld (el (asL (fld b 0)) ((m : Int) + (k : Int))) 0) = asI (fld ((asL (fld (el (asL (fld n 2)) (asI (fld ((asL (fld b 1)).getD i .N) 0))) 2)).getD k .N) 0) ∧ asI (fld (el (asL (fld b 0)) ((m : Int) + (k : Int))) 1) = (i : Int))) : poS n b (i : Int) (m : Int) a k = .ret true := by
  unfold poS outs
  rw [el_nat, if_pos p1, p1, if_neg (by omega), tgs_get hk, if_neg]
  intro hh
  rw [Bool.and_eq_true] at hh
  exact h ⟨of_decide_eq_true hh.1, of_decide_eq_true hh.2⟩
theorem poS_5 {n b : IV} {i m k : Nat} {a : Unit} (p1 : asI ((asL (fld ((asL (fld b 1)).getD i .N) 2)).getD k .N) = (m : Int) + (k : Int)) (p2 : (m : Int) + (k : Int) < ((asL (fld b 0)).length : Int)) (hk : k < (asL (fld (el (asL (fld n 2)) (asI (fld ((asL (fld b 1)).getD i .N) 0))) 2)).length)
    (p3 : asI (fld (el (asL (fld b 0)) ((m : Int) + (k : Int))) 0) = asI (fld ((asL (fld (el (asL (fld n 2)) (asI (fld ((asL (fld b 1)).getD i .N) 0))) 2)).getD k .N) 0)) (p4 : asI (fld (el (asL (fld b 0)) ((m : Int) + (k : Int))) 1) = (i : Int)) : poS n b (i : Int) (m : Int) a k = .next () := by
  unfold poS outs
  rw [el_nat, if_pos p1, p1, if_neg (by omega), tgs_get hk, if_pos]
  rw [Bool.and_eq_true]
  exact ⟨decide_eq_true p3, decide_eq_true p4⟩
end Go.Ev
end
section
set_option linter.unusedSimpArgs false
set_option linter.unusedVariables false
set_option maxRecDepth 100000
set_option maxHeartbeats 100000000
namespace Go.Proofs.Ytficdonjodadlaa
open Go.Ev Go.Proofs
theorem AU_rcheckb {p : Prop} (h : p := by
  repeat' (first | (with_reducible refine condLt (fun h h' => ?_) (fun h h' => ?_)) | (with_reducible refine condLe (fun h h' => ?_) (fun h h' => ?_)) | (with_reducible refine dop_val ?_) | (with_reducible refine YsLt (fun h h' => ?_) (fun h h' => ?_)) | (with_reducible refine YsLe (fun h h' => ?_) (fun h h' => ?_)) | (with_reducible refine condP (fun h => ?_) (fun h => ?_)) | (with_reducible refine condN (fun h => ?_) (fun h => ?_)) | (with_reducible refine condB (fun h => ?_) (fun h => ?_)) | (with_reducible refine condR (fun h => ?_) (fun h => ?_)) | (with_reducible refine YsB (fun h => ?_) (fun h => ?_)) | (with_reducible refine YsC (fun h => ?_) (fun h => ?_)) | (with_reducible refine Ys_ite (fun h => ?_) (fun h => ?_)) | (intro h) | (with_reducible refine draw_look (by kernel_rfl) (by kernel_rfl) ?_) | (simp (maxDischargeDepth := 9) only [go_sem, Nat.reduceMul, Nat.reduceAdd, Nat.reduceLeDiff, Int.reduceSub, Int.reduceNeg, Int.reduceLT, Int.reduceLE, Int.reduceEq, *, rinitial_ans, rcoset_ans, rrise_ans, rlisted_ans, Tab.eqF, Function.comp_apply, R1.frozenL, RV.frozenT, cutB_eqn, tgs_len]) | (exfalso; omega))) : p := h
theorem rcheckb_ans (ext : CallF) (k : Nat) (n b : IV) (hk : maxLen + (40) ≤ k) (hnn : Ok n) (hb : Ok b) (hz : (asL (fld b 1)).length ≤ 1000000) (hzc : (asL (fld b 0)).length ≤ 1000000) (hzp : (asL (fld n 1)).length ≤ 1000) (hg : IE n = 0 → NG n) : ans (tab.run ext k) 16 [.iv 2 25 n, .iv 2 29 b] 6 = some ([.one (.at (.iv 2 38 (.A [.I (CK n b).1, .I (CK n b).2])))], [38]) := by
  obtain ⟨k, rfl⟩ : ∃ k', k = k' + 1 := ⟨k - 1, by omega⟩
  have hk1 : maxLen < k := by omega
  have hk0 : 0 < k := by omega
  have hk_0 : maxLen + (14) ≤ k := by omega
  have hk_1 : maxLen + (2) ≤ k := by omega
  have hk_2 : maxLen + (24) ≤ k := by omega
  have hk_3 : maxLen + (6) ≤ k := by omega
  refine fn_run (fx := fx16) (m := 238) 240 rfl rfl rfl rfl (fun st hn hg hr => ?_)
  have g0 : st.get (.tmp 0) = .v (.a (.iv 2 25 n)) := hg 0 (of_decide_eq_true rfl)
  have g1 : st.get (.tmp 1) = .v (.a (.iv 2 29 b)) := hg 1 (of_decide_eq_true rfl)
  have r0 := hr 0
  have r1 := hr 1
  have r2 := hr 2
  have r3 := hr 3
  have r4 := hr 4
  have r5 := hr 5
  clear hg hr
  rw [co16]
  simp only [Try.f16, Option.getD_some]
  unfold CK
  have hl0 := ok_len (ok_fld (j := 0) hb)
  have hl1 := ok_len (ok_fld (j := 1) hb)
  have hlf := fcs_len (n := n)
  have hlf2 : (fcs n).length ≤ 1000000 := by omega
  by_cases h1 : IE n = 0
  case neg =>
    have hib := ibR_no h1
    simp (maxDischargeDepth := 9) only [go_sem, Nat.reduceMul, Nat.reduceAdd, Nat.reduceLeDiff, Int.reduceSub, Int.reduceNeg, Int.reduceLT, Int.reduceLE, Int.reduceEq, *, rinitial_ans, rcoset_ans, rrise_ans, rlisted_ans, Tab.eqF, Function.comp_apply, R1.frozenL, RV.frozenT, cutB_eqn, tgs_len]
    all_goals exact AU_rcheckb
  have hib := ibR_ok h1
  have hg := hg h1
  have hr := rg_of h1
  simp (maxDischargeDepth := 9) only [go_sem, Nat.reduceMul, Nat.reduceAdd, Nat.reduceLeDiff, Int.reduceSub, Int.reduceNeg, Int.reduceLT, Int.reduceLE, Int.reduceEq, *, rinitial_ans, rcoset_ans, rrise_ans, rlisted_ans, Tab.eqF, Function.comp_apply, R1.frozenL, RV.frozenT, cutB_eqn, tgs_len]
  repeat' (first | (with_reducible refine condLt (fun h h' => ?_) (fun h h' => ?_)) | (with_reducible refine condLe (fun h h' => ?_) (fun h h' => ?_)) | (with_reducible refine dop_val ?_) | (with_reducible refine YsLt (fun h h' => ?_) (fun h h' => ?_)) | (with_reducible refine YsLe (fun h h' => ?_) (fun h h' => ?_)) | (with_reducible refine condP (fun h => ?_) (fun h => ?_)) | (with_reducible refine condN (fun h => ?_) (fun h => ?_)) | (with_reducible refine condB (fun h => ?_) (fun h => ?_)) | (with_reducible refine condR (fun h => ?_) (fun h => ?_)) | (with_reducible refine YsB (fun h => ?_) (fun h => ?_)) | (with_reducible refine YsC (fun h => ?_) (fun h => ?_)) | (with_reducible refine Ys_ite (fun h => ?_) (fun h => ?_)) | (intro h) | (with_reducible refine draw_look (by kernel_rfl) (by kernel_rfl) ?_) | (simp (maxDischargeDepth := 9) only [go_sem, Nat.reduceMul, Nat.reduceAdd, Nat.reduceLeDiff, Int.reduceSub, Int.reduceNeg, Int.reduceLT, Int.reduceLE, Int.reduceEq, *, rinitial_ans, rcoset_ans, rrise_ans, rlisted_ans, Tab.eqF, Function.comp_apply, R1.frozenL, RV.frozenT, cutB_eqn, tgs_len]) | (exfalso; omega))
  unfold CK1
  refine gen_st (fun s0 hg hr hn0 => ?_)
  have e2 := hg 2
  have e3 := hg 3
  have e4 := hg 4
  have e5 := hg 5
  have e7 := hg 7
  have q0 := hr 0
  have q1 := hr 1
  have q2 := hr 2
  have q3 := hr 3
  clear hg hr
  simp only [go_sem, *] at hn0 e2 e3 e4 e5 e7 q0 q1 q2 q3
  refine nr (runs_forN (fcs n).length (ckF n b) () 240 (fun i a => [(2, s0.get (.tmp 2)), (3, s0.get (.tmp 3)), (4, s0.get (.tmp 4)), (5, s0.get (.tmp 5)), (7, .v (.a (.int .i64 (i : Nat))))]) (fun i a => [(0, s0.row 0), (1, s0.row 1), (2, s0.row 2), (3, s0.row 3)]) (fun i a => True) (by omega) ?_ (trivial) ?_ ?_ ?_ ?_)
  · simp (maxDischargeDepth := 9) only [go_sem, Nat.reduceMul, Nat.reduceAdd, Nat.reduceLeDiff, Int.reduceSub, Int.reduceNeg, Int.reduceLT, Int.reduceLE, Int.reduceEq, *, rinitial_ans, rcoset_ans, rrise_ans, rlisted_ans, Tab.eqF, Function.comp_apply, R1.frozenL, RV.frozenT, cutB_eqn, tgs_len]
  · intro i a; simp (maxDischargeDepth := 9) only [go_sem, Nat.reduceMul, Nat.reduceAdd, Nat.reduceLeDiff, Int.reduceSub, Int.reduceNeg, Int.reduceLT, Int.reduceLE, Int.reduceEq, *, rinitial_ans, rcoset_ans, rrise_ans, rlisted_ans, Tab.eqF, Function.comp_apply, R1.frozenL, RV.frozenT, cutB_eqn, tgs_len]
  · intro i a; simp (maxDischargeDepth := 9) only [go_sem, Nat.reduceMul, Nat.reduceAdd, Nat.reduceLeDiff, Int.reduceSub, Int.reduceNeg, Int.reduceLT, Int.reduceLE, Int.reduceEq, *, rinitial_ans, rcoset_ans, rrise_ans, rlisted_ans, Tab.eqF, Function.comp_apply, R1.frozenL, RV.frozenT, cutB_eqn, tgs_len]
  · intro i a s hi hI hS
    clear hn0 e7
    simp only [go_sem] at hS
    obtain ⟨f2, f3, f4, f5, f7, m0, m1, m2, m3, hn⟩ := hS
    have hw := wrap_succ hi (by unfold maxLen; omega)
    unfold ckF
    have hib : i < (asL (fld b 0)).length := by omega
    refine rn ?_
    simp (maxDischargeDepth := 9) only [go_sem, Nat.reduceMul, Nat.reduceAdd, Nat.reduceLeDiff, Int.reduceSub, Int.reduceNeg, Int.reduceLT, Int.reduceLE, Int.reduceEq, *, rinitial_ans, rcoset_ans, rrise_ans, rlisted_ans, Tab.eqF, Function.comp_apply, R1.frozenL, RV.frozenT, cutB_eqn, tgs_len]
    all_goals exact AU_rcheckb
  · intro a s hI hf hS
    clear hn0 e7
    simp only [go_sem] at hS
    obtain ⟨f2, f3, f4, f5, f7, m0, m1, m2, m3, hn⟩ := hS
    try simp only [go_sem] at hf
    unfold ckF at hf
    simp only [go_sem] at hf
    unfold CK2
    refine rn ?_
    simp (maxDischargeDepth := 9) only [go_sem, Nat.reduceMul, Nat.reduceAdd, Nat.reduceLeDiff, Int.reduceSub, Int.reduceNeg, Int.reduceLT, Int.reduceLE, Int.reduceEq, *, rinitial_ans, rcoset_ans, rrise_ans, rlisted_ans, Tab.eqF, Function.comp_apply, R1.frozenL, RV.frozenT, cutB_eqn, tgs_len]
    refine gen_st (fun s0 hg hr hn0 => ?_)
    have e2 := hg 2
    have e3 := hg 3
    have e4 := hg 4
    have e9 := hg 9
    have e8 := hg 8
    have q0 := hr 0
    have q1 := hr 1
    have q2 := hr 2
    have q3 := hr 3
    clear hg hr
    simp only [go_sem, *] at hn0 e2 e3 e4 e9 e8 q0 q1 q2 q3
    refine nr (runs_forNF (asL (fld b 1)).length (ckE n b) (fcs n).length 240 (fun i m => [(2, s0.get (.tmp 2)), (3, s0.get (.tmp 3)), (4, s0.get (.tmp 4)), (8, .v (.a (.int .i64 (m : Nat)))), (9, .v (.a (.int .i64 (i : Nat))))]) (fun i m => [(0, s0.row 0), (1, s0.row 1), (2, s0.row 2), (3, s0.row 3)]) (fun i m => (m ≤ (asL (fld b 0)).length)) (by omega) ?_ (by omega) ?_ ?_ ?_ ?_)
    · simp (maxDischargeDepth := 9) only [go_sem, Nat.reduceMul, Nat.reduceAdd, Nat.reduceLeDiff, Int.reduceSub, Int.reduceNeg, Int.reduceLT, Int.reduceLE, Int.reduceEq, *, rinitial_ans, rcoset_ans, rrise_ans, rlisted_ans, Tab.eqF, Function.comp_apply, R1.frozenL, RV.frozenT, cutB_eqn, tgs_len]
    · intro i a; simp (maxDischargeDepth := 9) only [go_sem, Nat.reduceMul, Nat.reduceAdd, Nat.reduceLeDiff, Int.reduceSub, Int.reduceNeg, Int.reduceLT, Int.reduceLE, Int.reduceEq, *, rinitial_ans, rcoset_ans, rrise_ans, rlisted_ans, Tab.eqF, Function.comp_apply, R1.frozenL, RV.frozenT, cutB_eqn, tgs_len]
    · intro i a; simp (maxDischargeDepth := 9) only [go_sem, Nat.reduceMul, Nat.reduceAdd, Nat.reduceLeDiff, Int.reduceSub, Int.reduceNeg, Int.reduceLT, Int.reduceLE, Int.reduceEq, *, rinitial_ans, rcoset_ans, rrise_ans, rlisted_ans, Tab.eqF, Function.comp_apply, R1.frozenL, RV.frozenT, cutB_eqn, tgs_len]
    · intro i m s hi hI hS hz
      clear hn0 e9 e8
      simp only [go_sem] at hS
      obtain ⟨f2, f3, f4, f8, f9, m0, m1, m2, m3, hn⟩ := hS
      have hw := wrap_succ hi (hl1)
      have zr5 := hz 5 (by kernel_rfl)
      have zr4 := hz 4 (by kernel_rfl)
      clear hz
      unfold ckE
      have hio := hi
      have hox : Ok ((asL (fld b 1)).getD i .N) := ok_getD (ok_fld hb)
      have hop : Ok (fld ((asL (fld b 1)).getD i .N) 1) := ok_fld hox
      have hlp : (asL (fld ((asL (fld b 1)).getD i .N) 1)).length ≤ maxLen := ok_len hop
      have hlq : (asL (fld ((asL (fld b 1)).getD i .N) 2)).length ≤ maxLen := ok_len (ok_fld hox)
      have hiE : i ≤ (asL (fld b 1)).length := by omega
      by_cases h1 : asI (fld ((asL (fld b 1)).getD i .N) 0) < 0 ∨ ((asL (fld n 2)).length : Int) ≤ asI (fld ((asL (fld b 1)).getD i .N) 0)
      case pos =>
        have hce : CE n b (i : Int) (m : Int) = 1 := CE_1 h1
        refine rn ?_
        simp (maxDischargeDepth := 9) only [go_sem, Nat.reduceMul, Nat.reduceAdd, Nat.reduceLeDiff, Int.reduceSub, Int.reduceNeg, Int.reduceLT, Int.reduceLE, Int.reduceEq, *, rinitial_ans, rcoset_ans, rrise_ans, rlisted_ans, Tab.eqF, Function.comp_apply, R1.frozenL, RV.frozenT, cutB_eqn, tgs_len]
        all_goals exact AU_rcheckb
      have h1a : 0 ≤ asI (fld ((asL (fld b 1)).getD i .N) 0) := by omega
      have h1b : asI (fld ((asL (fld b 1)).getD i .N) 0) < ((asL (fld n 2)).length : Int) := by omega
      have h1c : ¬asI (fld ((asL (fld b 1)).getD i .N) 0) < 0 := by omega
      have h1d : ¬((asL (fld n 2)).length : Int) ≤ asI (fld ((asL (fld b 1)).getD i .N) 0) := by omega
      clear h1
      have hceq : CE n b (i : Int) (m : Int) = ((if (asL (fld ((asL (fld b 1)).getD i .N) 1)).length = (asL (fld (el (asL (fld n 2)) (asI (fld ((asL (fld b 1)).getD i .N) 0))) 1)).length then (if RZ (fld ((asL (fld b 1)).getD i .N) 1) = true then 8 else if ((asL (fld ((asL (fld b 1)).getD i .N) 1)).any fun x => decide (asI x < 0 ∨ (m : Int) ≤ asI x)) = true then 7 else if rfit b (asL (fld (el (asL (fld n 2)) (asI (fld ((asL (fld b 1)).getD i .N) 0))) 1)) (asL (fld ((asL (fld b 1)).getD i .N) 1)) = true then (if CS (cutB b (i : Int) (m : Int)) (fld ((asL (fld b 1)).getD i .N) 1) = true then (if lst b i (asI (fld ((asL (fld b 1)).getD i .N) 0)) (fld ((asL (fld b 1)).getD i .N) 1) = true then 6 else PO n b (i : Int) (m : Int)) else 15) else 17) else 2) : Int) := CE_eq (n := n) (b := b) (i := i) (m := m) hiE hI hg hr h1a h1b
      have hne : (asL (fld (el (asL (fld n 2)) (asI (fld ((asL (fld b 1)).getD i .N) 0))) 1)).length ≠ 0 := hr.ne _ (el_mem h1a h1b)
      by_cases h2 : (asL (fld ((asL (fld b 1)).getD i .N) 1)).length = (asL (fld (el (asL (fld n 2)) (asI (fld ((asL (fld b 1)).getD i .N) 0))) 1)).length
      case neg =>
        have hce : CE n b (i : Int) (m : Int) = 2 := by rw [hceq, if_neg h2]
        clear hceq
        refine rn ?_
        simp (maxDischargeDepth := 9) only [go_sem, Nat.reduceMul, Nat.reduceAdd, Nat.reduceLeDiff, Int.reduceSub, Int.reduceNeg, Int.reduceLT, Int.reduceLE, Int.reduceEq, *, rinitial_ans, rcoset_ans, rrise_ans, rlisted_ans, Tab.eqF, Function.comp_apply, R1.frozenL, RV.frozenT, cutB_eqn, tgs_len]
        all_goals exact AU_rcheckb
      rw [if_pos h2] at hceq
      have h2s : (asL (fld (el (asL (fld n 2)) (asI (fld ((asL (fld b 1)).getD i .N) 0))) 1)).length = (asL (fld ((asL (fld b 1)).getD i .N) 1)).length := h2.symm
      rw [h2s] at hne
      clear h2
      by_cases h3 : RZ (fld ((asL (fld b 1)).getD i .N) 1) = true
      case pos =>
        have hce : CE n b (i : Int) (m : Int) = 8 := by rw [hceq, if_pos h3]
        clear hceq
        refine rn ?_
        simp (maxDischargeDepth := 9) only [go_sem, Nat.reduceMul, Nat.reduceAdd, Nat.reduceLeDiff, Int.reduceSub, Int.reduceNeg, Int.reduceLT, Int.reduceLE, Int.reduceEq, *, rinitial_ans, rcoset_ans, rrise_ans, rlisted_ans, Tab.eqF, Function.comp_apply, R1.frozenL, RV.frozenT, cutB_eqn, tgs_len]
        all_goals exact AU_rcheckb
      rw [if_neg h3] at hceq
      have h3f : RZ (fld ((asL (fld b 1)).getD i .N) 1) = false := by simpa using h3
      have hrz : ((asL (fld ((asL (fld b 1)).getD i .N) 1)).any fun x => decide (asI x < 0 ∨ (m : Int) ≤ asI x)) = true ↔ asI (el (asL (fld ((asL (fld b 1)).getD i .N) 1)) 0) < 0 ∨ (m : Int) ≤ asI ((asL (fld ((asL (fld b 1)).getD i .N) 1)).getD ((asL (fld ((asL (fld b 1)).getD i .N) 1)).length - 1) .N) := rz_range (m := (m : Int)) h3f hne
      have hl3 : 0 < (asL (fld ((asL (fld b 1)).getD i .N) 1)).length := by omega
      have hl4 : (asL (fld ((asL (fld b 1)).getD i .N) 1)).length - 1 < (asL (fld ((asL (fld b 1)).getD i .N) 1)).length := by omega
      have hwl : IntKind.i64.wrap (((asL (fld ((asL (fld b 1)).getD i .N) 1)).length : Int) - 1) = (((asL (fld ((asL (fld b 1)).getD i .N) 1)).length - 1 : Nat) : Int) := by
        rw [Go.IntWalk.i64_in _ (by unfold maxLen at hlp; omega)]; omega
      by_cases h4a : asI (el (asL (fld ((asL (fld b 1)).getD i .N) 1)) 0) < 0
      case pos =>
        have hce : CE n b (i : Int) (m : Int) = 7 := by rw [hceq, if_pos (hrz.2 (.inl h4a))]
        clear hceq hrz
        refine rn ?_
        simp (maxDischargeDepth := 9) only [go_sem, Nat.reduceMul, Nat.reduceAdd, Nat.reduceLeDiff, Int.reduceSub, Int.reduceNeg, Int.reduceLT, Int.reduceLE, Int.reduceEq, *, rinitial_ans, rcoset_ans, rrise_ans, rlisted_ans, Tab.eqF, Function.comp_apply, R1.frozenL, RV.frozenT, cutB_eqn, tgs_len]
        all_goals exact AU_rcheckb
      have h4c : 0 ≤ asI (el (asL (fld ((asL (fld b 1)).getD i .N) 1)) 0) := by omega
      by_cases h4b : (m : Int) ≤ asI ((asL (fld ((asL (fld b 1)).getD i .N) 1)).getD ((asL (fld ((asL (fld b 1)).getD i .N) 1)).length - 1) .N)
      case pos =>
        have hce : CE n b (i : Int) (m : Int) = 7 := by rw [hceq, if_pos (hrz.2 (.inr h4b))]
        clear hceq hrz
        refine rn ?_
        simp (maxDischargeDepth := 9) only [go_sem, Nat.reduceMul, Nat.reduceAdd, Nat.reduceLeDiff, Int.reduceSub, Int.reduceNeg, Int.reduceLT, Int.reduceLE, Int.reduceEq, *, rinitial_ans, rcoset_ans, rrise_ans, rlisted_ans, Tab.eqF, Function.comp_apply, R1.frozenL, RV.frozenT, cutB_eqn, tgs_len]
        all_goals exact AU_rcheckb
      have h4 : ¬((asL (fld ((asL (fld b 1)).getD i .N) 1)).any fun x => decide (asI x < 0 ∨ (m : Int) ≤ asI x)) = true := fun h => by
        rcases hrz.1 h with h | h
        · exact h4a h
        · exact h4b h
      rw [if_neg h4] at hceq
      have hin : ∀ x ∈ asL (fld ((asL (fld b 1)).getD i .N) 1), 0 ≤ asI x ∧ asI x < ((asL (fld b 0)).length : Int) := by
        intro x hx
        have := List.any_eq_false.1 (Bool.eq_false_iff.2 h4) x hx
        simp only [decide_eq_true_eq] at this
        omega
      clear h4 hrz
      have hft := rfits_ans ext k n b (fld ((asL (fld b 1)).getD i .N) 1) (asI (fld ((asL (fld b 1)).getD i .N) 0)) 2 2 2 (by omega) hnn hop h1a h1b hin
      by_cases h5 : rfit b (asL (fld (el (asL (fld n 2)) (asI (fld ((asL (fld b 1)).getD i .N) 0))) 1)) (asL (fld ((asL (fld b 1)).getD i .N) 1)) = true
      case neg =>
        have h5f : rfit b (asL (fld (el (asL (fld n 2)) (asI (fld ((asL (fld b 1)).getD i .N) 0))) 1)) (asL (fld ((asL (fld b 1)).getD i .N) 1)) = false := by simpa using h5
        have hce : CE n b (i : Int) (m : Int) = 17 := by rw [hceq, if_neg h5]
        clear hceq hin
        refine rn ?_
        simp (maxDischargeDepth := 9) only [go_sem, Nat.reduceMul, Nat.reduceAdd, Nat.reduceLeDiff, Int.reduceSub, Int.reduceNeg, Int.reduceLT, Int.reduceLE, Int.reduceEq, *, rinitial_ans, rcoset_ans, rrise_ans, rlisted_ans, Tab.eqF, Function.comp_apply, R1.frozenL, RV.frozenT, cutB_eqn, tgs_len]
        all_goals exact AU_rcheckb
      rw [if_pos h5] at hceq
      have hoc : Ok (cutB b (i : Int) (m : Int)) := ok_cutB hb
      have hcz : (asL (fld (cutB b (i : Int) (m : Int)) 1)).length ≤ 1000000 := by rw [cutB_1]; exact Nat.le_trans (List.length_take_le' _ _) hz
      by_cases h6 : CS (cutB b (i : Int) (m : Int)) (fld ((asL (fld b 1)).getD i .N) 1) = true
      case neg =>
        have h6f : CS (cutB b (i : Int) (m : Int)) (fld ((asL (fld b 1)).getD i .N) 1) = false := by simpa using h6
        have hce : CE n b (i : Int) (m : Int) = 15 := by rw [hceq, if_neg h6]
        clear hceq hin
        refine rn ?_
        simp (maxDischargeDepth := 9) only [go_sem, Nat.reduceMul, Nat.reduceAdd, Nat.reduceLeDiff, Int.reduceSub, Int.reduceNeg, Int.reduceLT, Int.reduceLE, Int.reduceEq, *, rinitial_ans, rcoset_ans, rrise_ans, rlisted_ans, Tab.eqF, Function.comp_apply, R1.frozenL, RV.frozenT, cutB_eqn, tgs_len]
        with_reducible refine draw_look (by kernel_rfl) (by kernel_rfl) ?_
        simp (maxDischargeDepth := 9) only [go_sem, Nat.reduceMul, Nat.reduceAdd, Nat.reduceLeDiff, Int.reduceSub, Int.reduceNeg, Int.reduceLT, Int.reduceLE, Int.reduceEq, *, rinitial_ans, rcoset_ans, rrise_ans, rlisted_ans, Tab.eqF, Function.comp_apply, R1.frozenL, RV.frozenT, cutB_eqn, tgs_len]
        iterate 12
          with_reducible refine dop_val ?_
          simp (maxDischargeDepth := 9) only [go_sem, Nat.reduceMul, Nat.reduceAdd, Nat.reduceLeDiff, Int.reduceSub, Int.reduceNeg, Int.reduceLT, Int.reduceLE, Int.reduceEq, *, rinitial_ans, rcoset_ans, rrise_ans, rlisted_ans, Tab.eqF, Function.comp_apply, R1.frozenL, RV.frozenT, cutB_eqn, tgs_len]
        refine gen_st (fun s1 hg hr hn1 => ?_)
        have z2 := hg 2
        have z3 := hg 3
        have z4 := hg 4
        have z8 := hg 8
        have z9 := hg 9
        have z10 := hg 10
        have y0 := hr 0
        have y1 := hr 1
        have y2 := hr 2
        have y3 := hr 3
        have y4 := hr 4
        have y5 := hr 5
        clear hg hr
        simp only [go_sem, *] at hn1 z2 z3 z4 z8 z9 z10 y0 y1 y2 y3 y4 y5
        with_reducible refine draw_with [5, 5] (by kernel_rfl) (by kernel_rfl) ?_
        simp (maxDischargeDepth := 9) only [go_sem, Nat.reduceMul, Nat.reduceAdd, Nat.reduceLeDiff, Int.reduceSub, Int.reduceNeg, Int.reduceLT, Int.reduceLE, Int.reduceEq, *, rinitial_ans, rcoset_ans, rrise_ans, rlisted_ans, Tab.eqF, Function.comp_apply, R1.frozenL, RV.frozenT, cutB_eqn, tgs_len]
        iterate 9
          with_reducible refine dop_valW ?_ ?_
          · simp only [St.keysOf, Op.operands, List.flatMap_cons, List.flatMap_nil, SV.keys, V1.keys, At.keys, go_sem, *]
            try (simp [Option.toArray, SV.keys, V1.keys, At.keys, go_sem, *]; done)
            try rfl
          simp (maxDischargeDepth := 9) only [go_sem, Nat.reduceMul, Nat.reduceAdd, Nat.reduceLeDiff, Int.reduceSub, Int.reduceNeg, Int.reduceLT, Int.reduceLE, Int.reduceEq, *, rinitial_ans, rcoset_ans, rrise_ans, rlisted_ans, Tab.eqF, Function.comp_apply, R1.frozenL, RV.frozenT, cutB_eqn, tgs_len]
        with_reducible refine dop_eff (by kernel_rfl) rfl ?_
        simp (maxDischargeDepth := 9) only [go_sem, Nat.reduceMul, Nat.reduceAdd, Nat.reduceLeDiff, Int.reduceSub, Int.reduceNeg, Int.reduceLT, Int.reduceLE, Int.reduceEq, *, rinitial_ans, rcoset_ans, rrise_ans, rlisted_ans, Tab.eqF, Function.comp_apply, R1.frozenL, RV.frozenT, cutB_eqn, tgs_len, Tab.eff, List.isEmpty_nil, Option.isNone_none]
        first | (with_reducible refine dop_loud (by kernel_rfl) ?_; simp (maxDischargeDepth := 9) only [go_sem, Nat.reduceMul, Nat.reduceAdd, Nat.reduceLeDiff, Int.reduceSub, Int.reduceNeg, Int.reduceLT, Int.reduceLE, Int.reduceEq, *, rinitial_ans, rcoset_ans, rrise_ans, rlisted_ans, Tab.eqF, Function.comp_apply, R1.frozenL, RV.frozenT, cutB_eqn, tgs_len]) | (with_reducible refine dop_eff (by kernel_rfl) rfl ?_; simp (maxDischargeDepth := 9) only [go_sem, Nat.reduceMul, Nat.reduceAdd, Nat.reduceLeDiff, Int.reduceSub, Int.reduceNeg, Int.reduceLT, Int.reduceLE, Int.reduceEq, *, rinitial_ans, rcoset_ans, rrise_ans, rlisted_ans, Tab.eqF, Function.comp_apply, R1.frozenL, RV.frozenT, cutB_eqn, tgs_len, Tab.eff, List.isEmpty_nil, Option.isNone_none])
        all_goals exact AU_rcheckb
      rw [if_pos h6] at hceq
      by_cases h7 : lst b i (asI (fld ((asL (fld b 1)).getD i .N) 0)) (fld ((asL (fld b 1)).getD i .N) 1) = true
      case pos =>
        have hce : CE n b (i : Int) (m : Int) = 6 := by rw [hceq, if_pos h7]
        clear hceq hin
        refine rn ?_
        simp (maxDischargeDepth := 9) only [go_sem, Nat.reduceMul, Nat.reduceAdd, Nat.reduceLeDiff, Int.reduceSub, Int.reduceNeg, Int.reduceLT, Int.reduceLE, Int.reduceEq, *, rinitial_ans, rcoset_ans, rrise_ans, rlisted_ans, Tab.eqF, Function.comp_apply, R1.frozenL, RV.frozenT, cutB_eqn, tgs_len]
        with_reducible refine draw_look (by kernel_rfl) (by kernel_rfl) ?_
        simp (maxDischargeDepth := 9) only [go_sem, Nat.reduceMul, Nat.reduceAdd, Nat.reduceLeDiff, Int.reduceSub, Int.reduceNeg, Int.reduceLT, Int.reduceLE, Int.reduceEq, *, rinitial_ans, rcoset_ans, rrise_ans, rlisted_ans, Tab.eqF, Function.comp_apply, R1.frozenL, RV.frozenT, cutB_eqn, tgs_len]
        iterate 12
          with_reducible refine dop_val ?_
          simp (maxDischargeDepth := 9) only [go_sem, Nat.reduceMul, Nat.reduceAdd, Nat.reduceLeDiff, Int.reduceSub, Int.reduceNeg, Int.reduceLT, Int.reduceLE, Int.reduceEq, *, rinitial_ans, rcoset_ans, rrise_ans, rlisted_ans, Tab.eqF, Function.comp_apply, R1.frozenL, RV.frozenT, cutB_eqn, tgs_len]
        refine gen_st (fun s1 hg hr hn1 => ?_)
        have z2 := hg 2
        have z3 := hg 3
        have z4 := hg 4
        have z8 := hg 8
        have z9 := hg 9
        have z10 := hg 10
        have y0 := hr 0
        have y1 := hr 1
        have y2 := hr 2
        have y3 := hr 3
        have y4 := hr 4
        have y5 := hr 5
        clear hg hr
        simp only [go_sem, *] at hn1 z2 z3 z4 z8 z9 z10 y0 y1 y2 y3 y4 y5
        with_reducible refine draw_with [5, 5] (by kernel_rfl) (by kernel_rfl) ?_
        simp (maxDischargeDepth := 9) only [go_sem, Nat.reduceMul, Nat.reduceAdd, Nat.reduceLeDiff, Int.reduceSub, Int.reduceNeg, Int.reduceLT, Int.reduceLE, Int.reduceEq, *, rinitial_ans, rcoset_ans, rrise_ans, rlisted_ans, Tab.eqF, Function.comp_apply, R1.frozenL, RV.frozenT, cutB_eqn, tgs_len]
        iterate 9
          with_reducible refine dop_valW ?_ ?_
          · simp only [St.keysOf, Op.operands, List.flatMap_cons, List.flatMap_nil, SV.keys, V1.keys, At.keys, go_sem, *]
            try (simp [Option.toArray, SV.keys, V1.keys, At.keys, go_sem, *]; done)
            try rfl
          simp (maxDischargeDepth := 9) only [go_sem, Nat.reduceMul, Nat.reduceAdd, Nat.reduceLeDiff, Int.reduceSub, Int.reduceNeg, Int.reduceLT, Int.reduceLE, Int.reduceEq, *, rinitial_ans, rcoset_ans, rrise_ans, rlisted_ans, Tab.eqF, Function.comp_apply, R1.frozenL, RV.frozenT, cutB_eqn, tgs_len]
        with_reducible refine dop_eff (by kernel_rfl) rfl ?_
        simp (maxDischargeDepth := 9) only [go_sem, Nat.reduceMul, Nat.reduceAdd, Nat.reduceLeDiff, Int.reduceSub, Int.reduceNeg, Int.reduceLT, Int.reduceLE, Int.reduceEq, *, rinitial_ans, rcoset_ans, rrise_ans, rlisted_ans, Tab.eqF, Function.comp_apply, R1.frozenL, RV.frozenT, cutB_eqn, tgs_len, Tab.eff, List.isEmpty_nil, Option.isNone_none]
        first | (with_reducible refine dop_loud (by kernel_rfl) ?_; simp (maxDischargeDepth := 9) only [go_sem, Nat.reduceMul, Nat.reduceAdd, Nat.reduceLeDiff, Int.reduceSub, Int.reduceNeg, Int.reduceLT, Int.reduceLE, Int.reduceEq, *, rinitial_ans, rcoset_ans, rrise_ans, rlisted_ans, Tab.eqF, Function.comp_apply, R1.frozenL, RV.frozenT, cutB_eqn, tgs_len]) | (with_reducible refine dop_eff (by kernel_rfl) rfl ?_; simp (maxDischargeDepth := 9) only [go_sem, Nat.reduceMul, Nat.reduceAdd, Nat.reduceLeDiff, Int.reduceSub, Int.reduceNeg, Int.reduceLT, Int.reduceLE, Int.reduceEq, *, rinitial_ans, rcoset_ans, rrise_ans, rlisted_ans, Tab.eqF, Function.comp_apply, R1.frozenL, RV.frozenT, cutB_eqn, tgs_len, Tab.eff, List.isEmpty_nil, Option.isNone_none])
        all_goals exact AU_rcheckb
      have h7f : lst b i (asI (fld ((asL (fld b 1)).getD i .N) 0)) (fld ((asL (fld b 1)).getD i .N) 1) = false := by simpa using h7
      rw [if_neg h7] at hceq
      by_cases h8 : (asL (fld ((asL (fld b 1)).getD i .N) 2)).length = (asL (fld (el (asL (fld n 2)) (asI (fld ((asL (fld b 1)).getD i .N) 0))) 2)).length
      case neg =>
        have hce : CE n b (i : Int) (m : Int) = 7 := by rw [hceq]; exact PO_len h8
        clear hceq hin
        refine rn ?_
        simp (maxDischargeDepth := 9) only [go_sem, Nat.reduceMul, Nat.reduceAdd, Nat.reduceLeDiff, Int.reduceSub, Int.reduceNeg, Int.reduceLT, Int.reduceLE, Int.reduceEq, *, rinitial_ans, rcoset_ans, rrise_ans, rlisted_ans, Tab.eqF, Function.comp_apply, R1.frozenL, RV.frozenT, cutB_eqn, tgs_len]
        with_reducible refine draw_look (by kernel_rfl) (by kernel_rfl) ?_
        simp (maxDischargeDepth := 9) only [go_sem, Nat.reduceMul, Nat.reduceAdd, Nat.reduceLeDiff, Int.reduceSub, Int.reduceNeg, Int.reduceLT, Int.reduceLE, Int.reduceEq, *, rinitial_ans, rcoset_ans, rrise_ans, rlisted_ans, Tab.eqF, Function.comp_apply, R1.frozenL, RV.frozenT, cutB_eqn, tgs_len]
        iterate 12
          with_reducible refine dop_val ?_
          simp (maxDischargeDepth := 9) only [go_sem, Nat.reduceMul, Nat.reduceAdd, Nat.reduceLeDiff, Int.reduceSub, Int.reduceNeg, Int.reduceLT, Int.reduceLE, Int.reduceEq, *, rinitial_ans, rcoset_ans, rrise_ans, rlisted_ans, Tab.eqF, Function.comp_apply, R1.frozenL, RV.frozenT, cutB_eqn, tgs_len]
        refine gen_st (fun s1 hg hr hn1 => ?_)
        have z2 := hg 2
        have z3 := hg 3
        have z4 := hg 4
        have z8 := hg 8
        have z9 := hg 9
        have z10 := hg 10
        have y0 := hr 0
        have y1 := hr 1
        have y2 := hr 2
        have y3 := hr 3
        have y4 := hr 4
        have y5 := hr 5
        clear hg hr
        simp only [go_sem, *] at hn1 z2 z3 z4 z8 z9 z10 y0 y1 y2 y3 y4 y5
        with_reducible refine draw_with [5, 5] (by kernel_rfl) (by kernel_rfl) ?_
        simp (maxDischargeDepth := 9) only [go_sem, Nat.reduceMul, Nat.reduceAdd, Nat.reduceLeDiff, Int.reduceSub, Int.reduceNeg, Int.reduceLT, Int.reduceLE, Int.reduceEq, *, rinitial_ans, rcoset_ans, rrise_ans, rlisted_ans, Tab.eqF, Function.comp_apply, R1.frozenL, RV.frozenT, cutB_eqn, tgs_len]
        iterate 9
          with_reducible refine dop_valW ?_ ?_
          · simp only [St.keysOf, Op.operands, List.flatMap_cons, List.flatMap_nil, SV.keys, V1.keys, At.keys, go_sem, *]
            try (simp [Option.toArray, SV.keys, V1.keys, At.keys, go_sem, *]; done)
            try rfl
          simp (maxDischargeDepth := 9) only [go_sem, Nat.reduceMul, Nat.reduceAdd, Nat.reduceLeDiff, Int.reduceSub, Int.reduceNeg, Int.reduceLT, Int.reduceLE, Int.reduceEq, *, rinitial_ans, rcoset_ans, rrise_ans, rlisted_ans, Tab.eqF, Function.comp_apply, R1.frozenL, RV.frozenT, cutB_eqn, tgs_len]
        with_reducible refine dop_eff (by kernel_rfl) rfl ?_
        simp (maxDischargeDepth := 9) only [go_sem, Nat.reduceMul, Nat.reduceAdd, Nat.reduceLeDiff, Int.reduceSub, Int.reduceNeg, Int.reduceLT, Int.reduceLE, Int.reduceEq, *, rinitial_ans, rcoset_ans, rrise_ans, rlisted_ans, Tab.eqF, Function.comp_apply, R1.frozenL, RV.frozenT, cutB_eqn, tgs_len, Tab.eff, List.isEmpty_nil, Option.isNone_none]
        first | (with_reducible refine dop_loud (by kernel_rfl) ?_; simp (maxDischargeDepth := 9) only [go_sem, Nat.reduceMul, Nat.reduceAdd, Nat.reduceLeDiff, Int.reduceSub, Int.reduceNeg, Int.reduceLT, Int.reduceLE, Int.reduceEq, *, rinitial_ans, rcoset_ans, rrise_ans, rlisted_ans, Tab.eqF, Function.comp_apply, R1.frozenL, RV.frozenT, cutB_eqn, tgs_len]) | (with_reducible refine dop_eff (by kernel_rfl) rfl ?_; simp (maxDischargeDepth := 9) only [go_sem, Nat.reduceMul, Nat.reduceAdd, Nat.reduceLeDiff, Int.reduceSub, Int.reduceNeg, Int.reduceLT, Int.reduceLE, Int.reduceEq, *, rinitial_ans, rcoset_ans, rrise_ans, rlisted_ans, Tab.eqF, Function.comp_apply, R1.frozenL, RV.frozenT, cutB_eqn, tgs_len, Tab.eff, List.isEmpty_nil, Option.isNone_none])
        all_goals exact AU_rcheckb
      rw [PO_fold h8] at hceq
      have hmq : CE n b (i : Int) (m : Int) = 0 → m + (asL (fld ((asL (fld b 1)).getD i .N) 2)).length ≤ (asL (fld b 0)).length := fun h => CE_ok h hI
      have h8s : (asL (fld (el (asL (fld n 2)) (asI (fld ((asL (fld b 1)).getD i .N) 0))) 2)).length = (asL (fld ((asL (fld b 1)).getD i .N) 2)).length := h8.symm
      have hq5 : (asL (fld ((asL (fld b 1)).getD i .N) 2)).length ≤ 100000 := by have := hg.l2 h1a h1b; omega
      clear h8 hin
      refine rn ?_
      simp (maxDischargeDepth := 9) only [go_sem, Nat.reduceMul, Nat.reduceAdd, Nat.reduceLeDiff, Int.reduceSub, Int.reduceNeg, Int.reduceLT, Int.reduceLE, Int.reduceEq, *, rinitial_ans, rcoset_ans, rrise_ans, rlisted_ans, Tab.eqF, Function.comp_apply, R1.frozenL, RV.frozenT, cutB_eqn, tgs_len]
      with_reducible refine draw_look (by kernel_rfl) (by kernel_rfl) ?_
      simp (maxDischargeDepth := 9) only [go_sem, Nat.reduceMul, Nat.reduceAdd, Nat.reduceLeDiff, Int.reduceSub, Int.reduceNeg, Int.reduceLT, Int.reduceLE, Int.reduceEq, *, rinitial_ans, rcoset_ans, rrise_ans, rlisted_ans, Tab.eqF, Function.comp_apply, R1.frozenL, RV.frozenT, cutB_eqn, tgs_len]
      iterate 12
        with_reducible refine dop_val ?_
        simp (maxDischargeDepth := 9) only [go_sem, Nat.reduceMul, Nat.reduceAdd, Nat.reduceLeDiff, Int.reduceSub, Int.reduceNeg, Int.reduceLT, Int.reduceLE, Int.reduceEq, *, rinitial_ans, rcoset_ans, rrise_ans, rlisted_ans, Tab.eqF, Function.comp_apply, R1.frozenL, RV.frozenT, cutB_eqn, tgs_len]
      refine gen_st (fun s1 hg hr hn1 => ?_)
      have z2 := hg 2
      have z3 := hg 3
      have z4 := hg 4
      have z8 := hg 8
      have z9 := hg 9
      have z10 := hg 10
      have y0 := hr 0
      have y1 := hr 1
      have y2 := hr 2
      have y3 := hr 3
      have y4 := hr 4
      have y5 := hr 5
      clear hg hr
      simp only [go_sem, *] at hn1 z2 z3 z4 z8 z9 z10 y0 y1 y2 y3 y4 y5
      with_reducible refine draw_with [5, 5] (by kernel_rfl) (by kernel_rfl) ?_
      simp (maxDischargeDepth := 9) only [go_sem, Nat.reduceMul, Nat.reduceAdd, Nat.reduceLeDiff, Int.reduceSub, Int.reduceNeg, Int.reduceLT, Int.reduceLE, Int.reduceEq, *, rinitial_ans, rcoset_ans, rrise_ans, rlisted_ans, Tab.eqF, Function.comp_apply, R1.frozenL, RV.frozenT, cutB_eqn, tgs_len]
      iterate 9
        with_reducible refine dop_valW ?_ ?_
        · simp only [St.keysOf, Op.operands, List.flatMap_cons, List.flatMap_nil, SV.keys, V1.keys, At.keys, go_sem, *]
          try (simp [Option.toArray, SV.keys, V1.keys, At.keys, go_sem, *]; done)
          try rfl
        simp (maxDischargeDepth := 9) only [go_sem, Nat.reduceMul, Nat.reduceAdd, Nat.reduceLeDiff, Int.reduceSub, Int.reduceNeg, Int.reduceLT, Int.reduceLE, Int.reduceEq, *, rinitial_ans, rcoset_ans, rrise_ans, rlisted_ans, Tab.eqF, Function.comp_apply, R1.frozenL, RV.frozenT, cutB_eqn, tgs_len]
      with_reducible refine dop_eff (by kernel_rfl) rfl ?_
      simp (maxDischargeDepth := 9) only [go_sem, Nat.reduceMul, Nat.reduceAdd, Nat.reduceLeDiff, Int.reduceSub, Int.reduceNeg, Int.reduceLT, Int.reduceLE, Int.reduceEq, *, rinitial_ans, rcoset_ans, rrise_ans, rlisted_ans, Tab.eqF, Function.comp_apply, R1.frozenL, RV.frozenT, cutB_eqn, tgs_len, Tab.eff, List.isEmpty_nil, Option.isNone_none]
      first | (with_reducible refine dop_loud (by kernel_rfl) ?_; simp (maxDischargeDepth := 9) only [go_sem, Nat.reduceMul, Nat.reduceAdd, Nat.reduceLeDiff, Int.reduceSub, Int.reduceNeg, Int.reduceLT, Int.reduceLE, Int.reduceEq, *, rinitial_ans, rcoset_ans, rrise_ans, rlisted_ans, Tab.eqF, Function.comp_apply, R1.frozenL, RV.frozenT, cutB_eqn, tgs_len]) | (with_reducible refine dop_eff (by kernel_rfl) rfl ?_; simp (maxDischargeDepth := 9) only [go_sem, Nat.reduceMul, Nat.reduceAdd, Nat.reduceLeDiff, Int.reduceSub, Int.reduceNeg, Int.reduceLT, Int.reduceLE, Int.reduceEq, *, rinitial_ans, rcoset_ans, rrise_ans, rlisted_ans, Tab.eqF, Function.comp_apply, R1.frozenL, RV.frozenT, cutB_eqn, tgs_len, Tab.eff, List.isEmpty_nil, Option.isNone_none])
      try clear h3
      try clear h3f
      try clear h4a
      try clear h4c
      try clear h4b
      try clear hft
      try clear h5
      try clear hoc
      try clear hcz
      try clear h6
      try clear h7
      try clear h7f
      try clear hl3
      try clear hl4
      try clear hwl
      try clear hne
      try clear h2s
      refine gen_st (fun s0 hg hr hn0 => ?_)
      have e2 := hg 2
      have e3 := hg 3
      have e4 := hg 4
      have e8 := hg 8
      have e9 := hg 9
      have e10 := hg 10
      have e12 := hg 12
      have e13 := hg 13
      have q0 := hr 0
      have q1 := hr 1
      have q2 := hr 2
      have q3 := hr 3
      have q4 := hr 4
      have q5 := hr 5
      clear hg hr
      simp only [go_sem, *] at hn0 e2 e3 e4 e8 e9 e10 e12 e13 q0 q1 q2 q3 q4 q5
      refine nr (runs_forN (asL (fld ((asL (fld b 1)).getD i .N) 2)).length (poS n b (i : Int) (m : Int)) () 240 (fun k2 a => [(2, s0.get (.tmp 2)), (3, s0.get (.tmp 3)), (4, s0.get (.tmp 4)), (8, s0.get (.tmp 8)), (9, s0.get (.tmp 9)), (10, s0.get (.tmp 10)), (12, s0.get (.tmp 12)), (13, .v (.a (.int .i64 (k2 : Nat))))]) (fun k2 a => [(0, s0.row 0), (1, s0.row 1), (2, s0.row 2), (3, s0.row 3), (4, s0.row 4), (5, s0.row 5)]) (fun k2 a => True) (by omega) ?_ (trivial) ?_ ?_ ?_ ?_)
      · simp (maxDischargeDepth := 9) only [go_sem, Nat.reduceMul, Nat.reduceAdd, Nat.reduceLeDiff, Int.reduceSub, Int.reduceNeg, Int.reduceLT, Int.reduceLE, Int.reduceEq, *, rinitial_ans, rcoset_ans, rrise_ans, rlisted_ans, Tab.eqF, Function.comp_apply, R1.frozenL, RV.frozenT, cutB_eqn, tgs_len]
      · intro i a; simp (maxDischargeDepth := 9) only [go_sem, Nat.reduceMul, Nat.reduceAdd, Nat.reduceLeDiff, Int.reduceSub, Int.reduceNeg, Int.reduceLT, Int.reduceLE, Int.reduceEq, *, rinitial_ans, rcoset_ans, rrise_ans, rlisted_ans, Tab.eqF, Function.comp_apply, R1.frozenL, RV.frozenT, cutB_eqn, tgs_len]
      · intro i a; simp (maxDischargeDepth := 9) only [go_sem, Nat.reduceMul, Nat.reduceAdd, Nat.reduceLeDiff, Int.reduceSub, Int.reduceNeg, Int.reduceLT, Int.reduceLE, Int.reduceEq, *, rinitial_ans, rcoset_ans, rrise_ans, rlisted_ans, Tab.eqF, Function.comp_apply, R1.frozenL, RV.frozenT, cutB_eqn, tgs_len]
      · intro k2 a s hi hI hS
        clear hn0 e13
        simp only [go_sem] at hS
        obtain ⟨f2, f3, f4, f8, f9, f10, f12, f13, m0, m1, m2, m3, m4, m5, hn⟩ := hS
        have hw := wrap_succ hi (hlq)
        have hm0 : 0 ≤ (m : Int) + (k2 : Int) := by omega
        have hml : (k2 : Int) < 100001 := by omega
        have hwn : IntKind.i64.wrap ((m : Int) + (k2 : Int)) = (m : Int) + (k2 : Int) := Go.IntWalk.i64_in _ (by omega)
        have hkx : k2 < (asL (fld (el (asL (fld n 2)) (asI (fld ((asL (fld b 1)).getD i .N) 0))) 2)).length := by omega
        by_cases p1 : asI ((asL (fld ((asL (fld b 1)).getD i .N) 2)).getD k2 .N) = (m : Int) + (k2 : Int)
        case neg =>
          have hst := poS_1 (n := n) (a := a) p1
          refine rn ?_
          simp (maxDischargeDepth := 9) only [go_sem, Nat.reduceMul, Nat.reduceAdd, Nat.reduceLeDiff, Int.reduceSub, Int.reduceNeg, Int.reduceLT, Int.reduceLE, Int.reduceEq, *, rinitial_ans, rcoset_ans, rrise_ans, rlisted_ans, Tab.eqF, Function.comp_apply, R1.frozenL, RV.frozenT, cutB_eqn, tgs_len]
          all_goals exact AU_rcheckb
        by_cases p2 : ((asL (fld b 0)).length : Int) ≤ (m : Int) + (k2 : Int)
        case pos =>
          have hst := poS_2 (n := n) (a := a) p1 p2
          refine rn ?_
          simp (maxDischargeDepth := 9) only [go_sem, Nat.reduceMul, Nat.reduceAdd, Nat.reduceLeDiff, Int.reduceSub, Int.reduceNeg, Int.reduceLT, Int.reduceLE, Int.reduceEq, *, rinitial_ans, rcoset_ans, rrise_ans, rlisted_ans, Tab.eqF, Function.comp_apply, R1.frozenL, RV.frozenT, cutB_eqn, tgs_len]
          all_goals exact AU_rcheckb
        have p2b : (m : Int) + (k2 : Int) < ((asL (fld b 0)).length : Int) := by omega
        by_cases p3 : asI (fld (el (asL (fld b 0)) ((m : Int) + (k2 : Int))) 0) = asI (fld ((asL (fld (el (asL (fld n 2)) (asI (fld ((asL (fld b 1)).getD i .N) 0))) 2)).getD k2 .N) 0)
        case neg =>
          have hst := poS_3 (n := n) (a := a) p1 p2b hkx (fun h => p3 h.1)
          refine rn ?_
          simp (maxDischargeDepth := 9) only [go_sem, Nat.reduceMul, Nat.reduceAdd, Nat.reduceLeDiff, Int.reduceSub, Int.reduceNeg, Int.reduceLT, Int.reduceLE, Int.reduceEq, *, rinitial_ans, rcoset_ans, rrise_ans, rlisted_ans, Tab.eqF, Function.comp_apply, R1.frozenL, RV.frozenT, cutB_eqn, tgs_len]
          all_goals exact AU_rcheckb
        by_cases p4 : asI (fld (el (asL (fld b 0)) ((m : Int) + (k2 : Int))) 1) = (i : Int)
        case neg =>
          have hst := poS_3 (n := n) (a := a) p1 p2b hkx (fun h => p4 h.2)
          refine rn ?_
          simp (maxDischargeDepth := 9) only [go_sem, Nat.reduceMul, Nat.reduceAdd, Nat.reduceLeDiff, Int.reduceSub, Int.reduceNeg, Int.reduceLT, Int.reduceLE, Int.reduceEq, *, rinitial_ans, rcoset_ans, rrise_ans, rlisted_ans, Tab.eqF, Function.comp_apply, R1.frozenL, RV.frozenT, cutB_eqn, tgs_len]
          all_goals exact AU_rcheckb
        have hst := poS_5 (n := n) (a := a) p1 p2b hkx p3 p4
        refine rn ?_
        simp (maxDischargeDepth := 9) only [go_sem, Nat.reduceMul, Nat.reduceAdd, Nat.reduceLeDiff, Int.reduceSub, Int.reduceNeg, Int.reduceLT, Int.reduceLE, Int.reduceEq, *, rinitial_ans, rcoset_ans, rrise_ans, rlisted_ans, Tab.eqF, Function.comp_apply, R1.frozenL, RV.frozenT, cutB_eqn, tgs_len]
        all_goals exact AU_rcheckb
      · intro a s hI hf hS
        clear hn0 e13
        simp only [go_sem] at hS
        obtain ⟨f2, f3, f4, f8, f9, f10, f12, f13, m0, m1, m2, m3, m4, m5, hn⟩ := hS
        try simp only [go_sem] at hf
        have hmq2 := hmq (by rw [hceq, hf]; rfl)
        have hwm : IntKind.i64.wrap ((m : Int) + ((asL (fld ((asL (fld b 1)).getD i .N) 2)).length : Int)) = ((m + (asL (fld ((asL (fld b 1)).getD i .N) 2)).length : Nat) : Int) := by
          rw [Go.IntWalk.i64_in _ (by omega)]; omega
        refine rn ?_
        simp (maxDischargeDepth := 9) only [go_sem, Nat.reduceMul, Nat.reduceAdd, Nat.reduceLeDiff, Int.reduceSub, Int.reduceNeg, Int.reduceLT, Int.reduceLE, Int.reduceEq, *, rinitial_ans, rcoset_ans, rrise_ans, rlisted_ans, Tab.eqF, Function.comp_apply, R1.frozenL, RV.frozenT, cutB_eqn, tgs_len]
        all_goals exact AU_rcheckb
    · intro m s hI hf hS
      clear hn0 e9 e8
      simp only [go_sem] at hS
      obtain ⟨f2, f3, f4, f8, f9, m0, m1, m2, m3, hn⟩ := hS
      try simp only [go_sem] at hf
      refine rn ?_
      simp (maxDischargeDepth := 9) only [go_sem, Nat.reduceMul, Nat.reduceAdd, Nat.reduceLeDiff, Int.reduceSub, Int.reduceNeg, Int.reduceLT, Int.reduceLE, Int.reduceEq, *, rinitial_ans, rcoset_ans, rrise_ans, rlisted_ans, Tab.eqF, Function.comp_apply, R1.frozenL, RV.frozenT, cutB_eqn, tgs_len]
      all_goals exact AU_rcheckb
end Go.Proofs.Ytficdonjodadlaa
end
section
set_option linter.unusedSimpArgs false
set_option linter.unusedVariables false
set_option maxRecDepth 100000
set_option maxHeartbeats 4000000
namespace Go.Proofs.Ytficdonjodadlaa
open Go.Ev Go.Proofs
theorem arg_nil46 {st : St} {ρ : List (Nat × Nat)} : st.arg tab ρ 46 (.v (.a .nil)) = some (.iv 2 46 .N) := arg_nil (e := 3) (by kernel_rfl)
theorem place29n {st : St} {d : Nat} {p q : Nat} {x y : IV} : st.placeV tab none (some d) 29 (.g 29 [.at (.iv p 26 x), .at (.iv q 27 y)]) = some (st.set (some d) (.v (.a (.iv (mn p (mn q 2)) 29 (.A [x, y]))))) := (rfl)
theorem AU_rpossible {p : Prop} (h : p := by
  repeat' (first | (with_reducible refine condLt (fun h h' => ?_) (fun h h' => ?_)) | (with_reducible refine condLe (fun h h' => ?_) (fun h h' => ?_)) | (with_reducible refine dop_val ?_) | (with_reducible refine YsLt (fun h h' => ?_) (fun h h' => ?_)) | (with_reducible refine YsLe (fun h h' => ?_) (fun h h' => ?_)) | (with_reducible refine condP (fun h => ?_) (fun h => ?_)) | (with_reducible refine condN (fun h => ?_) (fun h => ?_)) | (with_reducible refine condB (fun h => ?_) (fun h => ?_)) | (with_reducible refine condR (fun h => ?_) (fun h => ?_)) | (with_reducible refine YsB (fun h => ?_) (fun h => ?_)) | (with_reducible refine YsC (fun h => ?_) (fun h => ?_)) | (with_reducible refine Ys_ite (fun h => ?_) (fun h => ?_)) | (intro h) | (with_reducible refine draw_look (by kernel_rfl) (by kernel_rfl) ?_) | (simp (maxDischargeDepth := 9) only [go_sem, Nat.reduceMul, Nat.reduceAdd, Nat.reduceLeDiff, Int.reduceSub, Int.reduceNeg, Int.reduceLT, Int.reduceLE, Int.reduceEq, *, rcheckb_ans, arg_nil46]) | (exfalso; omega))) : p := h
theorem rpossible_ans (ext : CallF) (k : Nat) (n b : IV) (hk : maxLen + (60) ≤ k) (hnn : Ok n) (hb : Ok b) (hz : (asL (fld b 1)).length ≤ 1000000) (hzp : (asL (fld n 1)).length ≤ 1000) (hig : IE n = 0 → NG n) (hL : (asL (fld b 0)).length ≤ 24) (hli : (asL (fld n 2)).length ≤ 6) (hlp : ∀ i, (asL (fld ((asL (fld n 2)).getD i .N) 1)).length ≤ 6) : ans (tab.run ext k) 21 [.iv 2 25 n, .iv 2 29 b] 5 = some ([.one (.own 2 46 (rPS n b))], [44]) := by
  obtain ⟨k, rfl⟩ : ∃ k', k = k' + 1 := ⟨k - 1, by omega⟩
  have hk1 : maxLen < k := by omega
  have hk0 : 0 < k := by omega
  have hk_0 : maxLen + (40) ≤ k := by omega
  refine fn_run (fx := fx21) (m := 47) 49 rfl rfl rfl rfl (fun st hn hg hr => ?_)
  have g0 : st.get (.tmp 0) = .v (.a (.iv 2 25 n)) := hg 0 (of_decide_eq_true rfl)
  have g1 : st.get (.tmp 1) = .v (.a (.iv 2 29 b)) := hg 1 (of_decide_eq_true rfl)
  have r0 := hr 0
  have r1 := hr 1
  have r2 := hr 2
  have r3 := hr 3
  have r4 := hr 4
  clear hg hr
  rw [co21]
  simp only [Try.f21, Option.getD_some]
  unfold rPS
  have hl2 := ok_len (ok_fld (j := 2) hnn)
  have hck := rcheckb_ans ext k n b (by omega) hnn hb hz (by omega) hzp hig
  by_cases h1 : (CK n b).1 = 0
  case neg =>
    simp (maxDischargeDepth := 9) only [go_sem, Nat.reduceMul, Nat.reduceAdd, Nat.reduceLeDiff, Int.reduceSub, Int.reduceNeg, Int.reduceLT, Int.reduceLE, Int.reduceEq, *, rcheckb_ans, arg_nil46]
  obtain ⟨nx, hpf⟩ := pf_of h1
  have hfd := hpf.fd
  simp (maxDischargeDepth := 9) only [go_sem, Nat.reduceMul, Nat.reduceAdd, Nat.reduceLeDiff, Int.reduceSub, Int.reduceNeg, Int.reduceLT, Int.reduceLE, Int.reduceEq, *, rcheckb_ans, arg_nil46]
  refine gen_st (fun s0 hg hr hn0 => ?_)
  have e2 := hg 2
  have e3 := hg 3
  have e4 := hg 4
  have e6 := hg 6
  have e5 := hg 5
  have q0 := hr 0
  have q1 := hr 1
  have q2 := hr 2
  clear hg hr
  simp only [go_sem, *] at hn0 e2 e3 e4 e6 e5 q0 q1 q2
  refine nr (runs_forN (asL (fld n 2)).length (fun (_ : Unit) _ => Stp.next (ρ := Unit) ()) () 49 (fun i a => [(2, s0.get (.tmp 2)), (3, s0.get (.tmp 3)), (4, s0.get (.tmp 4)), (5, .v (.a (.own 2))), (6, .v (.a (.int .i64 (i : Nat))))]) (fun i a => [(0, s0.row 0), (1, s0.row 1), (2, some (.arr 2 46 (rPO n b i)))]) (fun i a => True) (by omega) ?_ (trivial) ?_ ?_ ?_ ?_)
  · simp (maxDischargeDepth := 9) only [go_sem, Nat.reduceMul, Nat.reduceAdd, Nat.reduceLeDiff, Int.reduceSub, Int.reduceNeg, Int.reduceLT, Int.reduceLE, Int.reduceEq, *, rcheckb_ans, arg_nil46]
  · intro i a; simp (maxDischargeDepth := 9) only [go_sem, Nat.reduceMul, Nat.reduceAdd, Nat.reduceLeDiff, Int.reduceSub, Int.reduceNeg, Int.reduceLT, Int.reduceLE, Int.reduceEq, *, rcheckb_ans, arg_nil46]
  · intro i a; simp (maxDischargeDepth := 9) only [go_sem, Nat.reduceMul, Nat.reduceAdd, Nat.reduceLeDiff, Int.reduceSub, Int.reduceNeg, Int.reduceLT, Int.reduceLE, Int.reduceEq, *, rcheckb_ans, arg_nil46]
  · intro i a s hi hI hS
    clear hn0 e6 e5 q2
    simp only [go_sem] at hS
    obtain ⟨f2, f3, f4, f5, f6, m0, m1, m2, hn⟩ := hS
    have hw := wrap_succ hi (hl2)
    have hch : ∀ w, ans (tab.run ext k) 49 [.iv 2 25 n, .iv 2 29 b, .int .i64 (i : Nat), .iv w 46 .N, .int .i64 0, .int .i64 ((asL (fld ((asL (fld n 2)).getD i .N) 1)).length : Nat)] 5 = some ([.one (chR (chF b (fld ((asL (fld n 2)).getD i .N) 1) (i : Int) (asL (fld ((asL (fld n 2)).getD i .N) 1)).length []) (rCH n b i))], [44]) := fun w => rchoose_ans ext n b (i : Int) hnn hb hfd hz hL (by omega) (by omega) (asL (fld ((asL (fld n 2)).getD i .N) 1)).length (hlp i) (asL (fld ((asL (fld n 2)).getD i .N) 1)).length k .N w 0 (by have := hlp i; omega) .N (fun x hx => by cases hx) (Nat.zero_le _) (Nat.zero_add _)
    have hfr : ∀ cb : Bool, R1.frozen 44 (chR cb (rCH n b i)) = .iv 2 44 (.L (rCH n b i)) := fun cb => by cases cb <;> rfl
    have hfr := hfr (chF b (fld ((asL (fld n 2)).getD i .N) 1) (i : Int) (asL (fld ((asL (fld n 2)).getD i .N) 1)).length [])
    simp only [R1.frozen] at hfr
    have hcl := rCH_len (n := n) (b := b) hL (hlp i)
    have hcm : (rCH n b i).length < maxLen := by unfold maxLen; omega
    have hcm2 : (rCH n b i).length ≤ maxLen := Nat.le_of_lt hcm
    have hpo := rPO_len (n := n) (b := b) hL hlp i
    have hpo2 := Nat.mul_le_mul_right 134596 (show i ≤ 5 by omega)
    have hiw := hi
    refine rn ?_
    simp (maxDischargeDepth := 9) only [go_sem, Nat.reduceMul, Nat.reduceAdd, Nat.reduceLeDiff, Int.reduceSub, Int.reduceNeg, Int.reduceLT, Int.reduceLE, Int.reduceEq, *, rcheckb_ans, arg_nil46]
    with_reducible refine draw_look (by kernel_rfl) (by kernel_rfl) ?_
    simp (maxDischargeDepth := 9) only [go_sem, Nat.reduceMul, Nat.reduceAdd, Nat.reduceLeDiff, Int.reduceSub, Int.reduceNeg, Int.reduceLT, Int.reduceLE, Int.reduceEq, *, rcheckb_ans, arg_nil46]
    iterate 11
      with_reducible refine dop_val ?_
      simp (maxDischargeDepth := 9) only [go_sem, Nat.reduceMul, Nat.reduceAdd, Nat.reduceLeDiff, Int.reduceSub, Int.reduceNeg, Int.reduceLT, Int.reduceLE, Int.reduceEq, *, rcheckb_ans, arg_nil46]
    with_reducible refine dop_loud (by kernel_rfl) ?_
    simp (maxDischargeDepth := 9) only [go_sem, Nat.reduceMul, Nat.reduceAdd, Nat.reduceLeDiff, Int.reduceSub, Int.reduceNeg, Int.reduceLT, Int.reduceLE, Int.reduceEq, *, rcheckb_ans, arg_nil46]
    refine gen_st (fun s0 hg hr hn0 => ?_)
    have e2 := hg 2
    have e3 := hg 3
    have e4 := hg 4
    have e6 := hg 6
    have e7 := hg 7
    have e14 := hg 14
    have e15 := hg 15
    have e16 := hg 16
    have e17 := hg 17
    have e18 := hg 18
    have e21 := hg 21
    have e22 := hg 22
    have e23 := hg 23
    have e24 := hg 24
    have e25 := hg 25
    have e26 := hg 26
    have e27 := hg 27
    have e28 := hg 28
    have e29 := hg 29
    have e30 := hg 30
    have e31 := hg 31
    have e8 := hg 8
    have e5 := hg 5
    have q0 := hr 0
    have q1 := hr 1
    have q2 := hr 2
    clear hg hr
    simp only [go_sem, *] at hn0 e2 e3 e4 e6 e7 e14 e15 e16 e17 e18 e21 e22 e23 e24 e25 e26 e27 e28 e29 e30 e31 e8 e5 q0 q1 q2
    refine nr (runs_forN (rCH n b i).length (fun (_ : Unit) _ => Stp.next (ρ := Unit) ()) () 49 (fun j a => [(2, s0.get (.tmp 2)), (3, s0.get (.tmp 3)), (4, s0.get (.tmp 4)), (6, s0.get (.tmp 6)), (7, s0.get (.tmp 7)), (14, s0.get (.tmp 14)), (15, s0.get (.tmp 15)), (16, s0.get (.tmp 16)), (17, s0.get (.tmp 17)), (18, s0.get (.tmp 18)), (21, s0.get (.tmp 21)), (22, s0.get (.tmp 22)), (23, s0.get (.tmp 23)), (24, s0.get (.tmp 24)), (25, s0.get (.tmp 25)), (26, s0.get (.tmp 26)), (27, s0.get (.tmp 27)), (28, s0.get (.tmp 28)), (29, s0.get (.tmp 29)), (30, s0.get (.tmp 30)), (31, s0.get (.tmp 31)), (5, .v (.a (.own 2))), (8, .v (.a (.int .i64 (j : Nat))))]) (fun j a => [(0, s0.row 0), (1, s0.row 1), (2, some (.arr 2 46 (rPO n b i ++ rPI n b i j)))]) (fun j a => True) (by omega) ?_ (trivial) ?_ ?_ ?_ ?_)
    · simp (maxDischargeDepth := 9) only [go_sem, Nat.reduceMul, Nat.reduceAdd, Nat.reduceLeDiff, Int.reduceSub, Int.reduceNeg, Int.reduceLT, Int.reduceLE, Int.reduceEq, *, rcheckb_ans, arg_nil46]
    · intro i a; simp (maxDischargeDepth := 9) only [go_sem, Nat.reduceMul, Nat.reduceAdd, Nat.reduceLeDiff, Int.reduceSub, Int.reduceNeg, Int.reduceLT, Int.reduceLE, Int.reduceEq, *, rcheckb_ans, arg_nil46]
    · intro i a; simp (maxDischargeDepth := 9) only [go_sem, Nat.reduceMul, Nat.reduceAdd, Nat.reduceLeDiff, Int.reduceSub, Int.reduceNeg, Int.reduceLT, Int.reduceLE, Int.reduceEq, *, rcheckb_ans, arg_nil46]
    · intro j a s hi hI hS
      clear hn0 e8 e5 q2
      simp only [go_sem] at hS
      obtain ⟨f2, f3, f4, f6, f7, f14, f15, f16, f17, f18, f21, f22, f23, f24, f25, f26, f27, f28, f29, f30, f31, f5, f8, m0, m1, m2, hn⟩ := hS
      have hw := wrap_succ hi (hcm2)
      have hpj := rPI_len (n := n) (b := b) (i := i) (j := j)
      have hpn := rPI_succ (n := n) (b := b) (i := i) (j := j)
      have hpl : (rPO n b i).length + (rPI n b i j).length + 1 ≤ 1000000 := by omega
      have hpl2 : (rPO n b i).length + j + 1 ≤ 1000000 := by omega
      have hul : 1 + (asL ((rCH n b i).getD j .N)).length ≤ 1000000 := by
        have := rCH_row (memD hi)
        have := hlp i
        omega
      refine rn ?_
      simp (maxDischargeDepth := 9) only [go_sem, Nat.reduceMul, Nat.reduceAdd, Nat.reduceLeDiff, Int.reduceSub, Int.reduceNeg, Int.reduceLT, Int.reduceLE, Int.reduceEq, *, rcheckb_ans, arg_nil46]
      all_goals exact AU_rpossible
    · intro a s hI hf hS
      clear hn0 e8 e5 q2
      simp only [go_sem] at hS
      obtain ⟨f2, f3, f4, f6, f7, f14, f15, f16, f17, f18, f21, f22, f23, f24, f25, f26, f27, f28, f29, f30, f31, f5, f8, m0, m1, m2, hn⟩ := hS
      try simp only [go_sem] at hf
      have hps := rPO_succ (n := n) (b := b) (i := i)
      refine rn ?_
      simp (maxDischargeDepth := 9) only [go_sem, Nat.reduceMul, Nat.reduceAdd, Nat.reduceLeDiff, Int.reduceSub, Int.reduceNeg, Int.reduceLT, Int.reduceLE, Int.reduceEq, *, rcheckb_ans, arg_nil46]
      all_goals exact AU_rpossible
  · intro a s hI hf hS
    clear hn0 e6 e5 q2
    simp only [go_sem] at hS
    obtain ⟨f2, f3, f4, f5, f6, m0, m1, m2, hn⟩ := hS
    try simp only [go_sem] at hf
    refine rn ?_
    simp (maxDischargeDepth := 9) only [go_sem, Nat.reduceMul, Nat.reduceAdd, Nat.reduceLeDiff, Int.reduceSub, Int.reduceNeg, Int.reduceLT, Int.reduceLE, Int.reduceEq, *, rcheckb_ans, arg_nil46]
    all_goals exact AU_rpossible
theorem AU_radd {p : Prop} (h : p := by
  repeat' (first | (with_reducible refine condLt (fun h h' => ?_) (fun h h' => ?_)) | (with_reducible refine condLe (fun h h' => ?_) (fun h h' => ?_)) | (with_reducible refine dop_val ?_) | (with_reducible refine YsLt (fun h h' => ?_) (fun h h' => ?_)) | (with_reducible refine YsLe (fun h h' => ?_) (fun h h' => ?_)) | (with_reducible refine condP (fun h => ?_) (fun h => ?_)) | (with_reducible refine condN (fun h => ?_) (fun h => ?_)) | (with_reducible refine condB (fun h => ?_) (fun h => ?_)) | (with_reducible refine condR (fun h => ?_) (fun h => ?_)) | (with_reducible refine YsB (fun h => ?_) (fun h => ?_)) | (with_reducible refine YsC (fun h => ?_) (fun h => ?_)) | (with_reducible refine Ys_ite (fun h => ?_) (fun h => ?_)) | (intro h) | (with_reducible refine draw_look (by kernel_rfl) (by kernel_rfl) ?_) | (simp (maxDischargeDepth := 9) only [go_sem, Nat.reduceMul, Nat.reduceAdd, Nat.reduceLeDiff, Int.reduceSub, Int.reduceNeg, Int.reduceLT, Int.reduceLE, Int.reduceEq, *, rcheckb_ans, rpossible_ans, lsame_ans, rextend_ans, place29n, Int.toNat_zero, List.getElem?_cons_zero, mn]) | (exfalso; omega))) : p := h
theorem radd_ans (ext : CallF) (k : Nat) (n b l : IV) (t : Int) (hk : maxLen + (70) ≤ k) (hnn : Ok n) (hb : Ok b) (hv : Ok l) (hint : ∀ x ∈ asL l, ∃ z, x = .I z) (hz : (asL (fld b 1)).length ≤ 1000) (hzp : (asL (fld n 1)).length ≤ 1000) (hig : IE n = 0 → NG n) (hL : (asL (fld b 0)).length ≤ 24) (hli : (asL (fld n 2)).length ≤ 6) (hlp : ∀ i, (asL (fld ((asL (fld n 2)).getD i .N) 1)).length ≤ 6) : ans (tab.run ext k) 23 [.iv 2 25 n, .iv 2 29 b, .int .i64 t, .iv 2 46 l] 4 = some ([rR n b t l, .one (.at (.int .i64 (aE n b t l)))], [29, 34]) := by
  obtain ⟨k, rfl⟩ : ∃ k', k = k' + 1 := ⟨k - 1, by omega⟩
  have hk1 : maxLen < k := by omega
  have hk0 : 0 < k := by omega
  have hk_0 : maxLen + (2) ≤ k := by omega
  have hk_1 : maxLen + (40) ≤ k := by omega
  have hk_2 : maxLen + (60) ≤ k := by omega
  have hk_3 : maxLen + (8) ≤ k := by omega
  refine fn_run (fx := fx23) (m := 61) 65 rfl rfl rfl rfl (fun st hn hg hr => ?_)
  have g0 : st.get (.tmp 0) = .v (.a (.iv 2 25 n)) := hg 0 (of_decide_eq_true rfl)
  have g1 : st.get (.tmp 1) = .v (.a (.iv 2 29 b)) := hg 1 (of_decide_eq_true rfl)
  have g2 : st.get (.tmp 2) = .v (.a (.int .i64 t)) := hg 2 (of_decide_eq_true rfl)
  have g3 : st.get (.tmp 3) = .v (.a (.iv 2 46 l)) := hg 3 (of_decide_eq_true rfl)
  have r0 := hr 0
  have r1 := hr 1
  have r2 := hr 2
  have r3 := hr 3
  clear hg hr
  rw [co23]
  simp only [Try.f23, Option.getD_some]
  have hl0 := ok_len (ok_fld (j := 0) hb)
  have hl1 := ok_len (ok_fld (j := 1) hb)
  have hz2 : (asL (fld b 1)).length ≤ 1000000 := by omega
  have hck := rcheckb_ans ext k n b (by omega) hnn hb hz2 (by omega) hzp hig
  have hps := rpossible_ans ext k n b (by omega) hnn hb hz2 hzp hig hL hli hlp
  by_cases h1 : (CK n b).1 = 0
  case neg =>
    have ha : aE n b t l = (CK n b).1 := by unfold aE; rw [if_neg h1]
    have har := rR_no (n := n) (b := b) (t := t) (l := l) (by rw [ha]; exact h1)
    simp (maxDischargeDepth := 9) only [go_sem, Nat.reduceMul, Nat.reduceAdd, Nat.reduceLeDiff, Int.reduceSub, Int.reduceNeg, Int.reduceLT, Int.reduceLE, Int.reduceEq, *, rcheckb_ans, rpossible_ans, lsame_ans, rextend_ans, place29n, Int.toNat_zero, List.getElem?_cons_zero, mn]
    with_reducible refine draw_with [2] (by kernel_rfl) (by kernel_rfl) ?_
    simp (maxDischargeDepth := 9) only [go_sem, Nat.reduceMul, Nat.reduceAdd, Nat.reduceLeDiff, Int.reduceSub, Int.reduceNeg, Int.reduceLT, Int.reduceLE, Int.reduceEq, *, rcheckb_ans, rpossible_ans, lsame_ans, rextend_ans, place29n, Int.toNat_zero, List.getElem?_cons_zero, mn]
    with_reducible refine dop_valW ?_ ?_
    · simp only [St.keysOf, Op.operands, List.flatMap_cons, List.flatMap_nil, SV.keys, V1.keys, At.keys, go_sem, *]
      try rfl
    simp (maxDischargeDepth := 9) only [go_sem, Nat.reduceMul, Nat.reduceAdd, Nat.reduceLeDiff, Int.reduceSub, Int.reduceNeg, Int.reduceLT, Int.reduceLE, Int.reduceEq, *, rcheckb_ans, rpossible_ans, lsame_ans, rextend_ans, place29n, Int.toNat_zero, List.getElem?_cons_zero, mn]
    with_reducible refine dop_valW ?_ ?_
    · simp only [St.keysOf, Op.operands, List.flatMap_cons, List.flatMap_nil, SV.keys, V1.keys, At.keys, go_sem, *]
      try rfl
    simp (maxDischargeDepth := 9) only [go_sem, Nat.reduceMul, Nat.reduceAdd, Nat.reduceLeDiff, Int.reduceSub, Int.reduceNeg, Int.reduceLT, Int.reduceLE, Int.reduceEq, *, rcheckb_ans, rpossible_ans, lsame_ans, rextend_ans, place29n, Int.toNat_zero, List.getElem?_cons_zero, mn]
    with_reducible refine dop_valW ?_ ?_
    · simp only [St.keysOf, Op.operands, List.flatMap_cons, List.flatMap_nil, SV.keys, V1.keys, At.keys, go_sem, *]
      try rfl
    simp (maxDischargeDepth := 9) only [go_sem, Nat.reduceMul, Nat.reduceAdd, Nat.reduceLeDiff, Int.reduceSub, Int.reduceNeg, Int.reduceLT, Int.reduceLE, Int.reduceEq, *, rcheckb_ans, rpossible_ans, lsame_ans, rextend_ans, place29n, Int.toNat_zero, List.getElem?_cons_zero, mn]
    with_reducible refine dop_eff (by kernel_rfl) rfl ?_
    simp (maxDischargeDepth := 9) only [go_sem, Nat.reduceMul, Nat.reduceAdd, Nat.reduceLeDiff, Int.reduceSub, Int.reduceNeg, Int.reduceLT, Int.reduceLE, Int.reduceEq, *, rcheckb_ans, rpossible_ans, lsame_ans, rextend_ans, place29n, Int.toNat_zero, List.getElem?_cons_zero, mn, Tab.eff]
    with_reducible refine dop_valW ?_ ?_
    · simp only [St.keysOf, Op.operands, List.flatMap_cons, List.flatMap_nil, SV.keys, V1.keys, At.keys, go_sem, *]
      try rfl
    simp (maxDischargeDepth := 9) only [go_sem, Nat.reduceMul, Nat.reduceAdd, Nat.reduceLeDiff, Int.reduceSub, Int.reduceNeg, Int.reduceLT, Int.reduceLE, Int.reduceEq, *, rcheckb_ans, rpossible_ans, lsame_ans, rextend_ans, place29n, Int.toNat_zero, List.getElem?_cons_zero, mn]
  have hg := hig (CK_IE h1)
  obtain ⟨nx, hpf⟩ := pf_of h1
  have hfd := hpf.fd
  have hfi := fnd_iff (t := t) h1 hg hfd hint
  have hpl : (rPS n b).length ≤ 807576 := by
    unfold rPS; rw [if_pos h1]
    have := rPO_len (n := n) (b := b) hL hlp (asL (fld n 2)).length
    have := Nat.mul_le_mul_right 134596 hli
    omega
  have hplm : (rPS n b).length ≤ maxLen := Nat.le_trans hpl (by unfold maxLen; omega)
  have hrow : ∀ x ∈ rPS n b, (asL x).length ≤ 7 := fun x hx => by
    have := rPS_len hlp hx
    omega
  simp (maxDischargeDepth := 9) only [go_sem, Nat.reduceMul, Nat.reduceAdd, Nat.reduceLeDiff, Int.reduceSub, Int.reduceNeg, Int.reduceLT, Int.reduceLE, Int.reduceEq, *, rcheckb_ans, rpossible_ans, lsame_ans, rextend_ans, place29n, Int.toNat_zero, List.getElem?_cons_zero, mn]
  refine gen_st (fun s0 hg hr hn0 => ?_)
  have e2 := hg 2
  have e3 := hg 3
  have e4 := hg 4
  have e5 := hg 5
  have e8 := hg 8
  have e9 := hg 9
  have e11 := hg 11
  have e13 := hg 13
  have e12 := hg 12
  have q0 := hr 0
  have q1 := hr 1
  have q2 := hr 2
  have q3 := hr 3
  clear hg hr
  simp only [go_sem, *] at hn0 e2 e3 e4 e5 e8 e9 e11 e13 e12 q0 q1 q2 q3
  refine nr (runs_for (rPS n b) (fun (fn : Bool) x => Stp.next (ρ := Unit) (fn || (decide (asI ((asL x).getD 0 .N) = t) && SM (.L ((asL x).drop 1)) l))) false 65 (fun i fn => [(2, s0.get (.tmp 2)), (3, s0.get (.tmp 3)), (4, s0.get (.tmp 4)), (5, s0.get (.tmp 5)), (8, s0.get (.tmp 8)), (9, s0.get (.tmp 9)), (11, s0.get (.tmp 11)), (12, .v (.a (.bool fn))), (13, .v (.a (.int .i64 (i : Nat))))]) (fun i fn => [(0, s0.row 0), (1, s0.row 1), (2, s0.row 2), (3, s0.row 3)]) (fun i fn => True) (by omega) ?_ (trivial) ?_ ?_ ?_ ?_)
  · simp (maxDischargeDepth := 9) only [go_sem, Nat.reduceMul, Nat.reduceAdd, Nat.reduceLeDiff, Int.reduceSub, Int.reduceNeg, Int.reduceLT, Int.reduceLE, Int.reduceEq, *, rcheckb_ans, rpossible_ans, lsame_ans, rextend_ans, place29n, Int.toNat_zero, List.getElem?_cons_zero, mn]
  · intro i a; simp (maxDischargeDepth := 9) only [go_sem, Nat.reduceMul, Nat.reduceAdd, Nat.reduceLeDiff, Int.reduceSub, Int.reduceNeg, Int.reduceLT, Int.reduceLE, Int.reduceEq, *, rcheckb_ans, rpossible_ans, lsame_ans, rextend_ans, place29n, Int.toNat_zero, List.getElem?_cons_zero, mn]
  · intro i a; simp (maxDischargeDepth := 9) only [go_sem, Nat.reduceMul, Nat.reduceAdd, Nat.reduceLeDiff, Int.reduceSub, Int.reduceNeg, Int.reduceLT, Int.reduceLE, Int.reduceEq, *, rcheckb_ans, rpossible_ans, lsame_ans, rextend_ans, place29n, Int.toNat_zero, List.getElem?_cons_zero, mn]
  · intro i x fn s hx hi hI hS
    clear hn0 e13 e12
    simp only [go_sem] at hS
    obtain ⟨f2, f3, f4, f5, f8, f9, f11, f12, f13, m0, m1, m2, m3, hn⟩ := hS
    have hw := wrap_succ hi (hplm)
    have hxm := List.mem_of_getElem? hx
    obtain ⟨s, u, rfl, _⟩ := rPS_row hxm
    have hxl : (IV.I s :: u).length ≤ 7 := hrow _ hxm
    have hul : u.length ≤ 6 := by simp only [List.length_cons] at hxl; omega
    have hxo : Ok (.L u) := ok_row hL hlp hxm
    have hc1 : cut (IV.I s :: u) 1 (IV.I s :: u).length = u := by unfold cut; rw [List.take_length]; rfl
    have hc2 : cut (IV.I s :: u) 1 (u.length + 1) = u := hc1
    have hc3 : cut (IV.I s :: u) (Int.toNat 1) (u.length + 1) = u := hc1
    have hdr : List.drop 1 (IV.I s :: u) = u := rfl
    have hc4 : cut (IV.I s :: u) (Int.toNat 1) (IV.I s :: u).length = u := hc1
    have hd1 : (asL (.L (IV.I s :: u))).drop 1 = u := rfl
    have hg0 : asI ((asL (.L (IV.I s :: u))).getD 0 .N) = s := rfl
    have hel : el (IV.I s :: u) 0 = IV.I s := rfl
    refine rn ?_
    simp (maxDischargeDepth := 9) only [go_sem, Nat.reduceMul, Nat.reduceAdd, Nat.reduceLeDiff, Int.reduceSub, Int.reduceNeg, Int.reduceLT, Int.reduceLE, Int.reduceEq, *, rcheckb_ans, rpossible_ans, lsame_ans, rextend_ans, place29n, Int.toNat_zero, List.getElem?_cons_zero, mn]
    cases fn
    case true =>
      simp (maxDischargeDepth := 9) only [go_sem, Nat.reduceMul, Nat.reduceAdd, Nat.reduceLeDiff, Int.reduceSub, Int.reduceNeg, Int.reduceLT, Int.reduceLE, Int.reduceEq, *, rcheckb_ans, rpossible_ans, lsame_ans, rextend_ans, place29n, Int.toNat_zero, List.getElem?_cons_zero, mn]
      all_goals exact AU_radd
    by_cases hst : s = t
    case pos =>
      subst hst
      simp (maxDischargeDepth := 9) only [go_sem, Nat.reduceMul, Nat.reduceAdd, Nat.reduceLeDiff, Int.reduceSub, Int.reduceNeg, Int.reduceLT, Int.reduceLE, Int.reduceEq, *, rcheckb_ans, rpossible_ans, lsame_ans, rextend_ans, place29n, Int.toNat_zero, List.getElem?_cons_zero, mn]
      all_goals exact AU_radd
    simp (maxDischargeDepth := 9) only [go_sem, Nat.reduceMul, Nat.reduceAdd, Nat.reduceLeDiff, Int.reduceSub, Int.reduceNeg, Int.reduceLT, Int.reduceLE, Int.reduceEq, *, rcheckb_ans, rpossible_ans, lsame_ans, rextend_ans, place29n, Int.toNat_zero, List.getElem?_cons_zero, mn]
    all_goals exact AU_radd
  · intro fn s hI hf hS
    clear hn0 e13 e12
    simp only [go_sem] at hS
    obtain ⟨f2, f3, f4, f5, f8, f9, f11, f12, f13, m0, m1, m2, m3, hn⟩ := hS
    try simp only [go_sem] at hf
    rw [foldl_orb, Bool.false_or] at hf
    have hfi2 := hfi
    rw [hf] at hfi2
    clear hfi hrow
    by_cases hfn : fn = true
    case neg =>
      have hff : fn = false := by simpa using hfn
      subst hff
      have ha : aE n b t l = 7 := by
        unfold aE; rw [if_pos h1, if_pos]
        by_cases c1 : t < 0
        · exact .inl c1
        · by_cases c2 : ((asL (fld n 2)).length : Int) ≤ t
          · exact .inr (.inl c2)
          · exact .inr (.inr fun h3 => by have := hfi2.2 ⟨by omega, by omega, h3⟩; cases this)
      have har := rR_no (n := n) (b := b) (t := t) (l := l) (by rw [ha]; decide)
      clear hfi2 hf hfn
      refine rn ?_
      simp (maxDischargeDepth := 9) only [go_sem, Nat.reduceMul, Nat.reduceAdd, Nat.reduceLeDiff, Int.reduceSub, Int.reduceNeg, Int.reduceLT, Int.reduceLE, Int.reduceEq, *, rcheckb_ans, rpossible_ans, lsame_ans, rextend_ans, place29n, Int.toNat_zero, List.getElem?_cons_zero, mn]
      all_goals exact AU_radd
    subst hfn
    obtain ⟨h2a, h2b, h3⟩ := hfi2.1 rfl
    clear hfi2 hf
    have h4 : ¬(2000 : Int) ≤ ((asL (fld b 1)).length : Int) := by omega
    have ha : aE n b t l = 0 := by unfold aE; rw [if_pos h1, if_neg (by simp only [not_or]; exact ⟨by omega, by omega, by simp [h3]⟩), if_neg h4]
    have har := rR_ok (n := n) (b := b) (t := t) (l := l) ha
    have hs2 := hg.l2 h2a h2b
    have hll : (asL l).length ≤ 100000 := by
      have hc : (asL l).length = (insL n (nE t l)).length := (CP_ok h3).1
      have hc2 : (insL n (nE t l)).length = (asL (fld (el (asL (fld n 2)) t) 1)).length := tgs_len
      have := hg.l1 h2a h2b
      omega
    have hex := rextend_ans ext k n b l t (by omega) hnn hb hv h2a h2b (by omega) (by omega) hll hs2
    refine rn ?_
    simp (maxDischargeDepth := 9) only [go_sem, Nat.reduceMul, Nat.reduceAdd, Nat.reduceLeDiff, Int.reduceSub, Int.reduceNeg, Int.reduceLT, Int.reduceLE, Int.reduceEq, *, rcheckb_ans, rpossible_ans, lsame_ans, rextend_ans, place29n, Int.toNat_zero, List.getElem?_cons_zero, mn]
    all_goals exact AU_radd
end Go.Proofs.Ytficdonjodadlaa
end
section
set_option linter.unusedVariables false
namespace Go.Ev
theorem ltB_len {l : IV} (h : ltB l = true) : (asL l).length ≤ 6 := by
  unfold ltB at h
  rw [Bool.and_eq_true] at h
  exact of_decide_eq_true h.1
theorem liB_tt {n : IV} (h : liB n = true) : (asL (fld n 2)).length ≤ 6 := by
  unfold liB at h
  simp only [Bool.and_eq_true, decide_eq_true_eq] at h
  exact h.1.1.2
theorem liB_lp {n : IV} (h : liB n = true) (i : Nat) : (asL (fld ((asL (fld n 2)).getD i .N) 1)).length ≤ 6 := by
  by_cases hi : i < (asL (fld n 2)).length
  · unfold liB at h
    simp only [Bool.and_eq_true, Bool.not_eq_true', List.any_eq_false] at h
    have h2 := h.2 _ (memD hi)
    have h3 : ltB (fld ((asL (fld n 2)).getD i .N) 1) = true := by
      cases hh : ltB (fld ((asL (fld n 2)).getD i .N) 1) with
      | true => rfl
      | false => rw [hh] at h2; simp at h2
    exact ltB_len h3
  · have e : (asL (fld n 2)).getD i .N = .N := by simp [List.getD, Nat.le_of_not_lt hi]
    rw [e]; exact Nat.zero_le _
theorem pvx_2 {i : Nat} : pvx 2 2 i = 2 := by
  unfold pvx pv
  split <;> split <;> rfl
theorem aC_len {n b : IV} {t : Int} : (aC n b t).length = (asL (fld b 0)).length + (asL (fld (el (asL (fld n 2)) t) 2)).length := by
  unfold aC; rw [List.length_append, ocs_len]
theorem exV_len {n b l : IV} {t : Int} : (exV n b t l).length = (asL (fld b 1)).length + 1 := by
  unfold exV; rw [List.length_append]; rfl
theorem LG_e40 {b : IV} (h : LG b = false) : (asL (fld b 1)).length ≤ 40 := by
  simp only [LG, Bool.or_eq_false_iff, decide_eq_false_iff_not] at h
  omega
theorem LG_pp {b x : IV} (h : LG b = false) (hx : x ∈ asL (fld b 1)) : (asL (fld x 1)).length ≤ 12 ∧ (asL (fld x 2)).length ≤ 40 := by
  simp only [LG, Bool.or_eq_false_iff, List.any_eq_false, decide_eq_true_eq] at h
  have := h.2 x hx
  omega
theorem ok_new {n b l : IV} {t : Int} (hb : Ok b) (hv : Ok l) (hnn : Ok n) (ht : -9223372036854775808 ≤ t ∧ t < 18446744073709551616) (hl : (asL l).length ≤ 100000) (hc : (asL (fld b 0)).length ≤ 1000) (he : (asL (fld b 1)).length ≤ 1000) (hp : (asL (fld (el (asL (fld n 2)) t) 2)).length ≤ 100000) : Ok (.A [.L (aC n b t), .L (exV n b t l)]) := by
  refine .A (fun x hx => ?_)
  simp only [List.mem_cons, List.not_mem_nil, or_false] at hx
  rcases hx with rfl | rfl
  · refine .L (by rw [aC_len]; unfold maxLen; omega) (fun x hx => ?_)
    unfold aC at hx
    rcases List.mem_append.1 hx with hx | hx
    · exact ok_mem (ok_fld hb) hx
    · unfold ocs at hx
      obtain ⟨k, hk, rfl⟩ := List.mem_map.1 hx
      refine .A (fun y hy => ?_)
      simp only [List.mem_cons, List.not_mem_nil, or_false] at hy
      rcases hy with rfl | rfl
      · rw [tgs_get (List.mem_range.1 hk)]
        have h := ok_int (ok_fld (j := 0) (ok_getD (i := k) (ok_fld (j := 2) (ok_el (n := t) (ok_fld (j := 2) hnn)))))
        exact .I h
      · exact .I (by omega)
  · refine .L (by rw [exV_len]; unfold maxLen; omega) (fun x hx => ?_)
    unfold exV at hx
    rcases List.mem_append.1 hx with hx | hx
    · exact ok_mem (ok_fld hb) hx
    · obtain rfl := List.mem_singleton.1 hx
      refine .A (fun y hy => ?_)
      simp only [List.mem_cons, List.not_mem_nil, or_false] at hy
      rcases hy with rfl | rfl | rfl | rfl
      · exact .I ht
      · refine .L (by rw [cpy_len]; unfold maxLen; omega) (fun x hx => ?_)
        unfold cpy at hx
        obtain ⟨k, hk, rfl⟩ := List.mem_map.1 hx
        exact .I (ok_int (ok_getD hv))
      · refine .L (by rw [pss_len]; unfold maxLen; omega) (fun x hx => ?_)
        unfold pss at hx
        obtain ⟨k, hk, rfl⟩ := List.mem_map.1 hx
        have := List.mem_range.1 hk
        exact .I (by omega)
      · exact .B
end Go.Ev
end
section
set_option linter.unusedSimpArgs false
set_option linter.unusedVariables false
set_option maxRecDepth 100000
set_option maxHeartbeats 4000000
namespace Go.Proofs.Ytficdonjodadlaa
open Go.Ev Go.Proofs
theorem AU_adds {p : Prop} (h : p := by
  repeat' (first | (with_reducible refine condLt (fun h h' => ?_) (fun h h' => ?_)) | (with_reducible refine condLe (fun h h' => ?_) (fun h h' => ?_)) | (with_reducible refine dop_val ?_) | (with_reducible refine YsLt (fun h h' => ?_) (fun h h' => ?_)) | (with_reducible refine YsLe (fun h h' => ?_) (fun h h' => ?_)) | (with_reducible refine condP (fun h => ?_) (fun h => ?_)) | (with_reducible refine condN (fun h => ?_) (fun h => ?_)) | (with_reducible refine condB (fun h => ?_) (fun h => ?_)) | (with_reducible refine condR (fun h => ?_) (fun h => ?_)) | (with_reducible refine YsB (fun h => ?_) (fun h => ?_)) | (with_reducible refine YsC (fun h => ?_) (fun h => ?_)) | (with_reducible refine Ys_ite (fun h => ?_) (fun h => ?_)) | (intro h) | (with_reducible refine draw_look (by kernel_rfl) (by kernel_rfl) ?_) | (simp (maxDischargeDepth := 9) only [go_sem, Nat.reduceMul, Nat.reduceAdd, Nat.reduceLeDiff, Int.reduceSub, Int.reduceNeg, Int.reduceLT, Int.reduceLE, Int.reduceEq, *, small_ans, large_ans, rLight_ans, hX12, Tab.eqF, R1.frozenL, RV.frozenT, Function.comp_apply, Int.toNat_zero, List.getElem?_cons_zero, mn, Nat.le_refl]) | (exfalso; omega))) : p := h
theorem adds_ans (ext : CallF) (k : Nat) (hN : ExN ext) (hE : ExC ext) (hU : ExU ext) (n b l : IV) (hk : maxLen + (D0 + 80) ≤ k) (hnn : Ok n) (hb : Ok b) (hv : Ok l) (hbf : ∃ C E, b = .A [.L C, .L E]) (hef : ∀ x ∈ (asL (fld b 1)), ∃ a p q d, x = .A [a, .L p, .L q, d]) (hlf : ∃ L, l = .L L) (hint : ∀ x ∈ asL l, ∃ z, x = .I z) (hX : ∀ k, maxLen + (D0 + 70) ≤ k → ans (tab.run ext k) 12 [] 2 = some ([.one (.at (.bool true))], [4])) : ans (tab.run ext k) 5 [.iv 2 25 n, .iv 2 29 b, .iv 2 46 l] 5 = some ([.one (.at (.bool true))], [4]) := by
  obtain ⟨k, rfl⟩ : ∃ k', k = k' + 1 := ⟨k - 1, by omega⟩
  have hk1 : maxLen < k := by omega
  have hk0 : 0 < k := by omega
  have hk_0 : maxLen + (2) ≤ k := by omega
  have hk_1 : maxLen + (4) ≤ k := by omega
  have hk_2 : maxLen + (8) ≤ k := by omega
  refine fn_run (fx := fx5) (m := 82) 85 rfl rfl rfl rfl (fun st hn hg hr => ?_)
  have g0 : st.get (.tmp 0) = .v (.a (.iv 2 25 n)) := hg 0 (of_decide_eq_true rfl)
  have g1 : st.get (.tmp 1) = .v (.a (.iv 2 29 b)) := hg 1 (of_decide_eq_true rfl)
  have g2 : st.get (.tmp 2) = .v (.a (.iv 2 46 l)) := hg 2 (of_decide_eq_true rfl)
  have r0 := hr 0
  have r1 := hr 1
  have r2 := hr 2
  have r3 := hr 3
  have r4 := hr 4
  clear hg hr
  rw [co5]
  simp only [Try.f5, Option.getD_some]
  have hX12 := hX k (by omega)
  by_cases hs : smB n = true
  case neg =>
    have hsf : smB n = false := by simpa using hs
    have hsn := smN_f hsf
    simp (maxDischargeDepth := 9) only [go_sem, Nat.reduceMul, Nat.reduceAdd, Nat.reduceLeDiff, Int.reduceSub, Int.reduceNeg, Int.reduceLT, Int.reduceLE, Int.reduceEq, *, small_ans, large_ans, rLight_ans, hX12, Tab.eqF, R1.frozenL, RV.frozenT, Function.comp_apply, Int.toNat_zero, List.getElem?_cons_zero, mn, Nat.le_refl]
    all_goals exact AU_adds
  have hsn := smN_t hs
  have hl18 := rLight_ans ext k n (by omega) hnn
  by_cases h18 : liB n = true
  case neg =>
    have h18f : liB n = false := by simpa using h18
    simp (maxDischargeDepth := 9) only [go_sem, Nat.reduceMul, Nat.reduceAdd, Nat.reduceLeDiff, Int.reduceSub, Int.reduceNeg, Int.reduceLT, Int.reduceLE, Int.reduceEq, *, small_ans, large_ans, rLight_ans, hX12, Tab.eqF, R1.frozenL, RV.frozenT, Function.comp_apply, Int.toNat_zero, List.getElem?_cons_zero, mn, Nat.le_refl]
    all_goals exact AU_adds
  by_cases hL : LG b = true
  case pos =>
    simp (maxDischargeDepth := 9) only [go_sem, Nat.reduceMul, Nat.reduceAdd, Nat.reduceLeDiff, Int.reduceSub, Int.reduceNeg, Int.reduceLT, Int.reduceLE, Int.reduceEq, *, small_ans, large_ans, rLight_ans, hX12, Tab.eqF, R1.frozenL, RV.frozenT, Function.comp_apply, Int.toNat_zero, List.getElem?_cons_zero, mn, Nat.le_refl]
    all_goals exact AU_adds
  have hLn : LG b = false := by simpa using hL
  have hz := LG_ev hLn
  have hze := LG_e40 hLn
  have hzc := LG_co hLn
  by_cases h24 : (24 : Int) < ((asL (fld b 0)).length : Int)
  case pos =>
    simp (maxDischargeDepth := 9) only [go_sem, Nat.reduceMul, Nat.reduceAdd, Nat.reduceLeDiff, Int.reduceSub, Int.reduceNeg, Int.reduceLT, Int.reduceLE, Int.reduceEq, *, small_ans, large_ans, rLight_ans, hX12, Tab.eqF, R1.frozenL, RV.frozenT, Function.comp_apply, Int.toNat_zero, List.getElem?_cons_zero, mn, Nat.le_refl]
    all_goals exact AU_adds
  obtain ⟨L, rfl⟩ := hlf
  cases L with
  | nil =>
    simp (maxDischargeDepth := 9) only [go_sem, Nat.reduceMul, Nat.reduceAdd, Nat.reduceLeDiff, Int.reduceSub, Int.reduceNeg, Int.reduceLT, Int.reduceLE, Int.reduceEq, *, small_ans, large_ans, rLight_ans, hX12, Tab.eqF, R1.frozenL, RV.frozenT, Function.comp_apply, Int.toNat_zero, List.getElem?_cons_zero, mn, Nat.le_refl]
    all_goals exact AU_adds
  | cons y u =>
  obtain ⟨z, rfl⟩ : ∃ z, y = .I z := hint y (List.mem_cons_self ..)
  have hlc : ¬((24 : Int) < ((asL (fld b 0)).length : Int)) := h24
  have hL24 : (asL (fld b 0)).length ≤ 24 := by omega
  have hpl := sm_pl hs
  have hvu : Ok (.L u) := .L (by have := ok_len hv; have this : u.length + 1 ≤ maxLen := this; omega) (fun x hx => ok_mem hv (List.mem_cons_of_mem _ hx))
  have hzb := ok_int (ok_mem hv (List.mem_cons_self ..))
  have hintu : ∀ x ∈ asL (.L u), ∃ z, x = .I z := fun x hx => hint x (List.mem_cons_of_mem _ hx)
  have hulen := ok_len hvu
  have hpp : ∀ x ∈ (asL (fld b 1)), (∃ l, x = .A l) ∧ (asL (fld x 1)).length ≤ 100000 ∧ (asL (fld x 2)).length ≤ 100000 := fun x hx => by
    obtain ⟨a, p, q, d, h⟩ := hef x hx
    have := LG_pp hLn hx
    exact ⟨⟨_, h⟩, by omega, by omega⟩
  have hx := add_ans ext k hN hE hU n b (.L u) z 2 2 2 (by omega) hnn hb hvu hzb.2 (by decide) (by decide) (by decide) (by decide) hz (by omega) hpl (ng_of hs) hpp
  have hr := radd_ans ext k n b (.L u) z (by have := D0_ge; omega) hnn hb hvu hintu (by omega) hpl (ng_of hs) hL24 (liB_tt h18) (liB_lp h18)
  have hc1 : cut (IV.I z :: u) 1 (IV.I z :: u).length = u := by unfold cut; rw [List.take_length]; rfl
  have hc2 : cut (IV.I z :: u) 1 (u.length + 1) = u := hc1
  have hc3 : cut (IV.I z :: u) (Int.toNat 1) (u.length + 1) = u := hc1
  have hcd : Int.toNat 1 ≤ u.length + 1 := by show 1 ≤ _; omega
  have hcz : (1 : Int) ≤ ((u.length + 1 : Nat) : Int) := by omega
  have hcl : ¬((u.length + 1 : Nat) : Int) < 1 := by omega
  by_cases hae : aE n b z (.L u) = 0
  case neg =>
    have har := aR_no (q := 2) (r := 2) hae
    have hrr := rR_no hae
    rw [har] at hx
    rw [hrr] at hr
    have hs2 := rsame2_ans ext k (.A [.N, .N]) (by omega) ok_zero
    clear har hrr
    simp (maxDischargeDepth := 9) only [go_sem, Nat.reduceMul, Nat.reduceAdd, Nat.reduceLeDiff, Int.reduceSub, Int.reduceNeg, Int.reduceLT, Int.reduceLE, Int.reduceEq, *, small_ans, large_ans, rLight_ans, hX12, Tab.eqF, R1.frozenL, RV.frozenT, Function.comp_apply, Int.toNat_zero, List.getElem?_cons_zero, mn, Nat.le_refl]
    with_reducible refine draw_with [3, 3] (by kernel_rfl) (by kernel_rfl) ?_
    simp (maxDischargeDepth := 9) only [go_sem, Nat.reduceMul, Nat.reduceAdd, Nat.reduceLeDiff, Int.reduceSub, Int.reduceNeg, Int.reduceLT, Int.reduceLE, Int.reduceEq, *, small_ans, large_ans, rLight_ans, hX12, Tab.eqF, R1.frozenL, RV.frozenT, Function.comp_apply, Int.toNat_zero, List.getElem?_cons_zero, mn, Nat.le_refl]
    iterate 11
      with_reducible refine dop_valW ?_ ?_
      · simp only [St.keysOf, Op.operands, List.flatMap_cons, List.flatMap_nil, SV.keys, V1.keys, At.keys, go_sem, *]
        try (simp [Call.operands, Option.toArray, SV.keys, V1.keys, At.keys, go_sem, *]; done)
        try (with_reducible rfl)
      simp (maxDischargeDepth := 9) only [go_sem, Nat.reduceMul, Nat.reduceAdd, Nat.reduceLeDiff, Int.reduceSub, Int.reduceNeg, Int.reduceLT, Int.reduceLE, Int.reduceEq, *, small_ans, large_ans, rLight_ans, hX12, Tab.eqF, R1.frozenL, RV.frozenT, Function.comp_apply, Int.toNat_zero, List.getElem?_cons_zero, mn, Nat.le_refl]
    iterate 2
      with_reducible refine dop_eff (by kernel_rfl) rfl ?_
      simp (maxDischargeDepth := 9) only [go_sem, Nat.reduceMul, Nat.reduceAdd, Nat.reduceLeDiff, Int.reduceSub, Int.reduceNeg, Int.reduceLT, Int.reduceLE, Int.reduceEq, *, small_ans, large_ans, rLight_ans, hX12, Tab.eqF, R1.frozenL, RV.frozenT, Function.comp_apply, Int.toNat_zero, List.getElem?_cons_zero, mn, Nat.le_refl, Tab.eff, List.isEmpty_nil, Option.isNone_none]
    with_reducible refine dop_loud (by kernel_rfl) ?_
    simp (maxDischargeDepth := 9) only [go_sem, Nat.reduceMul, Nat.reduceAdd, Nat.reduceLeDiff, Int.reduceSub, Int.reduceNeg, Int.reduceLT, Int.reduceLE, Int.reduceEq, *, small_ans, large_ans, rLight_ans, hX12, Tab.eqF, R1.frozenL, RV.frozenT, Function.comp_apply, Int.toNat_zero, List.getElem?_cons_zero, mn, Nat.le_refl]
    with_reducible refine draw_with [4, 4] (by kernel_rfl) (by kernel_rfl) ?_
    simp (maxDischargeDepth := 9) only [go_sem, Nat.reduceMul, Nat.reduceAdd, Nat.reduceLeDiff, Int.reduceSub, Int.reduceNeg, Int.reduceLT, Int.reduceLE, Int.reduceEq, *, small_ans, large_ans, rLight_ans, hX12, Tab.eqF, R1.frozenL, RV.frozenT, Function.comp_apply, Int.toNat_zero, List.getElem?_cons_zero, mn, Nat.le_refl]
    iterate 11
      with_reducible refine dop_valW ?_ ?_
      · simp only [St.keysOf, Op.operands, List.flatMap_cons, List.flatMap_nil, SV.keys, V1.keys, At.keys, go_sem, *]
        try (simp [Call.operands, Option.toArray, SV.keys, V1.keys, At.keys, go_sem, *]; done)
        try (with_reducible rfl)
      simp (maxDischargeDepth := 9) only [go_sem, Nat.reduceMul, Nat.reduceAdd, Nat.reduceLeDiff, Int.reduceSub, Int.reduceNeg, Int.reduceLT, Int.reduceLE, Int.reduceEq, *, small_ans, large_ans, rLight_ans, hX12, Tab.eqF, R1.frozenL, RV.frozenT, Function.comp_apply, Int.toNat_zero, List.getElem?_cons_zero, mn, Nat.le_refl]
    iterate 2
      with_reducible refine dop_eff (by kernel_rfl) rfl ?_
      simp (maxDischargeDepth := 9) only [go_sem, Nat.reduceMul, Nat.reduceAdd, Nat.reduceLeDiff, Int.reduceSub, Int.reduceNeg, Int.reduceLT, Int.reduceLE, Int.reduceEq, *, small_ans, large_ans, rLight_ans, hX12, Tab.eqF, R1.frozenL, RV.frozenT, Function.comp_apply, Int.toNat_zero, List.getElem?_cons_zero, mn, Nat.le_refl, Tab.eff, List.isEmpty_nil, Option.isNone_none]
    with_reducible refine dop_loud (by kernel_rfl) ?_
    simp (maxDischargeDepth := 9) only [go_sem, Nat.reduceMul, Nat.reduceAdd, Nat.reduceLeDiff, Int.reduceSub, Int.reduceNeg, Int.reduceLT, Int.reduceLE, Int.reduceEq, *, small_ans, large_ans, rLight_ans, hX12, Tab.eqF, R1.frozenL, RV.frozenT, Function.comp_apply, Int.toNat_zero, List.getElem?_cons_zero, mn, Nat.le_refl]
    all_goals exact AU_adds
  have har := aR_ok (q := 2) (r := 2) hae
  have hrr := rR_ok hae
  rw [pvx_2, aV_exV hef hintu] at har
  rw [har] at hx
  rw [hrr] at hr
  clear har hrr
  have hae2 := hae
  unfold aE at hae2
  have hck : (CK n b).1 = 0 := by
    split at hae2
    · assumption
    · rename_i h; exact absurd hae2 h
  rw [if_pos hck] at hae2
  have hcn := ck_add hbf ⟨_, rfl⟩ hintu hae
  have hg := ng_of hs (CK_IE hck)
  have hzr : 0 ≤ z ∧ z < ((asL (fld n 2)).length : Int) ∧ CP n b (nE z (.L u)) = 0 := by
    split at hae2
    · cases hae2
    · rename_i h2
      refine ⟨by omega, by omega, Decidable.byContradiction fun h => h2 (.inr (.inr h))⟩
  clear hae2
  obtain ⟨hz0, hz1, hcp⟩ := hzr
  have hul : (asL (.L u)).length ≤ 100000 := by
    have hc : (asL (.L u)).length = (insL n (nE z (.L u))).length := (CP_ok hcp).1
    have hc2 : (insL n (nE z (.L u))).length = (asL (fld (el (asL (fld n 2)) z) 1)).length := tgs_len
    have := hg.l1 hz0 hz1
    omega
  have hpo := hg.l2 hz0 hz1
  have hon := ok_new (n := n) (b := b) (l := .L u) (t := z) hb hvu hnn hzb hul (by omega) (by omega) hpo
  have hs2 := rsame2_ans ext k (.A [.L (aC n b z), .L (exV n b z (.L u))]) (by omega) hon
  have hkn := check_ans ext k hN hE hU n (.A [.L (aC n b z), .L (exV n b z (.L u))]) 2 2 (by omega) hnn hon (by decide) (by show (exV n b z (.L u)).length ≤ _; rw [exV_len]; omega) (by show (aC n b z).length ≤ _; rw [aC_len]; omega) hpl (ng_of hs)
  rw [hcn] at hkn
  simp (maxDischargeDepth := 9) only [go_sem, Nat.reduceMul, Nat.reduceAdd, Nat.reduceLeDiff, Int.reduceSub, Int.reduceNeg, Int.reduceLT, Int.reduceLE, Int.reduceEq, *, small_ans, large_ans, rLight_ans, hX12, Tab.eqF, R1.frozenL, RV.frozenT, Function.comp_apply, Int.toNat_zero, List.getElem?_cons_zero, mn, Nat.le_refl]
  with_reducible refine draw_with [3, 3] (by kernel_rfl) (by kernel_rfl) ?_
  simp (maxDischargeDepth := 9) only [go_sem, Nat.reduceMul, Nat.reduceAdd, Nat.reduceLeDiff, Int.reduceSub, Int.reduceNeg, Int.reduceLT, Int.reduceLE, Int.reduceEq, *, small_ans, large_ans, rLight_ans, hX12, Tab.eqF, R1.frozenL, RV.frozenT, Function.comp_apply, Int.toNat_zero, List.getElem?_cons_zero, mn, Nat.le_refl]
  iterate 11
    with_reducible refine dop_valW ?_ ?_
    · simp only [St.keysOf, Op.operands, List.flatMap_cons, List.flatMap_nil, SV.keys, V1.keys, At.keys, go_sem, *]
      try (simp [Call.operands, Option.toArray, SV.keys, V1.keys, At.keys, go_sem, *]; done)
      try (with_reducible rfl)
    simp (maxDischargeDepth := 9) only [go_sem, Nat.reduceMul, Nat.reduceAdd, Nat.reduceLeDiff, Int.reduceSub, Int.reduceNeg, Int.reduceLT, Int.reduceLE, Int.reduceEq, *, small_ans, large_ans, rLight_ans, hX12, Tab.eqF, R1.frozenL, RV.frozenT, Function.comp_apply, Int.toNat_zero, List.getElem?_cons_zero, mn, Nat.le_refl]
  iterate 2
    with_reducible refine dop_eff (by kernel_rfl) rfl ?_
    simp (maxDischargeDepth := 9) only [go_sem, Nat.reduceMul, Nat.reduceAdd, Nat.reduceLeDiff, Int.reduceSub, Int.reduceNeg, Int.reduceLT, Int.reduceLE, Int.reduceEq, *, small_ans, large_ans, rLight_ans, hX12, Tab.eqF, R1.frozenL, RV.frozenT, Function.comp_apply, Int.toNat_zero, List.getElem?_cons_zero, mn, Nat.le_refl, Tab.eff, List.isEmpty_nil, Option.isNone_none]
  with_reducible refine dop_loud (by kernel_rfl) ?_
  simp (maxDischargeDepth := 9) only [go_sem, Nat.reduceMul, Nat.reduceAdd, Nat.reduceLeDiff, Int.reduceSub, Int.reduceNeg, Int.reduceLT, Int.reduceLE, Int.reduceEq, *, small_ans, large_ans, rLight_ans, hX12, Tab.eqF, R1.frozenL, RV.frozenT, Function.comp_apply, Int.toNat_zero, List.getElem?_cons_zero, mn, Nat.le_refl]
  with_reducible refine draw_with [4, 4] (by kernel_rfl) (by kernel_rfl) ?_
  simp (maxDischargeDepth := 9) only [go_sem, Nat.reduceMul, Nat.reduceAdd, Nat.reduceLeDiff, Int.reduceSub, Int.reduceNeg, Int.reduceLT, Int.reduceLE, Int.reduceEq, *, small_ans, large_ans, rLight_ans, hX12, Tab.eqF, R1.frozenL, RV.frozenT, Function.comp_apply, Int.toNat_zero, List.getElem?_cons_zero, mn, Nat.le_refl]
  iterate 11
    with_reducible refine dop_valW ?_ ?_
    · simp only [St.keysOf, Op.operands, List.flatMap_cons, List.flatMap_nil, SV.keys, V1.keys, At.keys, go_sem, *]
      try (simp [Call.operands, Option.toArray, SV.keys, V1.keys, At.keys, go_sem, *]; done)
      try (with_reducible rfl)
    simp (maxDischargeDepth := 9) only [go_sem, Nat.reduceMul, Nat.reduceAdd, Nat.reduceLeDiff, Int.reduceSub, Int.reduceNeg, Int.reduceLT, Int.reduceLE, Int.reduceEq, *, small_ans, large_ans, rLight_ans, hX12, Tab.eqF, R1.frozenL, RV.frozenT, Function.comp_apply, Int.toNat_zero, List.getElem?_cons_zero, mn, Nat.le_refl]
  iterate 2
    with_reducible refine dop_eff (by kernel_rfl) rfl ?_
    simp (maxDischargeDepth := 9) only [go_sem, Nat.reduceMul, Nat.reduceAdd, Nat.reduceLeDiff, Int.reduceSub, Int.reduceNeg, Int.reduceLT, Int.reduceLE, Int.reduceEq, *, small_ans, large_ans, rLight_ans, hX12, Tab.eqF, R1.frozenL, RV.frozenT, Function.comp_apply, Int.toNat_zero, List.getElem?_cons_zero, mn, Nat.le_refl, Tab.eff, List.isEmpty_nil, Option.isNone_none]
  with_reducible refine dop_loud (by kernel_rfl) ?_
  simp (maxDischargeDepth := 9) only [go_sem, Nat.reduceMul, Nat.reduceAdd, Nat.reduceLeDiff, Int.reduceSub, Int.reduceNeg, Int.reduceLT, Int.reduceLE, Int.reduceEq, *, small_ans, large_ans, rLight_ans, hX12, Tab.eqF, R1.frozenL, RV.frozenT, Function.comp_apply, Int.toNat_zero, List.getElem?_cons_zero, mn, Nat.le_refl]
  all_goals exact AU_adds
end Go.Proofs.Ytficdonjodadlaa
end
