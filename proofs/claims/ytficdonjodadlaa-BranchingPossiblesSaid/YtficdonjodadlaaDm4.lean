/- Part 4 of a proof: Dm. Words and walks that a program printed for this claim stand here without what the claim does not use. -/
import Derived.Test.YtficdonjodadlaaDm3
set_option linter.unusedSimpArgs false
set_option linter.unusedVariables false
section
set_option linter.unusedVariables false
namespace Go.Ev
def FD (b : IV) : Bool := !((asL (fld b 0)).any fun x => decide (asI (fld x 1) < -1 ∨ ((asL (fld b 1)).length : Int) ≤ asI (fld x 1))) && !((List.range (asL (fld b 1)).length).any fun i => (asL (fld ((asL (fld b 1)).getD i .N) 1)).any fun x => decide (asI x < 0 ∨ ((asL (fld b 0)).length : Int) ≤ asI x ∨ (i : Int) ≤ asI (fld (el (asL (fld b 0)) (asI x)) 1)))
def frm (b : IV) (c : Int) : Int := asI (fld (el (asL (fld b 0)) c) 1)
def nEv (b : IV) : Nat := (asL (fld b 1)).length
def nCo (b : IV) : Nat := (asL (fld b 0)).length
def pre (b : IV) (e : Nat) : List IV := asL (fld ((asL (fld b 1)).getD e .N) 1)
theorem FD_con {b : IV} (h : FD b = true) {x : IV} (hx : x ∈ asL (fld b 0)) : -1 ≤ asI (fld x 1) ∧ asI (fld x 1) < (nEv b : Int) := by
  simp only [FD, Bool.and_eq_true, Bool.not_eq_true', List.any_eq_false, decide_eq_true_eq] at h
  have := h.1 x hx
  simp only [nEv]; omega
theorem FD_pre {b : IV} (h : FD b = true) {i : Nat} (hi : i < nEv b) {x : IV} (hx : x ∈ pre b i) : 0 ≤ asI x ∧ asI x < (nCo b : Int) ∧ frm b (asI x) < (i : Int) := by
  simp only [FD, Bool.and_eq_true, Bool.not_eq_true', List.any_eq_false, decide_eq_true_eq, List.any_eq_true, not_exists, not_and, not_or] at h
  have := h.2 i (List.mem_range.2 hi) x hx
  simp only [nCo, frm]; omega
theorem el_mem {l : List IV} {n : Int} (h0 : 0 ≤ n) (h : n < (l.length : Int)) : el l n ∈ l := by
  have : n.toNat < l.length := by omega
  have e : el l n = l[n.toNat] := by simp [el, List.getD, this]
  rw [e]; exact List.getElem_mem this
theorem FD_frm {b : IV} (h : FD b = true) {c : Int} (h0 : 0 ≤ c) (h1 : c < (nCo b : Int)) : -1 ≤ frm b c ∧ frm b c < (nEv b : Int) := FD_con h (el_mem h0 h1)
def edge (b : IV) (h g : Nat) : Prop := ∃ x ∈ pre b h, frm b (asI x) = (g : Int)
inductive Rch (b : IV) (e : Nat) : Nat → Prop
  | refl : Rch b e e
  | step {h g : Nat} (hr : Rch b e h) (hx : edge b h g) : Rch b e g
noncomputable instance (b : IV) (h g : Nat) : Decidable (edge b h g) := Classical.propDecidable _
noncomputable instance (b : IV) (h g : Nat) : Decidable (Rch b h g) := Classical.propDecidable _
noncomputable def hist (b : IV) (e : Int) (f : Nat) : Bool := decide (0 ≤ e) && decide (Rch b e.toNat f)
theorem hist_neg {b : IV} {e : Int} (h : e < 0) : hist b e = fun _ => false := by funext f; simp [hist]; omega
theorem rch_trans {b : IV} {e f g : Nat} (h1 : Rch b e f) (h2 : Rch b f g) : Rch b e g := by
  induction h2 with
  | refl => exact h1
  | step hr hx ih => exact .step ih hx
theorem rch_head {b : IV} {e g : Nat} : Rch b e g ↔ g = e ∨ ∃ h, edge b e h ∧ Rch b h g := by
  constructor
  · intro h
    induction h with
    | refl => exact .inl rfl
    | step hr hx ih =>
      rcases ih with rfl | ⟨h, h1, h2⟩
      · exact .inr ⟨_, hx, .refl⟩
      · exact .inr ⟨h, h1, .step h2 hx⟩
  · rintro (rfl | ⟨h, h1, h2⟩)
    · exact .refl
    · exact rch_trans (.step .refl h1) h2
theorem hist_nat {b : IV} {m g : Nat} : hist b (m : Int) g = decide (Rch b m g) := by simp [hist]
theorem hist_step {b : IV} {m g : Nat} : hist b (m : Int) g = (decide (g = m) || (pre b m).any fun x => hist b (frm b (asI x)) g) := by
  rw [hist_nat, Bool.eq_iff_iff, decide_eq_true_eq, rch_head]
  simp only [Bool.or_eq_true, decide_eq_true_eq, List.any_eq_true, hist, Bool.and_eq_true]
  constructor
  · rintro (h | ⟨h, ⟨x, hx, e⟩, h2⟩)
    · exact .inl h
    · exact .inr ⟨x, hx, by omega, by rw [e]; exact h2⟩
  · rintro (h | ⟨x, hx, h1, h2⟩)
    · exact .inl h
    · exact .inr ⟨_, ⟨x, hx, by omega⟩, h2⟩
def Clo (b : IV) (m : Nat) (S : Nat → Bool) : Prop := ∀ f, f < m → S f = true → ∀ g, Rch b f g → S g = true
theorem clo_le {b : IV} {m n : Nat} {S : Nat → Bool} (h : Clo b m S) (hn : n ≤ m) : Clo b n S := fun f hf => h f (by omega)
theorem clo_put {b : IV} {m : Nat} {S : Nat → Bool} (h : Clo b (m + 1) S) : Clo b m fun g => S g || decide (g = m) := by
  intro f hf hs g hr
  simp only [Bool.or_eq_true, decide_eq_true_eq] at hs ⊢
  rcases hs with hs | hs
  · exact .inl (h f (by omega) hs g hr)
  · omega
theorem clo_or {b : IV} {m : Nat} {S : Nat → Bool} {e : Int} (h : Clo b m S) : Clo b m fun g => S g || hist b e g := by
  intro f hf hs g hr
  simp only [Bool.or_eq_true] at hs ⊢
  rcases hs with hs | hs
  · exact .inl (h f hf hs g hr)
  · refine .inr ?_
    simp only [hist, Bool.and_eq_true, decide_eq_true_eq] at hs ⊢
    exact ⟨hs.1, rch_trans hs.2 hr⟩
theorem clo_has {b : IV} {m : Nat} {S : Nat → Bool} (h : Clo b (m + 1) S) (hs : S m = true) : (fun g => S g || hist b (m : Int) g) = S := by
  funext g
  rw [hist_nat]
  by_cases hr : Rch b m g
  · simp [h m (by omega) hs g hr]
  · simp [hr]
theorem clo_no {b : IV} {m : Nat} : Clo b m fun _ => false := by intro f _ hs; cases hs
def bl (n : Nat) (S : Nat → Bool) : List IV := (List.range n).map fun f => .B (S f)
theorem bl_len {n : Nat} {S : Nat → Bool} : (bl n S).length = n := by simp [bl]
theorem bl_get {n i : Nat} {S : Nat → Bool} (h : i < n) : (bl n S).getD i .N = .B (S i) := by simp [bl, List.getD, h]
theorem bl_set {n i : Nat} {S : Nat → Bool} : (bl n S).set i (.B true) = bl n fun g => S g || decide (g = i) := by
  apply List.ext_getElem?
  intro j
  simp only [bl, List.getElem?_set, List.getElem?_map, List.length_map, List.length_range]
  by_cases hij : i = j
  · subst hij
    by_cases hi : i < n
    · simp [hi]
    · simp [hi]
  · by_cases hj : j < n
    · simp [hij, hj, Ne.symm hij]
    · simp [hij, hj]
theorem bl_rep {n : Nat} : List.replicate n (.B false) = bl n fun _ => false := by simp [bl, List.map_const']
theorem foldS_next {α β ρ : Type} {g : α → β → α} {l : List β} : ∀ {a0 b : α}, (foldS (ρ := ρ) (fun a x => .next (g a x)) a0 l = .stop b) = (l.foldl g a0 = b) := by
  induction l with
  | nil => intro a0 b; simp [foldS]
  | cons x l ih => intro a0 b; simp only [foldS, List.foldl_cons]; exact ih
theorem foldl_or {β : Type} {q : β → Nat → Bool} {l : List β} : ∀ {S : Nat → Bool}, l.foldl (fun S k => fun g => S g || q k g) S = fun g => S g || l.any fun k => q k g := by
  induction l with
  | nil => intro S; simp
  | cons x l ih => intro S; rw [List.foldl_cons, ih]; funext g; simp [Bool.or_assoc]
theorem pre_edge {b : IV} {h : Nat} {F : Nat → Int} (hF : ∀ k, F k = frm b (asI ((pre b h).getD k .N))) (g : Nat) : ((List.range (pre b h).length).any fun k => decide (0 ≤ F k) && decide (g = (F k).toNat)) = decide (edge b h g) := by
  have e := any_range (l := pre b h) (p := fun x => decide (0 ≤ frm b (asI x)) && decide (g = (frm b (asI x)).toNat))
  simp only [hF]
  rw [e, Bool.eq_iff_iff, List.any_eq_true, decide_eq_true_eq, edge]
  constructor
  · rintro ⟨x, hx, h⟩
    simp only [Bool.and_eq_true, decide_eq_true_eq] at h
    exact ⟨x, hx, by omega⟩
  · rintro ⟨x, hx, h⟩
    exact ⟨x, hx, by simp only [Bool.and_eq_true, decide_eq_true_eq]; omega⟩
theorem edge_lt {b : IV} (hf : FD b = true) {h g : Nat} (hh : h < nEv b) (he : edge b h g) : g < h := by
  obtain ⟨x, hx, e⟩ := he
  have := (FD_pre hf hh hx).2.2
  omega
theorem rch_le {b : IV} (hf : FD b = true) {e g : Nat} (he : e < nEv b) (h : Rch b e g) : g ≤ e := by
  induction h with
  | refl => exact Nat.le_refl _
  | step hr hx ih => have := edge_lt hf (by omega) hx; omega
theorem past_fold {b : IV} (hf : FD b = true) {e : Nat} (he : e < nEv b) : (List.range (e + 1)).foldl (fun (S : Nat → Bool) i => fun g => S g || (S (e - i) && decide (edge b (e - i) g))) (fun g => decide (g = e)) = fun g => decide (Rch b e g) := by
  have key : ∀ m, m ≤ e + 1 → ∀ g, (List.range m).foldl (fun (S : Nat → Bool) i => fun g => S g || (S (e - i) && decide (edge b (e - i) g))) (fun g => decide (g = e)) g = true ↔ g = e ∨ ∃ h, e + 1 ≤ h + m ∧ Rch b e h ∧ edge b h g := by
    intro m
    induction m with
    | zero =>
      intro _ g
      simp only [List.range_zero, List.foldl_nil, decide_eq_true_eq]
      constructor
      · exact .inl
      · rintro (h | ⟨h, h1, h2, h3⟩)
        · exact h
        · have := rch_le hf he h2; omega
    | succ m ih =>
      intro hm g
      have ih' := ih (by omega)
      rw [List.range_succ, List.foldl_append, List.foldl_cons, List.foldl_nil]
      simp only [Bool.or_eq_true, Bool.and_eq_true, decide_eq_true_eq]
      rw [ih' g, ih' (e - m)]
      have hme : Rch b e (e - m) ↔ (e - m = e ∨ ∃ h, e + 1 ≤ h + m ∧ Rch b e h ∧ edge b h (e - m)) := by
        constructor
        · intro hr
          generalize hz : e - m = z at hr ⊢
          cases hr with
          | refl => exact .inl rfl
          | step hr hx =>
            rename_i h
            have h1 := rch_le hf he hr
            have h2 := edge_lt hf (by omega) hx
            exact .inr ⟨h, by omega, hr, hx⟩
        · rintro (h | ⟨h, _, h2, h3⟩)
          · rw [h]; exact .refl
          · exact .step h2 h3
      rw [← hme]
      constructor
      · rintro ((h | ⟨h, h1, h2, h3⟩) | ⟨h1, h2⟩)
        · exact .inl h
        · exact .inr ⟨h, by omega, h2, h3⟩
        · exact .inr ⟨e - m, by omega, h1, h2⟩
      · rintro (h | ⟨h, h1, h2, h3⟩)
        · exact .inl (.inl h)
        · by_cases hh : e + 1 ≤ h + m
          · exact .inl (.inr ⟨h, hh, h2, h3⟩)
          · have hle := rch_le hf he h2
            have : h = e - m := by omega
            subst this
            exact .inr ⟨h2, h3⟩
  funext g
  rw [Bool.eq_iff_iff, key (e + 1) (Nat.le_refl _) g, decide_eq_true_eq]
  constructor
  · rintro (h | ⟨h, _, h2, h3⟩)
    · subst h; exact .refl
    · exact .step h2 h3
  · intro h
    cases h with
    | refl => exact .inl rfl
    | step hr hx => exact .inr ⟨_, by omega, hr, hx⟩
attribute [go_sem] bl_len bl_get bl_set bl_rep foldS_next
theorem room_of {n b : Nat} (h : n ≤ 1000000) (hb : b ≤ 1000) : roomFor n b = true := by
  simp only [roomFor, Bool.and_eq_true, decide_eq_true_eq]
  have : n * b ≤ 1000000 * 1000 := Nat.mul_le_mul h hb
  omega
theorem memD {l : List IV} {i : Nat} (h : i < l.length) : l.getD i .N ∈ l := by
  have e : l.getD i .N = l[i] := by simp [List.getD, h]
  rw [e]; exact List.getElem_mem h
attribute [go_sem] Int.toNat_natCast Int.sub_zero Nat.zero_add Nat.add_zero
theorem asB_B {x : Bool} : asB (.B x) = x := (rfl)
theorem asI_I' {x : Int} : asI (.I x) = x := (rfl)
attribute [go_sem] asB_B asI_I' St.frozen St.putElem List.length_set List.length_replicate room_of Nat.reduceLeDiff List.nil_append
def SM (v u : IV) : Bool := decide ((asL v).length = (asL u).length) && !((List.range (asL v).length).any fun i => !decide (asI ((asL v).getD i .N) = asI ((asL u).getD i .N)))
theorem all_ret {β ρ : Type} {p : β → Prop} [DecidablePred p] {r : ρ} {l : List β} : (foldS (fun (_ : Unit) x => if p x then .next () else .ret r) () l = .ret r) = ((l.any fun x => !decide (p x)) = true) := by
  have e : (fun (_ : Unit) x => if p x then Stp.next () else Stp.ret r) = fun (_ : Unit) x => if ¬p x then Stp.ret r else Stp.next () := by funext _ x; by_cases h : p x <;> simp [h]
  rw [e, any_ret]; simp only [decide_not]
theorem all_stop {β ρ : Type} {p : β → Prop} [DecidablePred p] {r : ρ} {l : List β} {a : Unit} : (foldS (fun (_ : Unit) x => if p x then .next () else .ret r) () l = .stop a) = ((l.any fun x => !decide (p x)) = false) := by
  have e : (fun (_ : Unit) x => if p x then Stp.next () else Stp.ret r) = fun (_ : Unit) x => if ¬p x then Stp.ret r else Stp.next () := by funext _ x; by_cases h : p x <;> simp [h]
  rw [e, any_stop]; simp only [decide_not]
attribute [go_sem] all_ret all_stop
def CLf (b : IV) (X Y : Nat → Bool) : Bool := (List.range (asL (fld b 1)).length).any fun i => (List.range (asL (fld b 1)).length).any fun k => !decide (i = k) && X i && Y k && (asL (fld ((asL (fld b 1)).getD i .N) 1)).any fun x => (asL (fld ((asL (fld b 1)).getD k .N) 1)).any fun y => decide (asI y = asI x)
@[irreducible] def D0 : Nat := 1000010
theorem D0_ge : 1000003 ≤ D0 := by unfold D0; omega
def ExC (ext : CallF) : Prop := ∀ (b : IV) (p q r : Nat) (X Y : Nat → Bool), Ok b → FD b = true → (asL (fld b 1)).length ≤ 1000000 → ans ext 59 [.iv p 29 b, .iv q 51 (.L (bl (asL (fld b 1)).length X)), .iv r 51 (.L (bl (asL (fld b 1)).length Y))] 0 = some ([.one (.at (.bool (CLf b X Y)))], [4])
def mks (n : Nat) (S : Nat → Bool) : List IV := ((List.range n).filter S).map fun (i : Nat) => .I i
theorem mks_len {n : Nat} {S : Nat → Bool} : (mks n S).length ≤ n := by
  unfold mks; rw [List.length_map]; exact Nat.le_trans (List.length_filter_le _ _) (by simp)
theorem mks_succ {i : Nat} {S : Nat → Bool} : mks (i + 1) S = if S i = true then mks i S ++ [.I i] else mks i S := by
  unfold mks; rw [List.range_succ, List.filter_append, List.map_append]
  by_cases h : S i = true <;> simp [h]
theorem mks_zero {S : Nat → Bool} : mks 0 S = [] := (rfl)
attribute [go_sem] mks_zero mks_succ
def IN (b : IV) (e : Int) : Bool := FD b && decide (0 ≤ e) && decide (e < ((asL (fld b 1)).length : Int))
def LG (b : IV) : Bool := decide ((120 : Int) < ((asL (fld b 0)).length : Int)) || decide ((40 : Int) < ((asL (fld b 1)).length : Int)) || (asL (fld b 1)).any fun x => decide ((12 : Int) < ((asL (fld x 1)).length : Int) ∨ (40 : Int) < ((asL (fld x 2)).length : Int))
theorem SM_self {v : IV} : SM v v = true := by
  unfold SM; simp
theorem LG_ev {b : IV} (h : LG b = false) : (asL (fld b 1)).length ≤ 1000000 := by
  simp only [LG, Bool.or_eq_false_iff, decide_eq_false_iff_not] at h
  omega
attribute [go_sem] SM_self beq_self_eq_true
theorem ok_mks {n : Nat} {S : Nat → Bool} {c : Prop} [Decidable c] (h : n ≤ 1000000) : Ok (.L (if c then mks n S else [])) := by
  split
  · refine .L (Nat.le_trans mks_len (Nat.le_trans h (by unfold maxLen; omega))) (fun x hx => ?_)
    unfold mks at hx
    obtain ⟨i, hi, rfl⟩ := List.mem_map.1 hx
    have : i < n := by have := (List.mem_filter.1 hi).1; simpa using this
    exact .I (by omega)
  · exact .L (by simp) (by simp)
attribute [go_sem] ok_mks
end Go.Ev
end
section
set_option linter.unusedVariables false
namespace Go.Ev
def outI : Stp Unit Int → Int | .ret r => r | _ => 0
theorem outI_ret {r : Int} : outI (.ret r) = r := (rfl)
theorem outI_stop {a : Unit} : outI (.stop a) = 0 := (rfl)
attribute [go_sem] outI_ret outI_stop Int.natCast_pos
def arS (l : IV) (m : Int) (_ : Unit) (i : Nat) : Stp Unit Int :=
  if asI (fld ((asL l).getD i .N) 0) < 0 ∨ m ≤ asI (fld ((asL l).getD i .N) 0) then .ret 7
  else if 0 < i ∧ asI (fld ((asL l).getD i .N) 0) ≤ asI (fld ((asL l).getD (i - 1) .N) 0) then .ret 8
  else if asI (fld ((asL l).getD i .N) 1) < 1 ∨ 99 < asI (fld ((asL l).getD i .N) 1) then .ret 9 else .next ()
def AR (l : IV) (m : Int) : Int := outI (foldS (arS l m) () (List.range (asL l).length))
def VA (l : IV) (n : Int) : Bool := decide (((asL l).length : Int) = n) && !((asL l).any fun x => decide (asI x < 0 ∨ 1048576 < asI x))
def PL (p : IV) : Int := if asI (fld p 2) < 0 ∨ 1048576 < asI (fld p 2) then 1 else if (asI (fld p 1) < 0 ∨ 1048576 < asI (fld p 1)) ∨ (¬asI (fld p 2) = 0 ∧ asI (fld p 2) < asI (fld p 1)) then 10 else 0
def TR (t : IV) (m : Int) : Int := if asI (fld t 4) < 0 ∨ 9 < asI (fld t 4) then 1 else if AR (fld t 1) m = 0 then (if AR (fld t 2) m = 0 then AR (fld t 3) m else AR (fld t 2) m) else AR (fld t 1) m
theorem foldS_nil {α β ρ : Type} {f : α → β → Stp α ρ} {a : α} : foldS f a [] = .stop a := (rfl)
theorem foldS_cons {α β ρ : Type} {f : α → β → Stp α ρ} {a : α} {x : β} {l : List β} : foldS f a (x :: l) = match f a x with | .next b => foldS f b l | r => r := (rfl)
theorem VA_one {x : Int} : VA (.L [.I x]) 1 = !decide (x < 0 ∨ 1048576 < x) := by
  by_cases h : x < 0 ∨ 1048576 < x <;> simp [VA, asL, asI, h]
theorem ok_one {v : IV} (h : Ok v) : Ok (.L [.I (asI v)]) := .L (by simp [maxLen]) (fun x hx => by simp at hx; subst hx; exact .I (ok_int h))
theorem tr_fold {x : IV} {m : Int} : (if AR (fld x 1) m = 0 then (if AR (fld x 2) m = 0 then AR (fld x 3) m else AR (fld x 2) m) else AR (fld x 1) m) = outI (foldS (fun (_ : Unit) y => if AR y m = 0 then .next () else .ret (AR y m)) () [fld x 1, fld x 2, fld x 3]) := by
  simp only [foldS_cons, foldS_nil]
  by_cases h1 : AR (fld x 1) m = 0 <;> by_cases h2 : AR (fld x 2) m = 0 <;> by_cases h3 : AR (fld x 3) m = 0 <;> simp [h1, h2, h3, outI]
def nmOk (c i : Nat) : Bool := decide ((97 ≤ c ∧ c ≤ 122) ∨ c = 95 ∨ (0 < i ∧ ((48 ≤ c ∧ c ≤ 57) ∨ c = 46)))
def nmL (s : ByteArray) : Nat → Nat → Bool
  | 0, _ => true
  | b + 1, i => if i < s.size then (if nmOk (Utf8.decode s i).1 i = true then nmL s b (i + (Utf8.decode s i).2) else false) else true
def nmB (s : ByteArray) : Bool := if s.size < 1 ∨ 16 < s.size then false else nmL s s.size 0
def ExN (ext : CallF) : Prop := ∀ s : ByteArray, ans ext 64 [.str s] 0 = some ([.one (.at (.bool (nmB s)))], [4])
def AD (L : List IV) (s : ByteArray) : Int := if nmB s = true then (if (L.any fun x => asS x == s) = true then 6 else 0) else 5
theorem asS_S {s : ByteArray} : asS (.S s) = s := (rfl)
attribute [go_sem] asS_S List.length_append List.length_singleton
theorem fld_z {x : IV} {l : List IV} : fld (.A (x :: l)) 0 = x := (rfl)
theorem fld_s {x : IV} {l : List IV} {j : Nat} : fld (.A (x :: l)) (j + 1) = fld (.A l) j := by simp [fld]
attribute [go_sem] fld_z fld_s
def nms (l : IV) (i : Nat) : List IV := (List.range i).map fun k => .S (asS (fld ((asL l).getD k .N) 0))
theorem nms_zero {l : IV} : nms l 0 = [] := (rfl)
theorem nms_succ {l : IV} {i : Nat} : nms l (i + 1) = nms l i ++ [.S (asS (fld ((asL l).getD i .N) 0))] := by simp [nms, List.range_succ]
theorem nms_len {l : IV} {i : Nat} : (nms l i).length = i := by simp [nms]
attribute [go_sem] nms_zero nms_succ List.append_assoc
def plS (n : IV) (i : Nat) : Int := if AD (nms (fld n 1) i) (asS (fld ((asL (fld n 1)).getD i .N) 0)) = 0 then PL ((asL (fld n 1)).getD i .N) else AD (nms (fld n 1) i) (asS (fld ((asL (fld n 1)).getD i .N) 0))
def trS (n : IV) (i : Nat) : Int := if AD (nms (fld n 1) (asL (fld n 1)).length ++ nms (fld n 2) i) (asS (fld ((asL (fld n 2)).getD i .N) 0)) = 0 then TR ((asL (fld n 2)).getD i .N) (asL (fld n 1)).length else AD (nms (fld n 1) (asL (fld n 1)).length ++ nms (fld n 2) i) (asS (fld ((asL (fld n 2)).getD i .N) 0))
def ckP (n : IV) (_ : Unit) (i : Nat) : Stp Unit (Int × Int) := if plS n i = 0 then .next () else .ret (plS n i, (i : Int))
def ckT (n : IV) (_ : Unit) (i : Nat) : Stp Unit (Int × Int) := if trS n i = 0 then .next () else .ret (trS n i, ((asL (fld n 1)).length : Int) + (i : Int))
def NC2 (n : IV) : Int × Int := match foldS (ckT n) () (List.range (asL (fld n 2)).length) with | .ret r => r | _ => (0, 0)
def NC1 (n : IV) : Int × Int := match foldS (ckP n) () (List.range (asL (fld n 1)).length) with | .ret r => r | _ => NC2 n
def NC (n : IV) : Int × Int := if nmB (asS (fld n 0)) = true then (if ((asL (fld n 1)).length : Int) < 1 ∨ (24 : Int) < ((asL (fld n 1)).length : Int) ∨ (24 : Int) < ((asL (fld n 2)).length : Int) then (2, 0) else NC1 n) else (5, 0)
end Go.Ev
end
section
set_option linter.unusedVariables false
namespace Go.Ev
def CNf (b : IV) (X : Nat → Bool) (c : Int) : Bool := (List.range (asL (fld b 1)).length).any fun i => X i && (asL (fld ((asL (fld b 1)).getD i .N) 1)).any fun x => decide (asI x = c)
def ExU (ext : CallF) : Prop := ∀ (b : IV) (p q : Nat) (X : Nat → Bool) (c : Int), Ok b → FD b = true → (asL (fld b 1)).length ≤ 1000000 → ans ext 82 [.iv p 29 b, .iv q 51 (.L (bl (asL (fld b 1)).length X)), .int .i64 c] 0 = some ([.one (.at (.bool (CNf b X c)))], [4])
noncomputable def TG (b : IV) (c d : Int) : Bool := !decide (c = d) && !CNf b (hist b (frm b c)) d && !CNf b (hist b (frm b d)) c && !CLf b (hist b (frm b c)) (hist b (frm b d))
theorem CLf_neg1 {b : IV} {e : Int} {Y : Nat → Bool} (h : e < 0) : CLf b (hist b e) Y = false := by simp [CLf, hist_neg h]
theorem CLf_neg2 {b : IV} {e : Int} {Y : Nat → Bool} (h : e < 0) : CLf b Y (hist b e) = false := by simp [CLf, hist_neg h]
noncomputable def CS (b l : IV) : Bool := FD b && !((asL l).any fun x => decide (asI x < 0 ∨ ((asL (fld b 0)).length : Int) ≤ asI x)) && !((List.range (asL l).length).any fun i => (List.range i).any fun k => !TG b (asI ((asL l).getD i .N)) (asI ((asL l).getD k .N)))
theorem any_in {l : List IV} {m : Int} (h : (l.any fun x => decide (asI x < 0 ∨ m ≤ asI x)) = false) {i : Nat} (hi : i < l.length) : 0 ≤ asI (l.getD i .N) ∧ asI (l.getD i .N) < m := by
  have := List.any_eq_false.1 h _ (memD hi)
  simp only [decide_eq_true_eq, not_or] at this
  omega
theorem cut_take {l : List IV} {i : Nat} : cut l 0 i = l.take i := by simp [cut]
theorem take_len {l : List IV} {i : Nat} (h : i ≤ l.length) : (l.take i).length = i := by simp; omega
theorem take_get {l : List IV} {i k : Nat} (h : k < i) : (l.take i).getD k .N = l.getD k .N := by simp [List.getD, List.getElem?_take, h]
attribute [go_sem] bnd cut_take take_len take_get Nat.zero_le
end Go.Ev
end
section
set_option linter.unusedVariables false
namespace Go.Ev
theorem CLf_symm {b : IV} {X Y : Nat → Bool} : CLf b X Y = CLf b Y X := by
  have h : ∀ X Y : Nat → Bool, CLf b X Y = true → CLf b Y X = true := by
    intro X Y h
    simp only [CLf, List.any_eq_true, Bool.and_eq_true, Bool.not_eq_true', decide_eq_false_iff_not, decide_eq_true_eq, List.mem_range] at h ⊢
    obtain ⟨i, hi, k, hk, ⟨⟨h1, h2⟩, h3⟩, x, hx, y, hy, e⟩ := h
    exact ⟨k, hk, i, hi, ⟨⟨fun e => h1 e.symm, h3⟩, h2⟩, y, hy, x, hx, e.symm⟩
  rw [Bool.eq_iff_iff]; exact ⟨h X Y, h Y X⟩
theorem TG_symm {b : IV} {c d : Int} : TG b c d = TG b d c := by
  unfold TG
  rw [CLf_symm (X := hist b (frm b c))]
  have : decide (c = d) = decide (d = c) := by rw [decide_eq_decide]; exact ⟨Eq.symm, Eq.symm⟩
  rw [this]
  generalize decide (d = c) = a; generalize CNf b (hist b (frm b c)) d = x; generalize CNf b (hist b (frm b d)) c = y; generalize CLf b (hist b (frm b d)) (hist b (frm b c)) = z
  cases a <;> cases x <;> cases y <;> rfl
end Go.Ev
end
section
set_option linter.unusedVariables false
namespace Go.Ev
def VN (n : IV) : Bool := decide ((NC n).1 = 0)
def PN (n : IV) : Bool := !((asL (fld n 2)).any fun x => decide ((0 : Int) < ((asL (fld x 3)).length : Int) ∨ ¬asI (fld x 4) = 0)) && !((asL (fld n 1)).any fun x => !decide (asI (fld x 2) = 0)) && VN n
def ON (n : IV) : Bool := !((asL (fld n 2)).any fun x => [fld x 1, fld x 2].any fun y => (asL y).any fun z => !decide (asI (fld z 1) = 1)) && VN n
def tgs (l : IV) (i : Nat) : List IV := (List.range i).map fun k => .I (asI (fld ((asL l).getD k .N) 0))
theorem tgs_zero {l : IV} : tgs l 0 = [] := (rfl)
theorem tgs_succ {l : IV} {i : Nat} : tgs l (i + 1) = tgs l i ++ [.I (asI (fld ((asL l).getD i .N) 0))] := by simp [tgs, List.range_succ]
theorem tgs_len {l : IV} {i : Nat} : (tgs l i).length = i := by simp [tgs]
attribute [go_sem] tgs_zero tgs_succ
def KN (b : IV) (t : Int) (l : IV) : Bool := (asL (fld b 1)).any fun x => decide (asI (fld x 0) = t) && SM (fld x 1) l
end Go.Ev
end
section
set_option linter.unusedSimpArgs false
set_option linter.unusedVariables false
set_option maxRecDepth 100000
set_option maxHeartbeats 4000000
namespace Go.Proofs.Ytficdonjodadlaa
open Go.Ev Go.Proofs
theorem AU_has {p : Prop} (h : p := by
  repeat' (first | (with_reducible refine condLt (fun h h' => ?_) (fun h h' => ?_)) | (with_reducible refine condLe (fun h h' => ?_) (fun h h' => ?_)) | (with_reducible refine dop_val ?_) | (with_reducible refine YsLt (fun h h' => ?_) (fun h h' => ?_)) | (with_reducible refine YsLe (fun h h' => ?_) (fun h h' => ?_)) | (with_reducible refine condP (fun h => ?_) (fun h => ?_)) | (with_reducible refine condN (fun h => ?_) (fun h => ?_)) | (with_reducible refine condB (fun h => ?_) (fun h => ?_)) | (with_reducible refine condR (fun h => ?_) (fun h => ?_)) | (with_reducible refine YsB (fun h => ?_) (fun h => ?_)) | (with_reducible refine YsC (fun h => ?_) (fun h => ?_)) | (with_reducible refine Ys_ite (fun h => ?_) (fun h => ?_)) | (intro h) | (with_reducible refine draw_look (by kernel_rfl) (by kernel_rfl) ?_) | (simp (maxDischargeDepth := 9) only [go_sem, Nat.reduceMul, Nat.reduceAdd, Nat.reduceLeDiff, Int.reduceSub, Int.reduceNeg, Int.reduceLT, Int.reduceLE, Int.reduceEq, *]) | (exfalso; omega))) : p := h
theorem has_ans (ext : CallF) (k : Nat) (v : IV) (c : Int) (p : Nat) (hk : maxLen + (2) ≤ k) (hv : Ok v) : ans (tab.run ext k) 76 [.iv p 46 v, .int .i64 c] 0 = some ([.one (.at (.bool ((asL v).any fun x => decide (asI x = c))))], [4]) := by
  obtain ⟨k, rfl⟩ : ∃ k', k = k' + 1 := ⟨k - 1, by omega⟩
  have hk1 : maxLen < k := by omega
  have hk0 : 0 < k := by omega
  refine fn_run (fx := fx76) (m := 15) 17 rfl rfl rfl rfl (fun st hn hg hr => ?_)
  have g0 : st.get (.tmp 0) = .v (.a (.iv p 46 v)) := hg 0 (of_decide_eq_true rfl)
  have g1 : st.get (.tmp 1) = .v (.a (.int .i64 c)) := hg 1 (of_decide_eq_true rfl)
  clear hg hr
  rw [co76]
  simp only [Try.f76, Option.getD_some]
  simp (maxDischargeDepth := 9) only [go_sem, Nat.reduceMul, Nat.reduceAdd, Nat.reduceLeDiff, Int.reduceSub, Int.reduceNeg, Int.reduceLT, Int.reduceLE, Int.reduceEq, *]
  refine gen_st (fun s0 hg hr hn0 => ?_)
  have e1 := hg 1
  have e7 := hg 7
  have e8 := hg 8
  have e9 := hg 9
  clear hg hr
  simp only [go_sem, *] at hn0 e1 e7 e8 e9
  have hl := ok_len hv
  refine nr (runs_for (asL v) (fun (_ : Unit) x => if asI x = c then .ret true else .next ()) () 17 (fun i a => [(1, s0.get (.tmp 1)), (7, s0.get (.tmp 7)), (8, s0.get (.tmp 8)), (9, .v (.a (.int .i64 i)))]) (fun i a => []) (fun i a => True) (by omega) ?_ (trivial) ?_ ?_ ?_ ?_)
  · simp (maxDischargeDepth := 9) only [go_sem, Nat.reduceMul, Nat.reduceAdd, Nat.reduceLeDiff, Int.reduceSub, Int.reduceNeg, Int.reduceLT, Int.reduceLE, Int.reduceEq, *]
  · intro i a; simp (maxDischargeDepth := 9) only [go_sem, Nat.reduceMul, Nat.reduceAdd, Nat.reduceLeDiff, Int.reduceSub, Int.reduceNeg, Int.reduceLT, Int.reduceLE, Int.reduceEq, *]
  · intro i a; simp (maxDischargeDepth := 9) only [go_sem, Nat.reduceMul, Nat.reduceAdd, Nat.reduceLeDiff, Int.reduceSub, Int.reduceNeg, Int.reduceLT, Int.reduceLE, Int.reduceEq, *]
  · intro i x a s hx hi hI hS
    clear hn0 e9
    simp only [go_sem] at hS
    obtain ⟨f1, f7, f8, f9, hn⟩ := hS
    have hw := wrap_succ hi (ok_len hv)
    refine rn ?_
    simp (maxDischargeDepth := 9) only [go_sem, Nat.reduceMul, Nat.reduceAdd, Nat.reduceLeDiff, Int.reduceSub, Int.reduceNeg, Int.reduceLT, Int.reduceLE, Int.reduceEq, *]
    all_goals exact AU_has
  · intro a s hI hf hS
    clear hn0 e9
    simp only [go_sem] at hS
    obtain ⟨f1, f7, f8, f9, hn⟩ := hS
    try simp only [go_sem] at hf
    refine rn ?_
    simp (maxDischargeDepth := 9) only [go_sem, Nat.reduceMul, Nat.reduceAdd, Nat.reduceLeDiff, Int.reduceSub, Int.reduceNeg, Int.reduceLT, Int.reduceLE, Int.reduceEq, *]
    all_goals exact AU_has
theorem AU_rhas {p : Prop} (h : p := by
  repeat' (first | (with_reducible refine condLt (fun h h' => ?_) (fun h h' => ?_)) | (with_reducible refine condLe (fun h h' => ?_) (fun h h' => ?_)) | (with_reducible refine dop_val ?_) | (with_reducible refine YsLt (fun h h' => ?_) (fun h h' => ?_)) | (with_reducible refine YsLe (fun h h' => ?_) (fun h h' => ?_)) | (with_reducible refine condP (fun h => ?_) (fun h => ?_)) | (with_reducible refine condN (fun h => ?_) (fun h => ?_)) | (with_reducible refine condB (fun h => ?_) (fun h => ?_)) | (with_reducible refine condR (fun h => ?_) (fun h => ?_)) | (with_reducible refine YsB (fun h => ?_) (fun h => ?_)) | (with_reducible refine YsC (fun h => ?_) (fun h => ?_)) | (with_reducible refine Ys_ite (fun h => ?_) (fun h => ?_)) | (intro h) | (with_reducible refine draw_look (by kernel_rfl) (by kernel_rfl) ?_) | (simp (maxDischargeDepth := 9) only [go_sem, Nat.reduceMul, Nat.reduceAdd, Nat.reduceLeDiff, Int.reduceSub, Int.reduceNeg, Int.reduceLT, Int.reduceLE, Int.reduceEq, *]) | (exfalso; omega))) : p := h
theorem rhas_ans (ext : CallF) (k : Nat) (v : IV) (c : Int) (p : Nat) (hk : maxLen + (2) ≤ k) (hv : Ok v) : ans (tab.run ext k) 90 [.iv p 46 v, .int .i64 c] 0 = some ([.one (.at (.bool ((asL v).any fun x => decide (asI x = c))))], [4]) := by
  obtain ⟨k, rfl⟩ : ∃ k', k = k' + 1 := ⟨k - 1, by omega⟩
  have hk1 : maxLen < k := by omega
  have hk0 : 0 < k := by omega
  refine fn_run (fx := fx90) (m := 16) 18 rfl rfl rfl rfl (fun st hn hg hr => ?_)
  have g0 : st.get (.tmp 0) = .v (.a (.iv p 46 v)) := hg 0 (of_decide_eq_true rfl)
  have g1 : st.get (.tmp 1) = .v (.a (.int .i64 c)) := hg 1 (of_decide_eq_true rfl)
  clear hg hr
  rw [co90]
  simp only [Try.f90, Option.getD_some]
  rw [← any_range]
  simp (maxDischargeDepth := 9) only [go_sem, Nat.reduceMul, Nat.reduceAdd, Nat.reduceLeDiff, Int.reduceSub, Int.reduceNeg, Int.reduceLT, Int.reduceLE, Int.reduceEq, *]
  refine gen_st (fun s0 hg hr hn0 => ?_)
  have e0 := hg 0
  have e1 := hg 1
  have e5 := hg 5
  clear hg hr
  simp only [go_sem, *] at hn0 e0 e1 e5
  have hl := ok_len hv
  refine nr (runs_forN (asL v).length (fun (_ : Unit) i => if asI ((asL v).getD i .N) = c then .ret true else .next ()) () 18 (fun i a => [(0, s0.get (.tmp 0)), (1, s0.get (.tmp 1)), (5, .v (.a (.int .i64 i)))]) (fun i a => []) (fun i a => True) (by omega) ?_ (trivial) ?_ ?_ ?_ ?_)
  · simp (maxDischargeDepth := 9) only [go_sem, Nat.reduceMul, Nat.reduceAdd, Nat.reduceLeDiff, Int.reduceSub, Int.reduceNeg, Int.reduceLT, Int.reduceLE, Int.reduceEq, *]
  · intro i a; simp (maxDischargeDepth := 9) only [go_sem, Nat.reduceMul, Nat.reduceAdd, Nat.reduceLeDiff, Int.reduceSub, Int.reduceNeg, Int.reduceLT, Int.reduceLE, Int.reduceEq, *]
  · intro i a; simp (maxDischargeDepth := 9) only [go_sem, Nat.reduceMul, Nat.reduceAdd, Nat.reduceLeDiff, Int.reduceSub, Int.reduceNeg, Int.reduceLT, Int.reduceLE, Int.reduceEq, *]
  · intro i a s hi hI hS
    clear hn0 e5
    simp only [go_sem] at hS
    obtain ⟨f0, f1, f5, hn⟩ := hS
    have hw := wrap_succ hi (ok_len hv)
    refine rn ?_
    simp (maxDischargeDepth := 9) only [go_sem, Nat.reduceMul, Nat.reduceAdd, Nat.reduceLeDiff, Int.reduceSub, Int.reduceNeg, Int.reduceLT, Int.reduceLE, Int.reduceEq, *]
    all_goals exact AU_rhas
  · intro a s hI hf hS
    clear hn0 e5
    simp only [go_sem] at hS
    obtain ⟨f0, f1, f5, hn⟩ := hS
    try simp only [go_sem] at hf
    refine rn ?_
    simp (maxDischargeDepth := 9) only [go_sem, Nat.reduceMul, Nat.reduceAdd, Nat.reduceLeDiff, Int.reduceSub, Int.reduceNeg, Int.reduceLT, Int.reduceLE, Int.reduceEq, *]
    all_goals exact AU_rhas
theorem AU_share {p : Prop} (h : p := by
  repeat' (first | (with_reducible refine condLt (fun h h' => ?_) (fun h h' => ?_)) | (with_reducible refine condLe (fun h h' => ?_) (fun h h' => ?_)) | (with_reducible refine dop_val ?_) | (with_reducible refine YsLt (fun h h' => ?_) (fun h h' => ?_)) | (with_reducible refine YsLe (fun h h' => ?_) (fun h h' => ?_)) | (with_reducible refine condP (fun h => ?_) (fun h => ?_)) | (with_reducible refine condN (fun h => ?_) (fun h => ?_)) | (with_reducible refine condB (fun h => ?_) (fun h => ?_)) | (with_reducible refine condR (fun h => ?_) (fun h => ?_)) | (with_reducible refine YsB (fun h => ?_) (fun h => ?_)) | (with_reducible refine YsC (fun h => ?_) (fun h => ?_)) | (with_reducible refine Ys_ite (fun h => ?_) (fun h => ?_)) | (intro h) | (with_reducible refine draw_look (by kernel_rfl) (by kernel_rfl) ?_) | (simp (maxDischargeDepth := 9) only [go_sem, Nat.reduceMul, Nat.reduceAdd, Nat.reduceLeDiff, Int.reduceSub, Int.reduceNeg, Int.reduceLT, Int.reduceLE, Int.reduceEq, *, rhas_ans]) | (exfalso; omega))) : p := h
theorem share_ans (ext : CallF) (k : Nat) (v u : IV) (p q : Nat) (hk : maxLen + (4) ≤ k) (hv : Ok v) (hu : Ok u) : ans (tab.run ext k) 86 [.iv p 46 v, .iv q 46 u] 0 = some ([.one (.at (.bool ((asL v).any fun x => (asL u).any fun y => decide (asI y = asI x))))], [4]) := by
  obtain ⟨k, rfl⟩ : ∃ k', k = k' + 1 := ⟨k - 1, by omega⟩
  have hk1 : maxLen < k := by omega
  have hk0 : 0 < k := by omega
  have hk_0 : maxLen + (2) ≤ k := by omega
  refine fn_run (fx := fx86) (m := 16) 18 rfl rfl rfl rfl (fun st hn hg hr => ?_)
  have g0 : st.get (.tmp 0) = .v (.a (.iv p 46 v)) := hg 0 (of_decide_eq_true rfl)
  have g1 : st.get (.tmp 1) = .v (.a (.iv q 46 u)) := hg 1 (of_decide_eq_true rfl)
  clear hg hr
  rw [co86]
  simp only [Try.f86, Option.getD_some]
  rw [← any_range (p := fun x => (asL u).any fun y => decide (asI y = asI x))]
  simp (maxDischargeDepth := 9) only [go_sem, Nat.reduceMul, Nat.reduceAdd, Nat.reduceLeDiff, Int.reduceSub, Int.reduceNeg, Int.reduceLT, Int.reduceLE, Int.reduceEq, *, rhas_ans]
  refine gen_st (fun s0 hg hr hn0 => ?_)
  have e0 := hg 0
  have e1 := hg 1
  have e5 := hg 5
  clear hg hr
  simp only [go_sem, *] at hn0 e0 e1 e5
  have hl := ok_len hv
  refine nr (runs_forN (asL v).length (fun (_ : Unit) i => if ((asL u).any fun y => decide (asI y = asI ((asL v).getD i .N))) = true then .ret true else .next ()) () 18 (fun i a => [(0, s0.get (.tmp 0)), (1, s0.get (.tmp 1)), (5, .v (.a (.int .i64 i)))]) (fun i a => []) (fun i a => True) (by omega) ?_ (trivial) ?_ ?_ ?_ ?_)
  · simp (maxDischargeDepth := 9) only [go_sem, Nat.reduceMul, Nat.reduceAdd, Nat.reduceLeDiff, Int.reduceSub, Int.reduceNeg, Int.reduceLT, Int.reduceLE, Int.reduceEq, *, rhas_ans]
  · intro i a; simp (maxDischargeDepth := 9) only [go_sem, Nat.reduceMul, Nat.reduceAdd, Nat.reduceLeDiff, Int.reduceSub, Int.reduceNeg, Int.reduceLT, Int.reduceLE, Int.reduceEq, *, rhas_ans]
  · intro i a; simp (maxDischargeDepth := 9) only [go_sem, Nat.reduceMul, Nat.reduceAdd, Nat.reduceLeDiff, Int.reduceSub, Int.reduceNeg, Int.reduceLT, Int.reduceLE, Int.reduceEq, *, rhas_ans]
  · intro i a s hi hI hS
    clear hn0 e5
    simp only [go_sem] at hS
    obtain ⟨f0, f1, f5, hn⟩ := hS
    have hw := wrap_succ hi (ok_len hv)
    refine rn ?_
    simp (maxDischargeDepth := 9) only [go_sem, Nat.reduceMul, Nat.reduceAdd, Nat.reduceLeDiff, Int.reduceSub, Int.reduceNeg, Int.reduceLT, Int.reduceLE, Int.reduceEq, *, rhas_ans]
    all_goals exact AU_share
  · intro a s hI hf hS
    clear hn0 e5
    simp only [go_sem] at hS
    obtain ⟨f0, f1, f5, hn⟩ := hS
    try simp only [go_sem] at hf
    refine rn ?_
    simp (maxDischargeDepth := 9) only [go_sem, Nat.reduceMul, Nat.reduceAdd, Nat.reduceLeDiff, Int.reduceSub, Int.reduceNeg, Int.reduceLT, Int.reduceLE, Int.reduceEq, *, rhas_ans]
    all_goals exact AU_share
end Go.Proofs.Ytficdonjodadlaa
end
section
set_option linter.unusedSimpArgs false
set_option linter.unusedVariables false
set_option maxRecDepth 100000
set_option maxHeartbeats 4000000
namespace Go.Proofs.Ytficdonjodadlaa
open Go.Ev Go.Proofs
theorem AU_founded {p : Prop} (h : p := by
  repeat' (first | (with_reducible refine condLt (fun h h' => ?_) (fun h h' => ?_)) | (with_reducible refine condLe (fun h h' => ?_) (fun h h' => ?_)) | (with_reducible refine dop_val ?_) | (with_reducible refine YsLt (fun h h' => ?_) (fun h h' => ?_)) | (with_reducible refine YsLe (fun h h' => ?_) (fun h h' => ?_)) | (with_reducible refine condP (fun h => ?_) (fun h => ?_)) | (with_reducible refine condN (fun h => ?_) (fun h => ?_)) | (with_reducible refine condB (fun h => ?_) (fun h => ?_)) | (with_reducible refine condR (fun h => ?_) (fun h => ?_)) | (with_reducible refine YsB (fun h => ?_) (fun h => ?_)) | (with_reducible refine YsC (fun h => ?_) (fun h => ?_)) | (with_reducible refine Ys_ite (fun h => ?_) (fun h => ?_)) | (intro h) | (with_reducible refine draw_look (by kernel_rfl) (by kernel_rfl) ?_) | (simp (maxDischargeDepth := 9) only [go_sem, Nat.reduceMul, Nat.reduceAdd, Nat.reduceLeDiff, Int.reduceSub, Int.reduceNeg, Int.reduceLT, Int.reduceLE, Int.reduceEq, *]) | (exfalso; omega))) : p := h
theorem founded_ans (ext : CallF) (k : Nat) (b : IV) (p : Nat) (hk : maxLen + (2) ≤ k) (hb : Ok b) : ans (tab.run ext k) 54 [.iv p 29 b] 3 = some ([.one (.at (.bool (FD b)))], [4]) := by
  obtain ⟨k, rfl⟩ : ∃ k', k = k' + 1 := ⟨k - 1, by omega⟩
  have hk1 : maxLen < k := by omega
  have hk0 : 0 < k := by omega
  refine fn_run (fx := fx54) (m := 63) 64 rfl rfl rfl rfl (fun st hn hg hr => ?_)
  have g0 : st.get (.tmp 0) = .v (.a (.iv p 29 b)) := hg 0 (of_decide_eq_true rfl)
  have r0 := hr 0
  have r1 := hr 1
  have r2 := hr 2
  clear hg hr
  rw [co54]
  simp only [Try.f54, Option.getD_some]
  unfold FD
  simp (maxDischargeDepth := 9) only [go_sem, Nat.reduceMul, Nat.reduceAdd, Nat.reduceLeDiff, Int.reduceSub, Int.reduceNeg, Int.reduceLT, Int.reduceLE, Int.reduceEq, *]
  refine gen_st (fun s0 hg hr hn0 => ?_)
  have e1 := hg 1
  have e10 := hg 10
  have e11 := hg 11
  have e12 := hg 12
  have q0 := hr 0
  clear hg hr
  simp only [go_sem, *] at hn0 e1 e10 e11 e12 q0
  have hl0 := ok_len (ok_fld (j := 0) hb)
  refine nr (runs_for (asL (fld b 0)) (fun (_ : Unit) x => if asI (fld x 1) < -1 ∨ ((asL (fld b 1)).length : Int) ≤ asI (fld x 1) then .ret false else .next ()) () 64 (fun i a => [(1, s0.get (.tmp 1)), (10, s0.get (.tmp 10)), (11, s0.get (.tmp 11)), (12, .v (.a (.int .i64 i)))]) (fun i a => [(0, s0.row 0)]) (fun i a => True) (by omega) ?_ (trivial) ?_ ?_ ?_ ?_)
  · simp (maxDischargeDepth := 9) only [go_sem, Nat.reduceMul, Nat.reduceAdd, Nat.reduceLeDiff, Int.reduceSub, Int.reduceNeg, Int.reduceLT, Int.reduceLE, Int.reduceEq, *]
  · intro i a; simp (maxDischargeDepth := 9) only [go_sem, Nat.reduceMul, Nat.reduceAdd, Nat.reduceLeDiff, Int.reduceSub, Int.reduceNeg, Int.reduceLT, Int.reduceLE, Int.reduceEq, *]
  · intro i a; simp (maxDischargeDepth := 9) only [go_sem, Nat.reduceMul, Nat.reduceAdd, Nat.reduceLeDiff, Int.reduceSub, Int.reduceNeg, Int.reduceLT, Int.reduceLE, Int.reduceEq, *]
  · intro i x a s hx hi hI hS
    clear hn0 e12
    simp only [go_sem] at hS
    obtain ⟨f1, f10, f11, f12, m0, hn⟩ := hS
    have hw := wrap_succ hi (ok_len (ok_fld hb))
    refine rn ?_
    simp (maxDischargeDepth := 9) only [go_sem, Nat.reduceMul, Nat.reduceAdd, Nat.reduceLeDiff, Int.reduceSub, Int.reduceNeg, Int.reduceLT, Int.reduceLE, Int.reduceEq, *]
    all_goals exact AU_founded
  · intro a s hI hf hS
    clear hn0 e12
    simp only [go_sem] at hS
    obtain ⟨f1, f10, f11, f12, m0, hn⟩ := hS
    try simp only [go_sem] at hf
    refine rn ?_
    simp (maxDischargeDepth := 9) only [go_sem, Nat.reduceMul, Nat.reduceAdd, Nat.reduceLeDiff, Int.reduceSub, Int.reduceNeg, Int.reduceLT, Int.reduceLE, Int.reduceEq, *]
    refine gen_st (fun s0 hg hr hn0 => ?_)
    have e1 := hg 1
    have e29 := hg 29
    have e30 := hg 30
    have e31 := hg 31
    have q0 := hr 0
    clear hg hr
    simp only [go_sem, *] at hn0 e1 e29 e30 e31 q0
    have hl1 := ok_len (ok_fld (j := 1) hb)
    refine nr (runs_forN (asL (fld b 1)).length (fun (_ : Unit) i => if ((asL (fld ((asL (fld b 1)).getD i .N) 1)).any fun x => decide (asI x < 0 ∨ ((asL (fld b 0)).length : Int) ≤ asI x ∨ (i : Int) ≤ asI (fld (el (asL (fld b 0)) (asI x)) 1))) = true then .ret false else .next ()) () 64 (fun i a => [(1, s0.get (.tmp 1)), (29, s0.get (.tmp 29)), (30, s0.get (.tmp 30)), (31, .v (.a (.int .i64 i)))]) (fun i a => [(0, s0.row 0)]) (fun i a => True) (by omega) ?_ (trivial) ?_ ?_ ?_ ?_)
    · simp (maxDischargeDepth := 9) only [go_sem, Nat.reduceMul, Nat.reduceAdd, Nat.reduceLeDiff, Int.reduceSub, Int.reduceNeg, Int.reduceLT, Int.reduceLE, Int.reduceEq, *]
    · intro i a; simp (maxDischargeDepth := 9) only [go_sem, Nat.reduceMul, Nat.reduceAdd, Nat.reduceLeDiff, Int.reduceSub, Int.reduceNeg, Int.reduceLT, Int.reduceLE, Int.reduceEq, *]
    · intro i a; simp (maxDischargeDepth := 9) only [go_sem, Nat.reduceMul, Nat.reduceAdd, Nat.reduceLeDiff, Int.reduceSub, Int.reduceNeg, Int.reduceLT, Int.reduceLE, Int.reduceEq, *]
    · intro i a s hi hI hS
      clear hn0 e31
      simp only [go_sem] at hS
      obtain ⟨f1, f29, f30, f31, m0, hn⟩ := hS
      have hw := wrap_succ hi (ok_len (ok_fld hb))
      refine rn ?_
      simp (maxDischargeDepth := 9) only [go_sem, Nat.reduceMul, Nat.reduceAdd, Nat.reduceLeDiff, Int.reduceSub, Int.reduceNeg, Int.reduceLT, Int.reduceLE, Int.reduceEq, *]
      refine gen_st (fun s0 hg hr hn0 => ?_)
      have e1 := hg 1
      have e5 := hg 5
      have e6 := hg 6
      have e29 := hg 29
      have e30 := hg 30
      have e31 := hg 31
      have e32 := hg 32
      have e33 := hg 33
      have e34 := hg 34
      have e35 := hg 35
      have e36 := hg 36
      have e37 := hg 37
      have e38 := hg 38
      have e39 := hg 39
      have q0 := hr 0
      have q2 := hr 2
      clear hg hr
      simp only [go_sem, *] at hn0 e1 e5 e6 e29 e30 e31 e32 e33 e34 e35 e36 e37 e38 e39 q0 q2
      have hl2 := ok_len (ok_fld (j := 1) (ok_getD (i := i) (ok_fld (j := 1) hb)))
      refine nr (runs_for (asL (fld ((asL (fld b 1)).getD i .N) 1)) (fun (_ : Unit) x => if asI x < 0 ∨ ((asL (fld b 0)).length : Int) ≤ asI x ∨ (i : Int) ≤ asI (fld (el (asL (fld b 0)) (asI x)) 1) then .ret false else .next ()) () 64 (fun i2 a => [(1, s0.get (.tmp 1)), (5, s0.get (.tmp 5)), (6, s0.get (.tmp 6)), (29, s0.get (.tmp 29)), (30, s0.get (.tmp 30)), (31, s0.get (.tmp 31)), (32, s0.get (.tmp 32)), (33, s0.get (.tmp 33)), (34, s0.get (.tmp 34)), (35, s0.get (.tmp 35)), (36, s0.get (.tmp 36)), (37, s0.get (.tmp 37)), (38, s0.get (.tmp 38)), (39, .v (.a (.int .i64 i2)))]) (fun i2 a => [(0, s0.row 0), (2, s0.row 2)]) (fun i2 a => True) (by omega) ?_ (trivial) ?_ ?_ ?_ ?_)
      · simp (maxDischargeDepth := 9) only [go_sem, Nat.reduceMul, Nat.reduceAdd, Nat.reduceLeDiff, Int.reduceSub, Int.reduceNeg, Int.reduceLT, Int.reduceLE, Int.reduceEq, *]
      · intro i a; simp (maxDischargeDepth := 9) only [go_sem, Nat.reduceMul, Nat.reduceAdd, Nat.reduceLeDiff, Int.reduceSub, Int.reduceNeg, Int.reduceLT, Int.reduceLE, Int.reduceEq, *]
      · intro i a; simp (maxDischargeDepth := 9) only [go_sem, Nat.reduceMul, Nat.reduceAdd, Nat.reduceLeDiff, Int.reduceSub, Int.reduceNeg, Int.reduceLT, Int.reduceLE, Int.reduceEq, *]
      · intro i2 x a s hx hi hI hS
        clear hn0 e39
        simp only [go_sem] at hS
        obtain ⟨f1, f5, f6, f29, f30, f31, f32, f33, f34, f35, f36, f37, f38, f39, m0, m2, hn⟩ := hS
        have hw := wrap_succ hi (hl2)
        refine rn ?_
        simp (maxDischargeDepth := 9) only [go_sem, Nat.reduceMul, Nat.reduceAdd, Nat.reduceLeDiff, Int.reduceSub, Int.reduceNeg, Int.reduceLT, Int.reduceLE, Int.reduceEq, *]
        all_goals exact AU_founded
      · intro a s hI hf hS
        clear hn0 e39
        simp only [go_sem] at hS
        obtain ⟨f1, f5, f6, f29, f30, f31, f32, f33, f34, f35, f36, f37, f38, f39, m0, m2, hn⟩ := hS
        try simp only [go_sem] at hf
        refine rn ?_
        simp (maxDischargeDepth := 9) only [go_sem, Nat.reduceMul, Nat.reduceAdd, Nat.reduceLeDiff, Int.reduceSub, Int.reduceNeg, Int.reduceLT, Int.reduceLE, Int.reduceEq, *]
        all_goals exact AU_founded
    · intro a s hI hf hS
      clear hn0 e31
      simp only [go_sem] at hS
      obtain ⟨f1, f29, f30, f31, m0, hn⟩ := hS
      try simp only [go_sem] at hf
      refine rn ?_
      simp (maxDischargeDepth := 9) only [go_sem, Nat.reduceMul, Nat.reduceAdd, Nat.reduceLeDiff, Int.reduceSub, Int.reduceNeg, Int.reduceLT, Int.reduceLE, Int.reduceEq, *]
      all_goals exact AU_founded
end Go.Proofs.Ytficdonjodadlaa
end
section
set_option linter.unusedSimpArgs false
set_option linter.unusedVariables false
set_option maxRecDepth 100000
set_option maxHeartbeats 4000000
namespace Go.Proofs.Ytficdonjodadlaa
open Go.Ev Go.Proofs
theorem AU_rfounded {p : Prop} (h : p := by
  repeat' (first | (with_reducible refine condLt (fun h h' => ?_) (fun h h' => ?_)) | (with_reducible refine condLe (fun h h' => ?_) (fun h h' => ?_)) | (with_reducible refine dop_val ?_) | (with_reducible refine YsLt (fun h h' => ?_) (fun h h' => ?_)) | (with_reducible refine YsLe (fun h h' => ?_) (fun h h' => ?_)) | (with_reducible refine condP (fun h => ?_) (fun h => ?_)) | (with_reducible refine condN (fun h => ?_) (fun h => ?_)) | (with_reducible refine condB (fun h => ?_) (fun h => ?_)) | (with_reducible refine condR (fun h => ?_) (fun h => ?_)) | (with_reducible refine YsB (fun h => ?_) (fun h => ?_)) | (with_reducible refine YsC (fun h => ?_) (fun h => ?_)) | (with_reducible refine Ys_ite (fun h => ?_) (fun h => ?_)) | (intro h) | (with_reducible refine draw_look (by kernel_rfl) (by kernel_rfl) ?_) | (simp (maxDischargeDepth := 9) only [go_sem, Nat.reduceMul, Nat.reduceAdd, Nat.reduceLeDiff, Int.reduceSub, Int.reduceNeg, Int.reduceLT, Int.reduceLE, Int.reduceEq, *]) | (exfalso; omega))) : p := h
theorem rfounded_ans (ext : CallF) (k : Nat) (b : IV) (p : Nat) (hk : maxLen + (2) ≤ k) (hb : Ok b) : ans (tab.run ext k) 56 [.iv p 29 b] 1 = some ([.one (.at (.bool (FD b)))], [4]) := by
  obtain ⟨k, rfl⟩ : ∃ k', k = k' + 1 := ⟨k - 1, by omega⟩
  have hk1 : maxLen < k := by omega
  have hk0 : 0 < k := by omega
  refine fn_run (fx := fx56) (m := 78) 79 rfl rfl rfl rfl (fun st hn hg hr => ?_)
  have g0 : st.get (.tmp 0) = .v (.a (.iv p 29 b)) := hg 0 (of_decide_eq_true rfl)
  have r0 := hr 0
  clear hg hr
  rw [co56]
  simp only [Try.f56, Option.getD_some]
  unfold FD
  simp (maxDischargeDepth := 9) only [go_sem, Nat.reduceMul, Nat.reduceAdd, Nat.reduceLeDiff, Int.reduceSub, Int.reduceNeg, Int.reduceLT, Int.reduceLE, Int.reduceEq, *]
  refine gen_st (fun s0 hg hr hn0 => ?_)
  have e1 := hg 1
  have e3 := hg 3
  have q0 := hr 0
  clear hg hr
  simp only [go_sem, *] at hn0 e1 e3 q0
  have hl0 := ok_len (ok_fld (j := 0) hb)
  refine nr (runs_for (asL (fld b 0)) (fun (_ : Unit) x => if asI (fld x 1) < -1 ∨ ((asL (fld b 1)).length : Int) ≤ asI (fld x 1) then .ret false else .next ()) () 79 (fun i a => [(1, s0.get (.tmp 1)), (3, .v (.a (.int .i64 i)))]) (fun i a => [(0, s0.row 0)]) (fun i a => True) (by omega) ?_ (trivial) ?_ ?_ ?_ ?_)
  · simp (maxDischargeDepth := 9) only [go_sem, Nat.reduceMul, Nat.reduceAdd, Nat.reduceLeDiff, Int.reduceSub, Int.reduceNeg, Int.reduceLT, Int.reduceLE, Int.reduceEq, *]
  · intro i a; simp (maxDischargeDepth := 9) only [go_sem, Nat.reduceMul, Nat.reduceAdd, Nat.reduceLeDiff, Int.reduceSub, Int.reduceNeg, Int.reduceLT, Int.reduceLE, Int.reduceEq, *]
  · intro i a; simp (maxDischargeDepth := 9) only [go_sem, Nat.reduceMul, Nat.reduceAdd, Nat.reduceLeDiff, Int.reduceSub, Int.reduceNeg, Int.reduceLT, Int.reduceLE, Int.reduceEq, *]
  · intro i x a s hx hi hI hS
    clear hn0 e3
    simp only [go_sem] at hS
    obtain ⟨f1, f3, m0, hn⟩ := hS
    have hw := wrap_succ hi (ok_len (ok_fld hb))
    refine rn ?_
    simp (maxDischargeDepth := 9) only [go_sem, Nat.reduceMul, Nat.reduceAdd, Nat.reduceLeDiff, Int.reduceSub, Int.reduceNeg, Int.reduceLT, Int.reduceLE, Int.reduceEq, *]
    all_goals exact AU_rfounded
  · intro a s hI hf hS
    clear hn0 e3
    simp only [go_sem] at hS
    obtain ⟨f1, f3, m0, hn⟩ := hS
    try simp only [go_sem] at hf
    refine rn ?_
    simp (maxDischargeDepth := 9) only [go_sem, Nat.reduceMul, Nat.reduceAdd, Nat.reduceLeDiff, Int.reduceSub, Int.reduceNeg, Int.reduceLT, Int.reduceLE, Int.reduceEq, *]
    refine gen_st (fun s0 hg hr hn0 => ?_)
    have e1 := hg 1
    have e4 := hg 4
    have q0 := hr 0
    clear hg hr
    simp only [go_sem, *] at hn0 e1 e4 q0
    have hl1 := ok_len (ok_fld (j := 1) hb)
    refine nr (runs_forN (asL (fld b 1)).length (fun (_ : Unit) i => if ((asL (fld ((asL (fld b 1)).getD i .N) 1)).any fun x => decide (asI x < 0 ∨ ((asL (fld b 0)).length : Int) ≤ asI x ∨ (i : Int) ≤ asI (fld (el (asL (fld b 0)) (asI x)) 1))) = true then .ret false else .next ()) () 79 (fun i a => [(1, s0.get (.tmp 1)), (4, .v (.a (.int .i64 i)))]) (fun i a => [(0, s0.row 0)]) (fun i a => True) (by omega) ?_ (trivial) ?_ ?_ ?_ ?_)
    · simp (maxDischargeDepth := 9) only [go_sem, Nat.reduceMul, Nat.reduceAdd, Nat.reduceLeDiff, Int.reduceSub, Int.reduceNeg, Int.reduceLT, Int.reduceLE, Int.reduceEq, *]
    · intro i a; simp (maxDischargeDepth := 9) only [go_sem, Nat.reduceMul, Nat.reduceAdd, Nat.reduceLeDiff, Int.reduceSub, Int.reduceNeg, Int.reduceLT, Int.reduceLE, Int.reduceEq, *]
    · intro i a; simp (maxDischargeDepth := 9) only [go_sem, Nat.reduceMul, Nat.reduceAdd, Nat.reduceLeDiff, Int.reduceSub, Int.reduceNeg, Int.reduceLT, Int.reduceLE, Int.reduceEq, *]
    · intro i a s hi hI hS
      clear hn0 e4
      simp only [go_sem] at hS
      obtain ⟨f1, f4, m0, hn⟩ := hS
      have hw := wrap_succ hi (ok_len (ok_fld hb))
      refine rn ?_
      simp (maxDischargeDepth := 9) only [go_sem, Nat.reduceMul, Nat.reduceAdd, Nat.reduceLeDiff, Int.reduceSub, Int.reduceNeg, Int.reduceLT, Int.reduceLE, Int.reduceEq, *]
      refine gen_st (fun s0 hg hr hn0 => ?_)
      have e1 := hg 1
      have e4 := hg 4
      have e33 := hg 33
      have e34 := hg 34
      have e35 := hg 35
      have e36 := hg 36
      have e37 := hg 37
      have e5 := hg 5
      have q0 := hr 0
      clear hg hr
      simp only [go_sem, *] at hn0 e1 e4 e33 e34 e35 e36 e37 e5 q0
      have hl2 := ok_len (ok_fld (j := 1) (ok_getD (i := i) (ok_fld (j := 1) hb)))
      refine nr (runs_for (asL (fld ((asL (fld b 1)).getD i .N) 1)) (fun (_ : Unit) x => if asI x < 0 ∨ ((asL (fld b 0)).length : Int) ≤ asI x ∨ (i : Int) ≤ asI (fld (el (asL (fld b 0)) (asI x)) 1) then .ret false else .next ()) () 79 (fun i2 a => [(1, s0.get (.tmp 1)), (4, s0.get (.tmp 4)), (33, s0.get (.tmp 33)), (34, s0.get (.tmp 34)), (35, s0.get (.tmp 35)), (36, s0.get (.tmp 36)), (37, s0.get (.tmp 37)), (5, .v (.a (.int .i64 i2)))]) (fun i2 a => [(0, s0.row 0)]) (fun i2 a => True) (by omega) ?_ (trivial) ?_ ?_ ?_ ?_)
      · simp (maxDischargeDepth := 9) only [go_sem, Nat.reduceMul, Nat.reduceAdd, Nat.reduceLeDiff, Int.reduceSub, Int.reduceNeg, Int.reduceLT, Int.reduceLE, Int.reduceEq, *]
      · intro i a; simp (maxDischargeDepth := 9) only [go_sem, Nat.reduceMul, Nat.reduceAdd, Nat.reduceLeDiff, Int.reduceSub, Int.reduceNeg, Int.reduceLT, Int.reduceLE, Int.reduceEq, *]
      · intro i a; simp (maxDischargeDepth := 9) only [go_sem, Nat.reduceMul, Nat.reduceAdd, Nat.reduceLeDiff, Int.reduceSub, Int.reduceNeg, Int.reduceLT, Int.reduceLE, Int.reduceEq, *]
      · intro i2 x a s hx hi hI hS
        clear hn0 e5
        simp only [go_sem] at hS
        obtain ⟨f1, f4, f33, f34, f35, f36, f37, f5, m0, hn⟩ := hS
        have hw := wrap_succ hi (hl2)
        refine rn ?_
        simp (maxDischargeDepth := 9) only [go_sem, Nat.reduceMul, Nat.reduceAdd, Nat.reduceLeDiff, Int.reduceSub, Int.reduceNeg, Int.reduceLT, Int.reduceLE, Int.reduceEq, *]
        all_goals exact AU_rfounded
      · intro a s hI hf hS
        clear hn0 e5
        simp only [go_sem] at hS
        obtain ⟨f1, f4, f33, f34, f35, f36, f37, f5, m0, hn⟩ := hS
        try simp only [go_sem] at hf
        refine rn ?_
        simp (maxDischargeDepth := 9) only [go_sem, Nat.reduceMul, Nat.reduceAdd, Nat.reduceLeDiff, Int.reduceSub, Int.reduceNeg, Int.reduceLT, Int.reduceLE, Int.reduceEq, *]
        all_goals exact AU_rfounded
    · intro a s hI hf hS
      clear hn0 e4
      simp only [go_sem] at hS
      obtain ⟨f1, f4, m0, hn⟩ := hS
      try simp only [go_sem] at hf
      refine rn ?_
      simp (maxDischargeDepth := 9) only [go_sem, Nat.reduceMul, Nat.reduceAdd, Nat.reduceLeDiff, Int.reduceSub, Int.reduceNeg, Int.reduceLT, Int.reduceLE, Int.reduceEq, *]
      all_goals exact AU_rfounded
theorem inside_ans (ext : CallF) (k : Nat) (b : IV) (e : Int) (p : Nat) (hk : maxLen + (4) ≤ k) (hb : Ok b) : ans (tab.run ext k) 58 [.iv p 29 b, .int .i64 e] 1 = some ([.one (.at (.bool (IN b e)))], [4]) := by
  obtain ⟨k, rfl⟩ : ∃ k', k = k' + 1 := ⟨k - 1, by omega⟩
  have hk1 : maxLen < k := by omega
  have hk0 : 0 < k := by omega
  have hk_0 : maxLen + (2) ≤ k := by omega
  refine fn_run (fx := fx58) (m := 16) 18 rfl rfl rfl rfl (fun st hn hg hr => ?_)
  have g0 : st.get (.tmp 0) = .v (.a (.iv p 29 b)) := hg 0 (of_decide_eq_true rfl)
  have g1 : st.get (.tmp 1) = .v (.a (.int .i64 e)) := hg 1 (of_decide_eq_true rfl)
  have r0 := hr 0
  clear hg hr
  rw [co58]
  simp only [Try.f58, Option.getD_some]
  unfold IN
  simp (maxDischargeDepth := 9) only [go_sem, Nat.reduceMul, Nat.reduceAdd, Nat.reduceLeDiff, Int.reduceSub, Int.reduceNeg, Int.reduceLT, Int.reduceLE, Int.reduceEq, *, founded_ans]
  repeat' (first | (with_reducible refine condLt (fun h h' => ?_) (fun h h' => ?_)) | (with_reducible refine condLe (fun h h' => ?_) (fun h h' => ?_)) | (with_reducible refine dop_val ?_) | (with_reducible refine YsLt (fun h h' => ?_) (fun h h' => ?_)) | (with_reducible refine YsLe (fun h h' => ?_) (fun h h' => ?_)) | (with_reducible refine condP (fun h => ?_) (fun h => ?_)) | (with_reducible refine condN (fun h => ?_) (fun h => ?_)) | (with_reducible refine condB (fun h => ?_) (fun h => ?_)) | (with_reducible refine condR (fun h => ?_) (fun h => ?_)) | (with_reducible refine YsB (fun h => ?_) (fun h => ?_)) | (with_reducible refine YsC (fun h => ?_) (fun h => ?_)) | (with_reducible refine Ys_ite (fun h => ?_) (fun h => ?_)) | (intro h) | (with_reducible refine draw_look (by kernel_rfl) (by kernel_rfl) ?_) | (simp (maxDischargeDepth := 9) only [go_sem, Nat.reduceMul, Nat.reduceAdd, Nat.reduceLeDiff, Int.reduceSub, Int.reduceNeg, Int.reduceLT, Int.reduceLE, Int.reduceEq, *, founded_ans]) | (exfalso; omega))
end Go.Proofs.Ytficdonjodadlaa
end
section
set_option linter.unusedSimpArgs false
set_option linter.unusedVariables false
set_option maxRecDepth 100000
set_option maxHeartbeats 4000000
namespace Go.Proofs.Ytficdonjodadlaa
open Go.Ev Go.Proofs
theorem AU_lsame {p : Prop} (h : p := by
  repeat' (first | (with_reducible refine condLt (fun h h' => ?_) (fun h h' => ?_)) | (with_reducible refine condLe (fun h h' => ?_) (fun h h' => ?_)) | (with_reducible refine dop_val ?_) | (with_reducible refine YsLt (fun h h' => ?_) (fun h h' => ?_)) | (with_reducible refine YsLe (fun h h' => ?_) (fun h h' => ?_)) | (with_reducible refine condP (fun h => ?_) (fun h => ?_)) | (with_reducible refine condN (fun h => ?_) (fun h => ?_)) | (with_reducible refine condB (fun h => ?_) (fun h => ?_)) | (with_reducible refine condR (fun h => ?_) (fun h => ?_)) | (with_reducible refine YsB (fun h => ?_) (fun h => ?_)) | (with_reducible refine YsC (fun h => ?_) (fun h => ?_)) | (with_reducible refine Ys_ite (fun h => ?_) (fun h => ?_)) | (intro h) | (with_reducible refine draw_look (by kernel_rfl) (by kernel_rfl) ?_) | (simp (maxDischargeDepth := 9) only [go_sem, Nat.reduceMul, Nat.reduceAdd, Nat.reduceLeDiff, Int.reduceSub, Int.reduceNeg, Int.reduceLT, Int.reduceLE, Int.reduceEq, *]) | (exfalso; omega))) : p := h
theorem lsame_ans (ext : CallF) (k : Nat) (v u : IV) (p q : Nat) (hk : maxLen + (2) ≤ k) (hv : Ok v) : ans (tab.run ext k) 31 [.iv p 46 v, .iv q 46 u] 0 = some ([.one (.at (.bool (SM v u)))], [4]) := by
  obtain ⟨k, rfl⟩ : ∃ k', k = k' + 1 := ⟨k - 1, by omega⟩
  have hk1 : maxLen < k := by omega
  have hk0 : 0 < k := by omega
  refine fn_run (fx := fx31) (m := 24) 26 rfl rfl rfl rfl (fun st hn hg hr => ?_)
  have g0 : st.get (.tmp 0) = .v (.a (.iv p 46 v)) := hg 0 (of_decide_eq_true rfl)
  have g1 : st.get (.tmp 1) = .v (.a (.iv q 46 u)) := hg 1 (of_decide_eq_true rfl)
  clear hg hr
  rw [co31]
  simp only [Try.f31, Option.getD_some]
  unfold SM
  simp (maxDischargeDepth := 9) only [go_sem, Nat.reduceMul, Nat.reduceAdd, Nat.reduceLeDiff, Int.reduceSub, Int.reduceNeg, Int.reduceLT, Int.reduceLE, Int.reduceEq, *]
  refine condN (fun h => ?_) (fun heq => ?_)
  · simp (maxDischargeDepth := 9) only [go_sem, Nat.reduceMul, Nat.reduceAdd, Nat.reduceLeDiff, Int.reduceSub, Int.reduceNeg, Int.reduceLT, Int.reduceLE, Int.reduceEq, *]
  have heq2 : (asL u).length = (asL v).length := by simpa using Eq.symm heq
  clear heq
  simp (maxDischargeDepth := 9) only [go_sem, Nat.reduceMul, Nat.reduceAdd, Nat.reduceLeDiff, Int.reduceSub, Int.reduceNeg, Int.reduceLT, Int.reduceLE, Int.reduceEq, *]
  refine gen_st (fun s0 hg hr hn0 => ?_)
  have e0 := hg 0
  have e1 := hg 1
  have e5 := hg 5
  clear hg hr
  simp only [go_sem, *] at hn0 e0 e1 e5
  have hl := ok_len hv
  refine nr (runs_forN (asL v).length (fun (_ : Unit) i => if asI ((asL v).getD i .N) = asI ((asL u).getD i .N) then .next () else .ret false) () 26 (fun i a => [(0, s0.get (.tmp 0)), (1, s0.get (.tmp 1)), (5, .v (.a (.int .i64 i)))]) (fun i a => []) (fun i a => True) (by omega) ?_ (trivial) ?_ ?_ ?_ ?_)
  · simp (maxDischargeDepth := 9) only [go_sem, Nat.reduceMul, Nat.reduceAdd, Nat.reduceLeDiff, Int.reduceSub, Int.reduceNeg, Int.reduceLT, Int.reduceLE, Int.reduceEq, *]
  · intro i a; simp (maxDischargeDepth := 9) only [go_sem, Nat.reduceMul, Nat.reduceAdd, Nat.reduceLeDiff, Int.reduceSub, Int.reduceNeg, Int.reduceLT, Int.reduceLE, Int.reduceEq, *]
  · intro i a; simp (maxDischargeDepth := 9) only [go_sem, Nat.reduceMul, Nat.reduceAdd, Nat.reduceLeDiff, Int.reduceSub, Int.reduceNeg, Int.reduceLT, Int.reduceLE, Int.reduceEq, *]
  · intro i a s hi hI hS
    clear hn0 e5
    simp only [go_sem] at hS
    obtain ⟨f0, f1, f5, hn⟩ := hS
    have hw := wrap_succ hi (ok_len hv)
    refine rn ?_
    simp (maxDischargeDepth := 9) only [go_sem, Nat.reduceMul, Nat.reduceAdd, Nat.reduceLeDiff, Int.reduceSub, Int.reduceNeg, Int.reduceLT, Int.reduceLE, Int.reduceEq, *]
    all_goals exact AU_lsame
  · intro a s hI hf hS
    clear hn0 e5
    simp only [go_sem] at hS
    obtain ⟨f0, f1, f5, hn⟩ := hS
    try simp only [go_sem] at hf
    refine rn ?_
    simp (maxDischargeDepth := 9) only [go_sem, Nat.reduceMul, Nat.reduceAdd, Nat.reduceLeDiff, Int.reduceSub, Int.reduceNeg, Int.reduceLT, Int.reduceLE, Int.reduceEq, *]
    all_goals exact AU_lsame
theorem AU_large {p : Prop} (h : p := by
  repeat' (first | (with_reducible refine condLt (fun h h' => ?_) (fun h h' => ?_)) | (with_reducible refine condLe (fun h h' => ?_) (fun h h' => ?_)) | (with_reducible refine dop_val ?_) | (with_reducible refine YsLt (fun h h' => ?_) (fun h h' => ?_)) | (with_reducible refine YsLe (fun h h' => ?_) (fun h h' => ?_)) | (with_reducible refine condP (fun h => ?_) (fun h => ?_)) | (with_reducible refine condN (fun h => ?_) (fun h => ?_)) | (with_reducible refine condB (fun h => ?_) (fun h => ?_)) | (with_reducible refine condR (fun h => ?_) (fun h => ?_)) | (with_reducible refine YsB (fun h => ?_) (fun h => ?_)) | (with_reducible refine YsC (fun h => ?_) (fun h => ?_)) | (with_reducible refine Ys_ite (fun h => ?_) (fun h => ?_)) | (intro h) | (with_reducible refine draw_look (by kernel_rfl) (by kernel_rfl) ?_) | (simp (maxDischargeDepth := 9) only [go_sem, Nat.reduceMul, Nat.reduceAdd, Nat.reduceLeDiff, Int.reduceSub, Int.reduceNeg, Int.reduceLT, Int.reduceLE, Int.reduceEq, *]) | (exfalso; omega))) : p := h
theorem large_ans (ext : CallF) (k : Nat) (b : IV) (p : Nat) (hk : maxLen + (2) ≤ k) (hb : Ok b) : ans (tab.run ext k) 11 [.iv p 29 b] 1 = some ([.one (.at (.bool (LG b)))], [4]) := by
  obtain ⟨k, rfl⟩ : ∃ k', k = k' + 1 := ⟨k - 1, by omega⟩
  have hk1 : maxLen < k := by omega
  have hk0 : 0 < k := by omega
  refine fn_run (fx := fx11) (m := 38) 39 rfl rfl rfl rfl (fun st hn hg hr => ?_)
  have g0 : st.get (.tmp 0) = .v (.a (.iv p 29 b)) := hg 0 (of_decide_eq_true rfl)
  have r0 := hr 0
  clear hg hr
  rw [co11]
  simp only [Try.f11, Option.getD_some]
  unfold LG
  simp (maxDischargeDepth := 9) only [go_sem, Nat.reduceMul, Nat.reduceAdd, Nat.reduceLeDiff, Int.reduceSub, Int.reduceNeg, Int.reduceLT, Int.reduceLE, Int.reduceEq, *]
  repeat' (first | (with_reducible refine condLt (fun h h' => ?_) (fun h h' => ?_)) | (with_reducible refine condLe (fun h h' => ?_) (fun h h' => ?_)) | (with_reducible refine dop_val ?_) | (with_reducible refine YsLt (fun h h' => ?_) (fun h h' => ?_)) | (with_reducible refine YsLe (fun h h' => ?_) (fun h h' => ?_)) | (with_reducible refine condP (fun h => ?_) (fun h => ?_)) | (with_reducible refine condN (fun h => ?_) (fun h => ?_)) | (with_reducible refine condB (fun h => ?_) (fun h => ?_)) | (with_reducible refine condR (fun h => ?_) (fun h => ?_)) | (with_reducible refine YsB (fun h => ?_) (fun h => ?_)) | (with_reducible refine YsC (fun h => ?_) (fun h => ?_)) | (with_reducible refine Ys_ite (fun h => ?_) (fun h => ?_)) | (intro h) | (with_reducible refine draw_look (by kernel_rfl) (by kernel_rfl) ?_) | (simp (maxDischargeDepth := 9) only [go_sem, Nat.reduceMul, Nat.reduceAdd, Nat.reduceLeDiff, Int.reduceSub, Int.reduceNeg, Int.reduceLT, Int.reduceLE, Int.reduceEq, *]) | (exfalso; omega))
  refine gen_st (fun s0 hg hr hn0 => ?_)
  have e1 := hg 1
  have e3 := hg 3
  have q0 := hr 0
  clear hg hr
  simp only [go_sem, *] at hn0 e1 e3 q0
  have hl := ok_len (ok_fld (j := 1) hb)
  refine nr (runs_for (asL (fld b 1)) (fun (_ : Unit) x => if (12 : Int) < ((asL (fld x 1)).length : Int) ∨ (40 : Int) < ((asL (fld x 2)).length : Int) then .ret true else .next ()) () 39 (fun i a => [(1, s0.get (.tmp 1)), (3, .v (.a (.int .i64 i)))]) (fun i a => [(0, s0.row 0)]) (fun i a => True) (by omega) ?_ (trivial) ?_ ?_ ?_ ?_)
  · simp (maxDischargeDepth := 9) only [go_sem, Nat.reduceMul, Nat.reduceAdd, Nat.reduceLeDiff, Int.reduceSub, Int.reduceNeg, Int.reduceLT, Int.reduceLE, Int.reduceEq, *]
  · intro i a; simp (maxDischargeDepth := 9) only [go_sem, Nat.reduceMul, Nat.reduceAdd, Nat.reduceLeDiff, Int.reduceSub, Int.reduceNeg, Int.reduceLT, Int.reduceLE, Int.reduceEq, *]
  · intro i a; simp (maxDischargeDepth := 9) only [go_sem, Nat.reduceMul, Nat.reduceAdd, Nat.reduceLeDiff, Int.reduceSub, Int.reduceNeg, Int.reduceLT, Int.reduceLE, Int.reduceEq, *]
  · intro i x a s hx hi hI hS
    clear hn0 e3
    simp only [go_sem] at hS
    obtain ⟨f1, f3, m0, hn⟩ := hS
    have hw := wrap_succ hi (ok_len (ok_fld hb))
    refine rn ?_
    simp (maxDischargeDepth := 9) only [go_sem, Nat.reduceMul, Nat.reduceAdd, Nat.reduceLeDiff, Int.reduceSub, Int.reduceNeg, Int.reduceLT, Int.reduceLE, Int.reduceEq, *]
    all_goals exact AU_large
  · intro a s hI hf hS
    clear hn0 e3
    simp only [go_sem] at hS
    obtain ⟨f1, f3, m0, hn⟩ := hS
    try simp only [go_sem] at hf
    refine rn ?_
    simp (maxDischargeDepth := 9) only [go_sem, Nat.reduceMul, Nat.reduceAdd, Nat.reduceLeDiff, Int.reduceSub, Int.reduceNeg, Int.reduceLT, Int.reduceLE, Int.reduceEq, *]
    all_goals exact AU_large
theorem AU_past {p : Prop} (h : p := by
  repeat' (first | (with_reducible refine condLt (fun h h' => ?_) (fun h h' => ?_)) | (with_reducible refine condLe (fun h h' => ?_) (fun h h' => ?_)) | (with_reducible refine dop_val ?_) | (with_reducible refine YsLt (fun h h' => ?_) (fun h h' => ?_)) | (with_reducible refine YsLe (fun h h' => ?_) (fun h h' => ?_)) | (with_reducible refine condP (fun h => ?_) (fun h => ?_)) | (with_reducible refine condN (fun h => ?_) (fun h => ?_)) | (with_reducible refine condB (fun h => ?_) (fun h => ?_)) | (with_reducible refine condR (fun h => ?_) (fun h => ?_)) | (with_reducible refine YsB (fun h => ?_) (fun h => ?_)) | (with_reducible refine YsC (fun h => ?_) (fun h => ?_)) | (with_reducible refine Ys_ite (fun h => ?_) (fun h => ?_)) | (intro h) | (with_reducible refine draw_look (by kernel_rfl) (by kernel_rfl) ?_) | (simp (maxDischargeDepth := 9) only [go_sem, Nat.reduceMul, Nat.reduceAdd, Nat.reduceLeDiff, Int.reduceSub, Int.reduceNeg, Int.reduceLT, Int.reduceLE, Int.reduceEq, *]) | (exfalso; omega))) : p := h
theorem past_ans (ext : CallF) (k : Nat) (b : IV) (e : Int) (p : Nat) (hk : maxLen + (2) ≤ k) (hb : Ok b) (hfd : FD b = true) (he : e < ((asL (fld b 1)).length : Int)) (hz : (asL (fld b 1)).length ≤ 1000000) : ans (tab.run ext k) 62 [.iv p 29 b, .int .i64 e] 3 = some ([.one (.own 2 4 (bl (asL (fld b 1)).length (hist b e)))], [51]) := by
  obtain ⟨k, rfl⟩ : ∃ k', k = k' + 1 := ⟨k - 1, by omega⟩
  have hk1 : maxLen < k := by omega
  have hk0 : 0 < k := by omega
  refine fn_run (fx := fx62) (m := 58) 60 rfl rfl rfl rfl (fun st hn hg hr => ?_)
  have g0 : st.get (.tmp 0) = .v (.a (.iv p 29 b)) := hg 0 (of_decide_eq_true rfl)
  have g1 : st.get (.tmp 1) = .v (.a (.int .i64 e)) := hg 1 (of_decide_eq_true rfl)
  have r0 := hr 0
  have r1 := hr 1
  have r2 := hr 2
  clear hg hr
  rw [co62]
  simp only [Try.f62, Option.getD_some]
  have hl1 := ok_len (ok_fld (j := 1) hb)
  simp (maxDischargeDepth := 9) only [go_sem, Nat.reduceMul, Nat.reduceAdd, Nat.reduceLeDiff, Int.reduceSub, Int.reduceNeg, Int.reduceLT, Int.reduceLE, Int.reduceEq, *]
  with_reducible refine condLt (fun h h' => ?_) (fun h h' => ?_)
  · rw [hist_neg h]
    simp (maxDischargeDepth := 9) only [go_sem, Nat.reduceMul, Nat.reduceAdd, Nat.reduceLeDiff, Int.reduceSub, Int.reduceNeg, Int.reduceLT, Int.reduceLE, Int.reduceEq, *]
  obtain ⟨m, rfl⟩ := Int.eq_ofNat_of_zero_le h'
  have hm : m < (asL (fld b 1)).length := by omega
  simp (maxDischargeDepth := 9) only [go_sem, Nat.reduceMul, Nat.reduceAdd, Nat.reduceLeDiff, Int.reduceSub, Int.reduceNeg, Int.reduceLT, Int.reduceLE, Int.reduceEq, *]
  refine gen_st (fun s0 hg hr hn0 => ?_)
  have e2 := hg 2
  have e4 := hg 4
  have e5 := hg 5
  have e6 := hg 6
  have q0 := hr 0
  have q1 := hr 1
  have q2 := hr 2
  clear hg hr
  simp only [go_sem, *] at hn0 e2 e4 e5 e6 q0 q1 q2
  refine nr (runs_forN (m + 1) (fun (S : Nat → Bool) i => Stp.next (ρ := Unit) (fun g => S g || (S (m - i) && decide (edge b (m - i) g)))) (fun g => decide (g = m)) 60 (fun i S => [(2, s0.get (.tmp 2)), (4, s0.get (.tmp 4)), (5, s0.get (.tmp 5)), (6, .v (.a (.int .i64 ((m : Int) - (i : Nat)))))]) (fun i S => [(0, s0.row 0), (1, s0.row 1), (2, some (.arr 2 4 (bl (asL (fld b 1)).length S)))]) (fun i S => True) (by omega) ?_ (trivial) ?_ ?_ ?_ ?_)
  · simp (maxDischargeDepth := 9) only [go_sem, Nat.reduceMul, Nat.reduceAdd, Nat.reduceLeDiff, Int.reduceSub, Int.reduceNeg, Int.reduceLT, Int.reduceLE, Int.reduceEq, *]
  · intro i a; simp (maxDischargeDepth := 9) only [go_sem, Nat.reduceMul, Nat.reduceAdd, Nat.reduceLeDiff, Int.reduceSub, Int.reduceNeg, Int.reduceLT, Int.reduceLE, Int.reduceEq, *]
  · intro i a; simp (maxDischargeDepth := 9) only [go_sem, Nat.reduceMul, Nat.reduceAdd, Nat.reduceLeDiff, Int.reduceSub, Int.reduceNeg, Int.reduceLT, Int.reduceLE, Int.reduceEq, *]
  · intro i S s hi hI hS
    clear hn0 e6 q2
    simp only [go_sem] at hS
    obtain ⟨f2, f4, f5, f6, m0, m1, m2, hn⟩ := hS
    have h0i : (0 : Int) ≤ (m : Int) - (i : Nat) := by omega
    have hmi : ((m : Int) - (i : Nat)).toNat = m - i := by omega
    have hmi2 : m - i < (asL (fld b 1)).length := by omega
    have hw : IntKind.i64.wrap ((m : Int) - (i : Nat) - 1) = (m : Int) - ((i + 1 : Nat) : Int) := by
      rw [Go.IntWalk.i64_in _ (by omega)]; omega
    refine rn ?_
    simp (maxDischargeDepth := 9) only [go_sem, Nat.reduceMul, Nat.reduceAdd, Nat.reduceLeDiff, Int.reduceSub, Int.reduceNeg, Int.reduceLT, Int.reduceLE, Int.reduceEq, *]
    with_reducible refine condR (fun h => ?_) (fun h => ?_)
    · have h2 : S (m - i) = false := by simpa using h
      all_goals exact AU_past
    have h2 : S (m - i) = true := by simpa using h
    simp (maxDischargeDepth := 9) only [go_sem, Nat.reduceMul, Nat.reduceAdd, Nat.reduceLeDiff, Int.reduceSub, Int.reduceNeg, Int.reduceLT, Int.reduceLE, Int.reduceEq, *]
    refine gen_st (fun s0 hg hr hn0 => ?_)
    have e2 := hg 2
    have e4 := hg 4
    have e5 := hg 5
    have e6 := hg 6
    have e20 := hg 20
    have e21 := hg 21
    have e24 := hg 24
    have e25 := hg 25
    have e26 := hg 26
    have e27 := hg 27
    have e28 := hg 28
    have e7 := hg 7
    have q0 := hr 0
    have q1 := hr 1
    have q2 := hr 2
    clear hg hr
    simp only [go_sem, *] at hn0 e2 e4 e5 e6 e20 e21 e24 e25 e26 e27 e28 e7 q0 q1 q2
    have hl2 := ok_len (ok_fld (j := 1) (ok_getD (i := m - i) (ok_fld (j := 1) hb)))
    refine nr (runs_forN (asL (fld ((asL (fld b 1)).getD (m - i) .N) 1)).length (fun (S2 : Nat → Bool) k => Stp.next (ρ := Unit) (fun g => S2 g || (decide (0 ≤ asI (fld (el (asL (fld b 0)) (asI ((asL (fld ((asL (fld b 1)).getD (m - i) .N) 1)).getD k .N))) 1)) && decide (g = (asI (fld (el (asL (fld b 0)) (asI ((asL (fld ((asL (fld b 1)).getD (m - i) .N) 1)).getD k .N))) 1)).toNat)))) S 60 (fun k S2 => [(2, s0.get (.tmp 2)), (4, s0.get (.tmp 4)), (5, s0.get (.tmp 5)), (6, s0.get (.tmp 6)), (20, s0.get (.tmp 20)), (21, s0.get (.tmp 21)), (24, s0.get (.tmp 24)), (25, s0.get (.tmp 25)), (26, s0.get (.tmp 26)), (27, s0.get (.tmp 27)), (28, s0.get (.tmp 28)), (7, .v (.a (.int .i64 (k : Nat))))]) (fun k S2 => [(0, s0.row 0), (1, s0.row 1), (2, some (.arr 2 4 (bl (asL (fld b 1)).length S2)))]) (fun k S2 => True) (by omega) ?_ (trivial) ?_ ?_ ?_ ?_)
    · simp (maxDischargeDepth := 9) only [go_sem, Nat.reduceMul, Nat.reduceAdd, Nat.reduceLeDiff, Int.reduceSub, Int.reduceNeg, Int.reduceLT, Int.reduceLE, Int.reduceEq, *]
    · intro i a; simp (maxDischargeDepth := 9) only [go_sem, Nat.reduceMul, Nat.reduceAdd, Nat.reduceLeDiff, Int.reduceSub, Int.reduceNeg, Int.reduceLT, Int.reduceLE, Int.reduceEq, *]
    · intro i a; simp (maxDischargeDepth := 9) only [go_sem, Nat.reduceMul, Nat.reduceAdd, Nat.reduceLeDiff, Int.reduceSub, Int.reduceNeg, Int.reduceLT, Int.reduceLE, Int.reduceEq, *]
    · intro k S2 s hi hI hS
      clear hn0 e7 q2
      simp only [go_sem] at hS
      obtain ⟨f2, f4, f5, f6, f20, f21, f24, f25, f26, f27, f28, f7, m0, m1, m2, hn⟩ := hS
      have hw := wrap_succ hi (hl2)
      obtain ⟨hx0, hx1, hx2⟩ := FD_pre hfd (i := m - i) hmi2 (x := (asL (fld ((asL (fld b 1)).getD (m - i) .N) 1)).getD k .N) (memD hi)
      simp only [frm, nCo] at hx0 hx1 hx2
      have hx3 : (asI (fld (el (asL (fld b 0)) (asI ((asL (fld ((asL (fld b 1)).getD (m - i) .N) 1)).getD k .N))) 1)).toNat < (asL (fld b 1)).length := by omega
      refine rn ?_
      simp (maxDischargeDepth := 9) only [go_sem, Nat.reduceMul, Nat.reduceAdd, Nat.reduceLeDiff, Int.reduceSub, Int.reduceNeg, Int.reduceLT, Int.reduceLE, Int.reduceEq, *]
      all_goals exact AU_past
    · intro S2 s hI hf hS
      clear hn0 e7 q2
      simp only [go_sem] at hS
      obtain ⟨f2, f4, f5, f6, f20, f21, f24, f25, f26, f27, f28, f7, m0, m1, m2, hn⟩ := hS
      try simp only [go_sem] at hf
      have hS2 : S2 = fun g => S g || decide (edge b (m - i) g) := by rw [← hf, foldl_or]; funext g; congr 1; exact pre_edge (fun k => rfl) g
      subst hS2
      refine rn ?_
      simp (maxDischargeDepth := 9) only [go_sem, Nat.reduceMul, Nat.reduceAdd, Nat.reduceLeDiff, Int.reduceSub, Int.reduceNeg, Int.reduceLT, Int.reduceLE, Int.reduceEq, *]
      all_goals exact AU_past
  · intro S s hI hf hS
    clear hn0 e6 q2
    simp only [go_sem] at hS
    obtain ⟨f2, f4, f5, f6, m0, m1, m2, hn⟩ := hS
    try simp only [go_sem] at hf
    have hS : S = hist b (m : Int) := by rw [← hf, ← List.range_succ, past_fold hfd hm]; funext g; simp [hist]
    subst hS
    have hneg : ¬ (0 : Int) ≤ (m : Int) - ((m + 1 : Nat) : Int) := by omega
    refine rn ?_
    simp (maxDischargeDepth := 9) only [go_sem, Nat.reduceMul, Nat.reduceAdd, Nat.reduceLeDiff, Int.reduceSub, Int.reduceNeg, Int.reduceLT, Int.reduceLE, Int.reduceEq, *]
    all_goals exact AU_past
end Go.Proofs.Ytficdonjodadlaa
end
section
set_option linter.unusedSimpArgs false
set_option linter.unusedVariables false
set_option maxRecDepth 100000
set_option maxHeartbeats 4000000
namespace Go.Proofs.Ytficdonjodadlaa
open Go.Ev Go.Proofs
theorem AU_rclash {p : Prop} (h : p := by
  repeat' (first | (with_reducible refine condLt (fun h h' => ?_) (fun h h' => ?_)) | (with_reducible refine condLe (fun h h' => ?_) (fun h h' => ?_)) | (with_reducible refine dop_val ?_) | (with_reducible refine YsLt (fun h h' => ?_) (fun h h' => ?_)) | (with_reducible refine YsLe (fun h h' => ?_) (fun h h' => ?_)) | (with_reducible refine condP (fun h => ?_) (fun h => ?_)) | (with_reducible refine condN (fun h => ?_) (fun h => ?_)) | (with_reducible refine condB (fun h => ?_) (fun h => ?_)) | (with_reducible refine condR (fun h => ?_) (fun h => ?_)) | (with_reducible refine YsB (fun h => ?_) (fun h => ?_)) | (with_reducible refine YsC (fun h => ?_) (fun h => ?_)) | (with_reducible refine Ys_ite (fun h => ?_) (fun h => ?_)) | (intro h) | (with_reducible refine draw_look (by kernel_rfl) (by kernel_rfl) ?_) | (simp (maxDischargeDepth := 9) only [go_sem, Nat.reduceMul, Nat.reduceAdd, Nat.reduceLeDiff, Int.reduceSub, Int.reduceNeg, Int.reduceLT, Int.reduceLE, Int.reduceEq, *, past_ans, share_ans]) | (exfalso; omega))) : p := h
theorem rclash_ans (ext : CallF) (k : Nat) (b : IV) (e f : Int) (p : Nat) (hk : maxLen + (6) ≤ k) (hb : Ok b) (hfd : FD b = true) (he : e < ((asL (fld b 1)).length : Int)) (hf0 : f < ((asL (fld b 1)).length : Int)) (hz : (asL (fld b 1)).length ≤ 1000000) : ans (tab.run ext k) 63 [.iv p 29 b, .int .i64 e, .int .i64 f] 1 = some ([.one (.at (.bool (CLf b (hist b e) (hist b f))))], [4]) := by
  obtain ⟨k, rfl⟩ : ∃ k', k = k' + 1 := ⟨k - 1, by omega⟩
  have hk1 : maxLen < k := by omega
  have hk0 : 0 < k := by omega
  have hk_0 : maxLen + (2) ≤ k := by omega
  have hk_1 : maxLen + (4) ≤ k := by omega
  refine fn_run (fx := fx63) (m := 56) 59 rfl rfl rfl rfl (fun st hn hg hr => ?_)
  have g0 : st.get (.tmp 0) = .v (.a (.iv p 29 b)) := hg 0 (of_decide_eq_true rfl)
  have g1 : st.get (.tmp 1) = .v (.a (.int .i64 e)) := hg 1 (of_decide_eq_true rfl)
  have g2 : st.get (.tmp 2) = .v (.a (.int .i64 f)) := hg 2 (of_decide_eq_true rfl)
  have r0 := hr 0
  clear hg hr
  rw [co63]
  simp only [Try.f63, Option.getD_some]
  unfold CLf
  have hl1 := ok_len (ok_fld (j := 1) hb)
  generalize hX : hist b e = X
  generalize hY : hist b f = Y
  simp (maxDischargeDepth := 9) only [go_sem, Nat.reduceMul, Nat.reduceAdd, Nat.reduceLeDiff, Int.reduceSub, Int.reduceNeg, Int.reduceLT, Int.reduceLE, Int.reduceEq, *, past_ans, share_ans]
  repeat' (first | (with_reducible refine condLt (fun h h' => ?_) (fun h h' => ?_)) | (with_reducible refine condLe (fun h h' => ?_) (fun h h' => ?_)) | (with_reducible refine dop_val ?_) | (with_reducible refine YsLt (fun h h' => ?_) (fun h h' => ?_)) | (with_reducible refine YsLe (fun h h' => ?_) (fun h h' => ?_)) | (with_reducible refine condP (fun h => ?_) (fun h => ?_)) | (with_reducible refine condN (fun h => ?_) (fun h => ?_)) | (with_reducible refine condB (fun h => ?_) (fun h => ?_)) | (with_reducible refine condR (fun h => ?_) (fun h => ?_)) | (with_reducible refine YsB (fun h => ?_) (fun h => ?_)) | (with_reducible refine YsC (fun h => ?_) (fun h => ?_)) | (with_reducible refine Ys_ite (fun h => ?_) (fun h => ?_)) | (intro h) | (with_reducible refine draw_look (by kernel_rfl) (by kernel_rfl) ?_) | (simp (maxDischargeDepth := 9) only [go_sem, Nat.reduceMul, Nat.reduceAdd, Nat.reduceLeDiff, Int.reduceSub, Int.reduceNeg, Int.reduceLT, Int.reduceLE, Int.reduceEq, *, past_ans, share_ans]) | (exfalso; omega))
  refine gen_st (fun s0 hg hr hn0 => ?_)
  have e3 := hg 3
  have e7 := hg 7
  have e8 := hg 8
  have e9 := hg 9
  have q0 := hr 0
  clear hg hr
  simp only [go_sem, *] at hn0 e3 e7 e8 e9 q0
  refine nr (runs_forN (asL (fld b 1)).length (fun (_ : Unit) i => if ((List.range (asL (fld b 1)).length).any fun k2 => (!decide (i = k2) && X i && Y k2 && (asL (fld ((asL (fld b 1)).getD i .N) 1)).any fun x => (asL (fld ((asL (fld b 1)).getD k2 .N) 1)).any fun y => decide (asI y = asI x))) = true then .ret true else .next ()) () 59 (fun i a => [(3, s0.get (.tmp 3)), (7, s0.get (.tmp 7)), (8, s0.get (.tmp 8)), (9, .v (.a (.int .i64 i)))]) (fun i a => [(0, s0.row 0)]) (fun i a => True) (by omega) ?_ (trivial) ?_ ?_ ?_ ?_)
  · simp (maxDischargeDepth := 9) only [go_sem, Nat.reduceMul, Nat.reduceAdd, Nat.reduceLeDiff, Int.reduceSub, Int.reduceNeg, Int.reduceLT, Int.reduceLE, Int.reduceEq, *, past_ans, share_ans]
  · intro i a; simp (maxDischargeDepth := 9) only [go_sem, Nat.reduceMul, Nat.reduceAdd, Nat.reduceLeDiff, Int.reduceSub, Int.reduceNeg, Int.reduceLT, Int.reduceLE, Int.reduceEq, *, past_ans, share_ans]
  · intro i a; simp (maxDischargeDepth := 9) only [go_sem, Nat.reduceMul, Nat.reduceAdd, Nat.reduceLeDiff, Int.reduceSub, Int.reduceNeg, Int.reduceLT, Int.reduceLE, Int.reduceEq, *, past_ans, share_ans]
  · intro i a s hi hI hS
    clear hn0 e9
    simp only [go_sem] at hS
    obtain ⟨f3, f7, f8, f9, m0, hn⟩ := hS
    have hw := wrap_succ hi (hl1)
    refine rn ?_
    simp (maxDischargeDepth := 9) only [go_sem, Nat.reduceMul, Nat.reduceAdd, Nat.reduceLeDiff, Int.reduceSub, Int.reduceNeg, Int.reduceLT, Int.reduceLE, Int.reduceEq, *, past_ans, share_ans]
    refine gen_st (fun s0 hg hr hn0 => ?_)
    have e3 := hg 3
    have e7 := hg 7
    have e8 := hg 8
    have e9 := hg 9
    have e17 := hg 17
    have e18 := hg 18
    have e19 := hg 19
    have e20 := hg 20
    have e10 := hg 10
    have q0 := hr 0
    clear hg hr
    simp only [go_sem, *] at hn0 e3 e7 e8 e9 e17 e18 e19 e20 e10 q0
    refine nr (runs_forN (asL (fld b 1)).length (fun (_ : Unit) k2 => if (!decide (i = k2) && X i && Y k2 && (asL (fld ((asL (fld b 1)).getD i .N) 1)).any fun x => (asL (fld ((asL (fld b 1)).getD k2 .N) 1)).any fun y => decide (asI y = asI x)) = true then .ret true else .next ()) () 59 (fun k2 a => [(3, s0.get (.tmp 3)), (7, s0.get (.tmp 7)), (8, s0.get (.tmp 8)), (9, s0.get (.tmp 9)), (17, s0.get (.tmp 17)), (18, s0.get (.tmp 18)), (19, s0.get (.tmp 19)), (20, s0.get (.tmp 20)), (10, .v (.a (.int .i64 k2)))]) (fun k2 a => [(0, s0.row 0)]) (fun k2 a => True) (by omega) ?_ (trivial) ?_ ?_ ?_ ?_)
    · simp (maxDischargeDepth := 9) only [go_sem, Nat.reduceMul, Nat.reduceAdd, Nat.reduceLeDiff, Int.reduceSub, Int.reduceNeg, Int.reduceLT, Int.reduceLE, Int.reduceEq, *, past_ans, share_ans]
    · intro i a; simp (maxDischargeDepth := 9) only [go_sem, Nat.reduceMul, Nat.reduceAdd, Nat.reduceLeDiff, Int.reduceSub, Int.reduceNeg, Int.reduceLT, Int.reduceLE, Int.reduceEq, *, past_ans, share_ans]
    · intro i a; simp (maxDischargeDepth := 9) only [go_sem, Nat.reduceMul, Nat.reduceAdd, Nat.reduceLeDiff, Int.reduceSub, Int.reduceNeg, Int.reduceLT, Int.reduceLE, Int.reduceEq, *, past_ans, share_ans]
    · intro k2 a s hi hI hS
      clear hn0 e10
      simp only [go_sem] at hS
      obtain ⟨f3, f7, f8, f9, f17, f18, f19, f20, f10, m0, hn⟩ := hS
      have hw := wrap_succ hi (hl1)
      refine rn ?_
      simp (maxDischargeDepth := 9) only [go_sem, Nat.reduceMul, Nat.reduceAdd, Nat.reduceLeDiff, Int.reduceSub, Int.reduceNeg, Int.reduceLT, Int.reduceLE, Int.reduceEq, *, past_ans, share_ans]
      all_goals exact AU_rclash
    · intro a s hI hf hS
      clear hn0 e10
      simp only [go_sem] at hS
      obtain ⟨f3, f7, f8, f9, f17, f18, f19, f20, f10, m0, hn⟩ := hS
      try simp only [go_sem] at hf
      refine rn ?_
      simp (maxDischargeDepth := 9) only [go_sem, Nat.reduceMul, Nat.reduceAdd, Nat.reduceLeDiff, Int.reduceSub, Int.reduceNeg, Int.reduceLT, Int.reduceLE, Int.reduceEq, *, past_ans, share_ans]
      all_goals exact AU_rclash
  · intro a s hI hf hS
    clear hn0 e9
    simp only [go_sem] at hS
    obtain ⟨f3, f7, f8, f9, m0, hn⟩ := hS
    try simp only [go_sem] at hf
    refine rn ?_
    simp (maxDischargeDepth := 9) only [go_sem, Nat.reduceMul, Nat.reduceAdd, Nat.reduceLeDiff, Int.reduceSub, Int.reduceNeg, Int.reduceLT, Int.reduceLE, Int.reduceEq, *, past_ans, share_ans]
    all_goals exact AU_rclash
end Go.Proofs.Ytficdonjodadlaa
end
section
set_option linter.unusedSimpArgs false
set_option linter.unusedVariables false
set_option maxRecDepth 100000
namespace Go.Proofs.Ytficdonjodadlaa
open Go.Ev Go.Proofs
theorem visit_call {st : St} {call : CallF} {c : Int} {b : IV} {p : Nat} {l l2 : List IV} {m2 : Mem} {t : Tmp} (hp : p ≠ 0)
    (r0 : st.row 0 = some (.box true 51 [0] (.a (.own 1)))) (r1 : st.row 1 = some (.arr 2 4 l)) (r2 : st.row 2 = some (.box true 29 [] (.a (.iv p 29 b)))) (r3 : st.row 3 = some (.box true 97 [] (.a (.fn 85 [0, 2, 3]))))
    (ho : st.get (.tmp t) = .v (.a (.int .i64 c)))
    (hrun : call 85 [.int .i64 c, .ptr 0 [] 51, .ptr 2 [] 29, .ptr 3 [] 97] [some (.box true 51 [0] (.a (.own 1))), some (.arr 2 4 l), some (.box true 29 [] (.a (.iv p 29 b))), some (.box true 97 [] (.a (.fn 85 [0, 2, 3])))] = some ([], [], m2))
    (h0 : rowIn m2 0 = some (.box true 51 [0] (.a (.own 1)))) (h1 : rowIn m2 1 = some (.arr 2 4 l2)) (h2 : rowIn m2 2 = some (.box true 29 [] (.a (.iv p 29 b)))) (h3 : rowIn m2 3 = some (.box true 97 [] (.a (.fn 85 [0, 2, 3])))) :
    ∃ st', st.callee tab call 85 [0, 2, 3] [3] [.tmp t] = some ([], [], st') ∧ (∀ d, st'.get (.tmp d) = (st.get (.tmp d)).map (At.killL [1])) ∧ st'.env.length = st.env.length ∧
      st'.row 0 = some (.box true 51 [0] (.a (.own 1))) ∧ st'.row 1 = some (.arr 2 4 l2) ∧ st'.row 2 = some (.box true 29 [] (.a (.iv p 29 b))) ∧ st'.row 3 = some (.box true 97 [] (.a (.fn 85 [0, 2, 3]))) := by
  have e1 : st.reach 60 ([0, 2, 3] ++ [Operand.tmp t].flatMap fun o => (st.get o).caps) [] = [0, 2, 3] := by
    simp [St.reach, ho, SV.caps, St.capsAt, r0, r2, r3, V1.caps]
  have e2 : st.pairs (tab.nk 85) [0, 2, 3] = [(0, 0), (1, 1), (2, 2), (3, 3)] := by
    simp [St.pairs, nk85, St.ownAt, r0, r2, r3]
  have e3 : st.handOver (tab.nk 85) [(0, 0), (1, 1), (2, 2), (3, 3)] = [some (.box true 51 [0] (.a (.own 1))), some (.arr 2 4 l), some (.box true 29 [] (.a (.iv p 29 b))), some (.box true 97 [] (.a (.fn 85 [0, 2, 3])))] := by
    simp [St.handOver, nk85, setD, r0, r1, r2, r3, Row.tr, At.tr, V1.map, hp, List.lookup]
  have e4 : st.args tab [(0, 0), (1, 1), (2, 2), (3, 3)] [3] [.tmp t] = some [.int .i64 c] := by
    simp [St.args, ho, St.arg]
  have e5 : [0, 2, 3].mapM (st.capPtr [(0, 0), (1, 1), (2, 2), (3, 3)]) = some [.ptr 0 [] 51, .ptr 2 [] 29, .ptr 3 [] 97] := by
    simp [St.capPtr, List.lookup, r0, r2, r3]
  have e6 : (nodup (([(0, 0), (1, 1), (2, 2), (3, 3)] : List (Nat × Nat)).map (·.1)) && nodup (([(0, 0), (1, 1), (2, 2), (3, 3)] : List (Nat × Nat)).map (·.2)) && [0, 2, 3].all st.isBox && st.handOk [(0, 0), (1, 1), (2, 2), (3, 3)] && [Operand.tmp t].all (fun o => (st.get o).viewKeys.all fun k => !((([(0, 0), (1, 1), (2, 2), (3, 3)] : List (Nat × Nat)).map (·.1)).contains k))) = true := by
    simp [nodup, St.isBox, r0, r1, r2, r3, St.handOk, ho, SV.viewKeys, At.viewKeys]
  refine ⟨((((st.killL [1]).putRow 0 (some (.box true 51 [0] (.a (.own 1))))).putRow 1 (some (.arr 2 4 l2))).putRow 2 (some (.box true 29 [] (.a (.iv p 29 b))))).putRow 3 (some (.box true 97 [] (.a (.fn 85 [0, 2, 3])))), ?_, fun d => ?_, ?_, ?_, ?_, ?_, ?_⟩
  · unfold St.callee
    rw [e1, e2]
    unfold St.callee1
    rw [if_pos e6, e4, Option.bind_some, e5, Option.bind_some, e3]
    simp only [List.cons_append, List.nil_append]
    rw [hrun, Option.bind_some]
    simp [St.takeBack, elders, backRows, backRow, h0, h1, h2, h3, r0, r2, r3, V1.map, At.tr, swap, List.lookup, hp]
  · simp only [get_put, get_killL]
  · simp only [len_put, len_killL]
  all_goals simp [St.row_put]
theorem hist_call {st : St} {call : CallF} {c : Int} {b : IV} {p : Nat} {l l2 : List IV} {m2 : Mem} {t : Tmp} (hp : p ≠ 0)
    (r1 : st.row 1 = some (.box false 51 [0] (.a (.own 2)))) (r2 : st.row 2 = some (.arr 2 4 l)) (r0 : st.row 0 = some (.box false 29 [] (.a (.iv p 29 b)))) (r3 : st.row 3 = some (.box false 97 [] (.a (.fn 85 [1, 0, 3]))))
    (ho : st.get (.tmp t) = .v (.a (.int .i64 c)))
    (hrun : call 85 [.int .i64 c, .ptr 0 [] 51, .ptr 2 [] 29, .ptr 3 [] 97] [some (.box true 51 [0] (.a (.own 1))), some (.arr 2 4 l), some (.box true 29 [] (.a (.iv p 29 b))), some (.box true 97 [] (.a (.fn 85 [0, 2, 3])))] = some ([], [], m2))
    (h0 : rowIn m2 0 = some (.box true 51 [0] (.a (.own 1)))) (h1 : rowIn m2 1 = some (.arr 2 4 l2)) (h2 : rowIn m2 2 = some (.box true 29 [] (.a (.iv p 29 b)))) (h3 : rowIn m2 3 = some (.box true 97 [] (.a (.fn 85 [0, 2, 3])))) :
    ∃ st', st.callee tab call 85 [1, 0, 3] [3] [.tmp t] = some ([], [], st') ∧ (∀ d, st'.get (.tmp d) = (st.get (.tmp d)).map (At.killL [2])) ∧ st'.env.length = st.env.length ∧
      st'.row 1 = some (.box false 51 [0] (.a (.own 2))) ∧ st'.row 2 = some (.arr 2 4 l2) ∧ st'.row 0 = some (.box false 29 [] (.a (.iv p 29 b))) ∧ st'.row 3 = some (.box false 97 [] (.a (.fn 85 [1, 0, 3]))) := by
  have e1 : st.reach 60 ([1, 0, 3] ++ [Operand.tmp t].flatMap fun o => (st.get o).caps) [] = [1, 0, 3] := by
    simp [St.reach, ho, SV.caps, St.capsAt, r0, r1, r3, V1.caps]
  have e2 : st.pairs (tab.nk 85) [1, 0, 3] = [(1, 0), (2, 1), (0, 2), (3, 3)] := by
    simp [St.pairs, nk85, St.ownAt, r0, r1, r3]
  have e3 : st.handOver (tab.nk 85) [(1, 0), (2, 1), (0, 2), (3, 3)] = [some (.box true 51 [0] (.a (.own 1))), some (.arr 2 4 l), some (.box true 29 [] (.a (.iv p 29 b))), some (.box true 97 [] (.a (.fn 85 [0, 2, 3])))] := by
    simp [St.handOver, nk85, setD, r0, r1, r2, r3, Row.tr, At.tr, V1.map, hp, List.lookup]
  have e4 : st.args tab [(1, 0), (2, 1), (0, 2), (3, 3)] [3] [.tmp t] = some [.int .i64 c] := by
    simp [St.args, ho, St.arg]
  have e5 : [1, 0, 3].mapM (st.capPtr [(1, 0), (2, 1), (0, 2), (3, 3)]) = some [.ptr 0 [] 51, .ptr 2 [] 29, .ptr 3 [] 97] := by
    simp [St.capPtr, List.lookup, r0, r1, r3]
  have e6 : (nodup (([(1, 0), (2, 1), (0, 2), (3, 3)] : List (Nat × Nat)).map (·.1)) && nodup (([(1, 0), (2, 1), (0, 2), (3, 3)] : List (Nat × Nat)).map (·.2)) && [1, 0, 3].all st.isBox && st.handOk [(1, 0), (2, 1), (0, 2), (3, 3)] && [Operand.tmp t].all (fun o => (st.get o).viewKeys.all fun k => !((([(1, 0), (2, 1), (0, 2), (3, 3)] : List (Nat × Nat)).map (·.1)).contains k))) = true := by
    simp [nodup, St.isBox, r0, r1, r2, r3, St.handOk, ho, SV.viewKeys, At.viewKeys]
  refine ⟨((((st.killL [2]).putRow 1 (some (.box false 51 [0] (.a (.own 2))))).putRow 2 (some (.arr 2 4 l2))).putRow 0 (some (.box false 29 [] (.a (.iv p 29 b))))).putRow 3 (some (.box false 97 [] (.a (.fn 85 [1, 0, 3])))), ?_, fun d => ?_, ?_, ?_, ?_, ?_, ?_⟩
  · unfold St.callee
    rw [e1, e2]
    unfold St.callee1
    rw [if_pos e6, e4, Option.bind_some, e5, Option.bind_some, e3]
    simp only [List.cons_append, List.nil_append]
    rw [hrun, Option.bind_some]
    simp [St.takeBack, elders, backRows, backRow, h0, h1, h2, h3, r0, r1, r3, V1.map, At.tr, swap, List.lookup, hp]
  · simp only [get_put, get_killL]
  · simp only [len_put, len_killL]
  all_goals simp [St.row_put]
theorem Ys_call {T : Tab} {call : CallF} {st : St} {g : FuncId} {caps : List Nat} {ts : List TypeId} {os : List Operand} {rs : List RV} {ts' : List TypeId} {P : St → Prop} {Q : List RV × List TypeId × St → Prop} {t : Tg Q} (h : ∃ st', st.callee T call g caps ts os = some (rs, ts', st') ∧ P st') (hq : ∀ st', P st' → Q (rs, ts', st')) : Ys (st.callee T call g caps ts os) Q t := by
  obtain ⟨st', h1, h2⟩ := h
  exact Ys_in ⟨_, h1, hq st' h2⟩
end Go.Proofs.Ytficdonjodadlaa
end
section
set_option linter.unusedSimpArgs false
set_option linter.unusedVariables false
set_option maxRecDepth 100000
set_option maxHeartbeats 4000000
namespace Go.Proofs.Ytficdonjodadlaa
open Go.Ev Go.Proofs
theorem visit_run (ext : CallF) (b : IV) (p : Nat) (hb : Ok b) (hp : p ≠ 0) (hfd : FD b = true) (hz : (asL (fld b 1)).length ≤ 1000000) : ∀ (d k : Nat) (e : Int) (S : Nat → Bool), e < (d : Int) → d ≤ (asL (fld b 1)).length → (0 ≤ e → Clo b (e.toNat + 1) S) → maxLen + 3 + d ≤ k → ∃ m', tab.run ext k 85 [.int .i64 e, .ptr 0 [] 51, .ptr 2 [] 29, .ptr 3 [] 97] [some (.box true 51 [0] (.a (.own 1))), some (.arr 2 4 (bl (asL (fld b 1)).length S)), some (.box true 29 [] (.a (.iv p 29 b))), some (.box true 97 [] (.a (.fn 85 [0, 2, 3])))] = some ([], [], m') ∧ (fun R => R 0 = some (.box true 51 [0] (.a (.own 1))) ∧ R 1 = some (.arr 2 4 (bl (asL (fld b 1)).length (fun g => S g || hist b e g))) ∧ R 2 = some (.box true 29 [] (.a (.iv p 29 b))) ∧ R 3 = some (.box true 97 [] (.a (.fn 85 [0, 2, 3])))) (rowIn m') := by
  intro d
  induction d with
  | zero =>
    intro k e S he hd hc hk
    obtain ⟨k, rfl⟩ : ∃ k', k = k' + 1 := ⟨k - 1, by omega⟩
    refine fn_mem (fx := fx85) (m := 34) (R := (fun R => R 0 = some (.box true 51 [0] (.a (.own 1))) ∧ R 1 = some (.arr 2 4 (bl (asL (fld b 1)).length (fun g => S g || hist b e g))) ∧ R 2 = some (.box true 29 [] (.a (.iv p 29 b))) ∧ R 3 = some (.box true 97 [] (.a (.fn 85 [0, 2, 3]))))) 38 rfl rfl rfl rfl (fun st hn hg hr => ?_)
    have hS : (fun g => S g || hist b e g) = S := by rw [hist_neg (by omega)]; funext g; simp
    rw [hS]
    have g0 : st.get (.tmp 0) = .v (.a (.int .i64 e)) := hg 0 (of_decide_eq_true rfl)
    have g1 : st.get (.tmp 1) = .v (.a (.ptr 0 [] 51)) := hg 1 (of_decide_eq_true rfl)
    have g2 : st.get (.tmp 2) = .v (.a (.ptr 2 [] 29)) := hg 2 (of_decide_eq_true rfl)
    have g3 : st.get (.tmp 3) = .v (.a (.ptr 3 [] 97)) := hg 3 (of_decide_eq_true rfl)
    have r0 := hr 0
    have r1 := hr 1
    have r2 := hr 2
    have r3 := hr 3
    clear hg hr
    simp only [go_sem] at r0 r1 r2 r3
    rw [co85]
    simp only [Try.f85, Option.getD_some]
    have hneg : e < 0 := by omega
    simp (maxDischargeDepth := 9) only [go_sem, Nat.reduceMul, Nat.reduceAdd, Nat.reduceLeDiff, Int.reduceSub, Int.reduceNeg, Int.reduceLT, Int.reduceLE, Int.reduceEq, *]
  | succ d ih =>
    intro k e S he hd hc hk
    obtain ⟨k, rfl⟩ : ∃ k', k = k' + 1 := ⟨k - 1, by omega⟩
    by_cases h0 : 0 ≤ e
    case neg => exact ih (k + 1) e S (by omega) (by omega) hc (by omega)
    obtain ⟨m, rfl⟩ := Int.eq_ofNat_of_zero_le h0
    have hm : m < (asL (fld b 1)).length := by omega
    have hc := hc h0
    rw [Int.toNat_natCast] at hc
    refine fn_mem (fx := fx85) (m := 34) (R := (fun R => R 0 = some (.box true 51 [0] (.a (.own 1))) ∧ R 1 = some (.arr 2 4 (bl (asL (fld b 1)).length (fun g => S g || hist b (m : Int) g))) ∧ R 2 = some (.box true 29 [] (.a (.iv p 29 b))) ∧ R 3 = some (.box true 97 [] (.a (.fn 85 [0, 2, 3]))))) 38 rfl rfl rfl rfl (fun st hn hg hr => ?_)
    have g0 : st.get (.tmp 0) = .v (.a (.int .i64 (m : Int))) := hg 0 (of_decide_eq_true rfl)
    have g1 : st.get (.tmp 1) = .v (.a (.ptr 0 [] 51)) := hg 1 (of_decide_eq_true rfl)
    have g2 : st.get (.tmp 2) = .v (.a (.ptr 2 [] 29)) := hg 2 (of_decide_eq_true rfl)
    have g3 : st.get (.tmp 3) = .v (.a (.ptr 3 [] 97)) := hg 3 (of_decide_eq_true rfl)
    have r0 := hr 0
    have r1 := hr 1
    have r2 := hr 2
    have r3 := hr 3
    clear hg hr
    simp only [go_sem] at r0 r1 r2 r3
    rw [co85]
    simp only [Try.f85, Option.getD_some]
    have hneg : ¬ ((m : Int) < 0) := by omega
    by_cases hs : S m = true
    · rw [clo_has hc hs]
      simp (maxDischargeDepth := 9) only [go_sem, Nat.reduceMul, Nat.reduceAdd, Nat.reduceLeDiff, Int.reduceSub, Int.reduceNeg, Int.reduceLT, Int.reduceLE, Int.reduceEq, *]
    have hs : S m = false := by simpa using hs
    simp (maxDischargeDepth := 9) only [go_sem, Nat.reduceMul, Nat.reduceAdd, Nat.reduceLeDiff, Int.reduceSub, Int.reduceNeg, Int.reduceLT, Int.reduceLE, Int.reduceEq, *]
    refine gen_st (fun s0 hg hr hn0 => ?_)
    have e2 := hg 2
    have e3 := hg 3
    have e23 := hg 23
    have e24 := hg 24
    have e25 := hg 25
    have q0 := hr 0
    have q1 := hr 1
    have q2 := hr 2
    have q3 := hr 3
    clear hg hr
    simp only [go_sem, *] at hn0 e2 e3 e23 e24 e25 q0 q1 q2 q3
    have hl2 := ok_len (ok_fld (j := 1) (ok_getD (i := m) (ok_fld (j := 1) hb)))
    refine nr (runs_for (asL (fld ((asL (fld b 1)).getD m .N) 1)) (fun (S2 : Nat → Bool) x => Stp.next (ρ := Unit) (fun g => S2 g || hist b (frm b (asI x)) g)) (fun g => S g || decide (g = m)) 38 (fun i S2 => [(2, s0.get (.tmp 2)), (3, s0.get (.tmp 3)), (23, s0.get (.tmp 23)), (24, s0.get (.tmp 24)), (25, .v (.a (.int .i64 (i : Nat))))]) (fun i S2 => [(0, some (.box true 51 [0] (.a (.own 1)))), (1, some (.arr 2 4 (bl (asL (fld b 1)).length S2))), (2, some (.box true 29 [] (.a (.iv p 29 b)))), (3, some (.box true 97 [] (.a (.fn 85 [0, 2, 3]))))]) (fun i S2 => Clo b m S2) (by omega) ?_ (clo_put hc) ?_ ?_ ?_ ?_)
    · simp (maxDischargeDepth := 9) only [go_sem, Nat.reduceMul, Nat.reduceAdd, Nat.reduceLeDiff, Int.reduceSub, Int.reduceNeg, Int.reduceLT, Int.reduceLE, Int.reduceEq, *]
    · intro i a; simp (maxDischargeDepth := 9) only [go_sem, Nat.reduceMul, Nat.reduceAdd, Nat.reduceLeDiff, Int.reduceSub, Int.reduceNeg, Int.reduceLT, Int.reduceLE, Int.reduceEq, *]
    · intro i a; simp (maxDischargeDepth := 9) only [go_sem, Nat.reduceMul, Nat.reduceAdd, Nat.reduceLeDiff, Int.reduceSub, Int.reduceNeg, Int.reduceLT, Int.reduceLE, Int.reduceEq, *]
    · intro i x S2 s hx hi hI hS
      clear hn0 e25 q0 q1 q2 q3
      simp only [go_sem] at hS
      obtain ⟨f2, f3, f23, f24, f25, m0, m1, m2, m3, hn⟩ := hS
      have hw := wrap_succ hi (hl2)
      obtain ⟨hx0, hx1, hx2⟩ := FD_pre hfd (i := m) hm (x := x) (List.mem_of_getElem? hx)
      simp only [frm, nCo] at hx0 hx1 hx2
      obtain ⟨m2, hrun, hR0, hR1, hR2, hR3⟩ := ih k (asI (fld (el (asL (fld b 0)) (asI x)) 1)) S2 (by omega) (by omega) (fun h0 => clo_le hI (by omega)) (by omega)
      refine rn ?_
      simp (maxDischargeDepth := 9) only [go_sem, Nat.reduceMul, Nat.reduceAdd, Nat.reduceLeDiff, Int.reduceSub, Int.reduceNeg, Int.reduceLT, Int.reduceLE, Int.reduceEq, *]
      with_reducible refine draw_look (by kernel_rfl) (by kernel_rfl) ?_
      simp (maxDischargeDepth := 9) only [go_sem, Nat.reduceMul, Nat.reduceAdd, Nat.reduceLeDiff, Int.reduceSub, Int.reduceNeg, Int.reduceLT, Int.reduceLE, Int.reduceEq, *]
      iterate 7
        with_reducible refine dop_val ?_
        simp (maxDischargeDepth := 9) only [go_sem, Nat.reduceMul, Nat.reduceAdd, Nat.reduceLeDiff, Int.reduceSub, Int.reduceNeg, Int.reduceLT, Int.reduceLE, Int.reduceEq, *]
      with_reducible refine dop_loud (by kernel_rfl) ?_
      simp (maxDischargeDepth := 9) only [go_sem, Nat.reduceMul, Nat.reduceAdd, Nat.reduceLeDiff, Int.reduceSub, Int.reduceNeg, Int.reduceLT, Int.reduceLE, Int.reduceEq, *]
      refine Ys_call (visit_call hp ?_ ?_ ?_ ?_ ?_ hrun hR0 hR1 hR2 hR3) ?_
      all_goals (try (simp (maxDischargeDepth := 9) only [go_sem, Nat.reduceMul, Nat.reduceAdd, Nat.reduceLeDiff, Int.reduceSub, Int.reduceNeg, Int.reduceLT, Int.reduceLE, Int.reduceEq, *]; done))
      rintro st2 ⟨hg2, hn2, hq0, hq1, hq2, hq3⟩
      simp (maxDischargeDepth := 9) only [go_sem, Nat.reduceMul, Nat.reduceAdd, Nat.reduceLeDiff, Int.reduceSub, Int.reduceNeg, Int.reduceLT, Int.reduceLE, Int.reduceEq, *]
      exact ⟨rfl, clo_or hI⟩
    · intro S2 s hI hf hS
      clear hn0 e25 q0 q1 q2 q3
      simp only [go_sem] at hS
      obtain ⟨f2, f3, f23, f24, f25, m0, m1, m2, m3, hn⟩ := hS
      try simp only [go_sem] at hf
      have hS2 : S2 = fun g => S g || hist b (m : Int) g := by
        rw [← hf, foldl_or]; funext g; rw [hist_step, Bool.or_assoc]; rfl
      subst hS2
      refine rn ?_
      simp (maxDischargeDepth := 9) only [go_sem, Nat.reduceMul, Nat.reduceAdd, Nat.reduceLeDiff, Int.reduceSub, Int.reduceNeg, Int.reduceLT, Int.reduceLE, Int.reduceEq, *]
      all_goals exact AU_visit
end Go.Proofs.Ytficdonjodadlaa
end
section
set_option linter.unusedSimpArgs false
set_option linter.unusedVariables false
set_option maxRecDepth 100000
set_option maxHeartbeats 4000000
namespace Go.Proofs.Ytficdonjodadlaa
open Go.Ev Go.Proofs
theorem history_ans (ext : CallF) (k : Nat) (b : IV) (e : Int) (p : Nat) (hk : maxLen + (D0 + 10) ≤ k) (hb : Ok b) (hp : p ≠ 0) (hfd : FD b = true) (he : e < ((asL (fld b 1)).length : Int)) (hz : (asL (fld b 1)).length ≤ 1000000) : ans (tab.run ext k) 60 [.iv p 29 b, .int .i64 e] 5 = some ([.one (.own 2 4 (bl (asL (fld b 1)).length (hist b e)))], [51]) := by
  obtain ⟨k, rfl⟩ : ∃ k', k = k' + 1 := ⟨k - 1, by omega⟩
  have hk1 : maxLen < k := by omega
  have hk0 : 0 < k := by omega
  refine fn_run (fx := fx60) (m := 14) 16 rfl rfl rfl rfl (fun st hn hg hr => ?_)
  have g0 : st.get (.tmp 0) = .v (.a (.iv p 29 b)) := hg 0 (of_decide_eq_true rfl)
  have g1 : st.get (.tmp 1) = .v (.a (.int .i64 e)) := hg 1 (of_decide_eq_true rfl)
  have r0 := hr 0
  have r1 := hr 1
  have r2 := hr 2
  have r3 := hr 3
  have r4 := hr 4
  clear hg hr
  rw [co60]
  simp only [Try.f60, Option.getD_some]
  have hl1 := ok_len (ok_fld (j := 1) hb)
  have hD := D0_ge
  obtain ⟨m2, hrun, hR0, hR1, hR2, hR3⟩ := visit_run ext b p hb hp hfd hz (asL (fld b 1)).length k e (fun _ => false) he (Nat.le_refl _) (fun _ => clo_no) (by omega)
  simp (maxDischargeDepth := 9) only [go_sem, Nat.reduceMul, Nat.reduceAdd, Nat.reduceLeDiff, Int.reduceSub, Int.reduceNeg, Int.reduceLT, Int.reduceLE, Int.reduceEq, *]
  refine Ys_call (hist_call hp ?_ ?_ ?_ ?_ ?_ hrun hR0 hR1 hR2 hR3) ?_
  all_goals (try (simp (maxDischargeDepth := 9) only [go_sem, Nat.reduceMul, Nat.reduceAdd, Nat.reduceLeDiff, Int.reduceSub, Int.reduceNeg, Int.reduceLT, Int.reduceLE, Int.reduceEq, *]; done))
  rintro st2 ⟨hg2, hn2, hq1, hq2, hq0, hq3⟩
  simp (maxDischargeDepth := 9) only [go_sem, Nat.reduceMul, Nat.reduceAdd, Nat.reduceLeDiff, Int.reduceSub, Int.reduceNeg, Int.reduceLT, Int.reduceLE, Int.reduceEq, *]
end Go.Proofs.Ytficdonjodadlaa
end
section
set_option linter.unusedSimpArgs false
set_option linter.unusedVariables false
set_option maxRecDepth 100000
set_option maxHeartbeats 4000000
namespace Go.Proofs.Ytficdonjodadlaa
open Go.Ev Go.Proofs
theorem conflict_ans (ext : CallF) (k : Nat) (hE : ExC ext) (b : IV) (e f : Int) (p : Nat) (hk : maxLen + (D0 + 20) ≤ k) (hb : Ok b) (hp : p ≠ 0) (hz : (asL (fld b 1)).length ≤ 1000000) : ans (tab.run ext k) 28 [.iv p 29 b, .int .i64 e, .int .i64 f] 1 = some ([.one (.at (.bool (IN b e && IN b f && CLf b (hist b e) (hist b f))))], [4]) := by
  obtain ⟨k, rfl⟩ : ∃ k', k = k' + 1 := ⟨k - 1, by omega⟩
  have hk1 : maxLen < k := by omega
  have hk0 : 0 < k := by omega
  have hk_0 : maxLen + (4) ≤ k := by omega
  have hk_1 : maxLen + (D0 + 10) ≤ k := by omega
  refine fn_run (fx := fx28) (m := 22) 25 rfl rfl rfl rfl (fun st hn hg hr => ?_)
  have g0 : st.get (.tmp 0) = .v (.a (.iv p 29 b)) := hg 0 (of_decide_eq_true rfl)
  have g1 : st.get (.tmp 1) = .v (.a (.int .i64 e)) := hg 1 (of_decide_eq_true rfl)
  have g2 : st.get (.tmp 2) = .v (.a (.int .i64 f)) := hg 2 (of_decide_eq_true rfl)
  have r0 := hr 0
  clear hg hr
  rw [co28]
  simp only [Try.f28, Option.getD_some]
  unfold IN
  by_cases hc0 : FD b = true
  case neg =>
    have hc0n : FD b = false := by simpa using hc0
    simp (maxDischargeDepth := 9) only [go_sem, Nat.reduceMul, Nat.reduceAdd, Nat.reduceLeDiff, Int.reduceSub, Int.reduceNeg, Int.reduceLT, Int.reduceLE, Int.reduceEq, *, inside_ans, history_ans, IN, ans_ext]
    repeat' (first | (with_reducible refine condLt (fun h h' => ?_) (fun h h' => ?_)) | (with_reducible refine condLe (fun h h' => ?_) (fun h h' => ?_)) | (with_reducible refine dop_val ?_) | (with_reducible refine YsLt (fun h h' => ?_) (fun h h' => ?_)) | (with_reducible refine YsLe (fun h h' => ?_) (fun h h' => ?_)) | (with_reducible refine condP (fun h => ?_) (fun h => ?_)) | (with_reducible refine condN (fun h => ?_) (fun h => ?_)) | (with_reducible refine condB (fun h => ?_) (fun h => ?_)) | (with_reducible refine condR (fun h => ?_) (fun h => ?_)) | (with_reducible refine YsB (fun h => ?_) (fun h => ?_)) | (with_reducible refine YsC (fun h => ?_) (fun h => ?_)) | (with_reducible refine Ys_ite (fun h => ?_) (fun h => ?_)) | (intro h) | (with_reducible refine draw_look (by kernel_rfl) (by kernel_rfl) ?_) | (simp (maxDischargeDepth := 9) only [go_sem, Nat.reduceMul, Nat.reduceAdd, Nat.reduceLeDiff, Int.reduceSub, Int.reduceNeg, Int.reduceLT, Int.reduceLE, Int.reduceEq, *, inside_ans, history_ans, IN, ans_ext]) | (exfalso; omega))
  by_cases hc1 : (0 : Int) ≤ e
  case neg =>
    skip
    simp (maxDischargeDepth := 9) only [go_sem, Nat.reduceMul, Nat.reduceAdd, Nat.reduceLeDiff, Int.reduceSub, Int.reduceNeg, Int.reduceLT, Int.reduceLE, Int.reduceEq, *, inside_ans, history_ans, IN, ans_ext]
    repeat' (first | (with_reducible refine condLt (fun h h' => ?_) (fun h h' => ?_)) | (with_reducible refine condLe (fun h h' => ?_) (fun h h' => ?_)) | (with_reducible refine dop_val ?_) | (with_reducible refine YsLt (fun h h' => ?_) (fun h h' => ?_)) | (with_reducible refine YsLe (fun h h' => ?_) (fun h h' => ?_)) | (with_reducible refine condP (fun h => ?_) (fun h => ?_)) | (with_reducible refine condN (fun h => ?_) (fun h => ?_)) | (with_reducible refine condB (fun h => ?_) (fun h => ?_)) | (with_reducible refine condR (fun h => ?_) (fun h => ?_)) | (with_reducible refine YsB (fun h => ?_) (fun h => ?_)) | (with_reducible refine YsC (fun h => ?_) (fun h => ?_)) | (with_reducible refine Ys_ite (fun h => ?_) (fun h => ?_)) | (intro h) | (with_reducible refine draw_look (by kernel_rfl) (by kernel_rfl) ?_) | (simp (maxDischargeDepth := 9) only [go_sem, Nat.reduceMul, Nat.reduceAdd, Nat.reduceLeDiff, Int.reduceSub, Int.reduceNeg, Int.reduceLT, Int.reduceLE, Int.reduceEq, *, inside_ans, history_ans, IN, ans_ext]) | (exfalso; omega))
  by_cases hc2 : e < ((asL (fld b 1)).length : Int)
  case neg =>
    skip
    simp (maxDischargeDepth := 9) only [go_sem, Nat.reduceMul, Nat.reduceAdd, Nat.reduceLeDiff, Int.reduceSub, Int.reduceNeg, Int.reduceLT, Int.reduceLE, Int.reduceEq, *, inside_ans, history_ans, IN, ans_ext]
    repeat' (first | (with_reducible refine condLt (fun h h' => ?_) (fun h h' => ?_)) | (with_reducible refine condLe (fun h h' => ?_) (fun h h' => ?_)) | (with_reducible refine dop_val ?_) | (with_reducible refine YsLt (fun h h' => ?_) (fun h h' => ?_)) | (with_reducible refine YsLe (fun h h' => ?_) (fun h h' => ?_)) | (with_reducible refine condP (fun h => ?_) (fun h => ?_)) | (with_reducible refine condN (fun h => ?_) (fun h => ?_)) | (with_reducible refine condB (fun h => ?_) (fun h => ?_)) | (with_reducible refine condR (fun h => ?_) (fun h => ?_)) | (with_reducible refine YsB (fun h => ?_) (fun h => ?_)) | (with_reducible refine YsC (fun h => ?_) (fun h => ?_)) | (with_reducible refine Ys_ite (fun h => ?_) (fun h => ?_)) | (intro h) | (with_reducible refine draw_look (by kernel_rfl) (by kernel_rfl) ?_) | (simp (maxDischargeDepth := 9) only [go_sem, Nat.reduceMul, Nat.reduceAdd, Nat.reduceLeDiff, Int.reduceSub, Int.reduceNeg, Int.reduceLT, Int.reduceLE, Int.reduceEq, *, inside_ans, history_ans, IN, ans_ext]) | (exfalso; omega))
  by_cases hc3 : (0 : Int) ≤ f
  case neg =>
    skip
    simp (maxDischargeDepth := 9) only [go_sem, Nat.reduceMul, Nat.reduceAdd, Nat.reduceLeDiff, Int.reduceSub, Int.reduceNeg, Int.reduceLT, Int.reduceLE, Int.reduceEq, *, inside_ans, history_ans, IN, ans_ext]
    repeat' (first | (with_reducible refine condLt (fun h h' => ?_) (fun h h' => ?_)) | (with_reducible refine condLe (fun h h' => ?_) (fun h h' => ?_)) | (with_reducible refine dop_val ?_) | (with_reducible refine YsLt (fun h h' => ?_) (fun h h' => ?_)) | (with_reducible refine YsLe (fun h h' => ?_) (fun h h' => ?_)) | (with_reducible refine condP (fun h => ?_) (fun h => ?_)) | (with_reducible refine condN (fun h => ?_) (fun h => ?_)) | (with_reducible refine condB (fun h => ?_) (fun h => ?_)) | (with_reducible refine condR (fun h => ?_) (fun h => ?_)) | (with_reducible refine YsB (fun h => ?_) (fun h => ?_)) | (with_reducible refine YsC (fun h => ?_) (fun h => ?_)) | (with_reducible refine Ys_ite (fun h => ?_) (fun h => ?_)) | (intro h) | (with_reducible refine draw_look (by kernel_rfl) (by kernel_rfl) ?_) | (simp (maxDischargeDepth := 9) only [go_sem, Nat.reduceMul, Nat.reduceAdd, Nat.reduceLeDiff, Int.reduceSub, Int.reduceNeg, Int.reduceLT, Int.reduceLE, Int.reduceEq, *, inside_ans, history_ans, IN, ans_ext]) | (exfalso; omega))
  by_cases hc4 : f < ((asL (fld b 1)).length : Int)
  case neg =>
    skip
    simp (maxDischargeDepth := 9) only [go_sem, Nat.reduceMul, Nat.reduceAdd, Nat.reduceLeDiff, Int.reduceSub, Int.reduceNeg, Int.reduceLT, Int.reduceLE, Int.reduceEq, *, inside_ans, history_ans, IN, ans_ext]
    repeat' (first | (with_reducible refine condLt (fun h h' => ?_) (fun h h' => ?_)) | (with_reducible refine condLe (fun h h' => ?_) (fun h h' => ?_)) | (with_reducible refine dop_val ?_) | (with_reducible refine YsLt (fun h h' => ?_) (fun h h' => ?_)) | (with_reducible refine YsLe (fun h h' => ?_) (fun h h' => ?_)) | (with_reducible refine condP (fun h => ?_) (fun h => ?_)) | (with_reducible refine condN (fun h => ?_) (fun h => ?_)) | (with_reducible refine condB (fun h => ?_) (fun h => ?_)) | (with_reducible refine condR (fun h => ?_) (fun h => ?_)) | (with_reducible refine YsB (fun h => ?_) (fun h => ?_)) | (with_reducible refine YsC (fun h => ?_) (fun h => ?_)) | (with_reducible refine Ys_ite (fun h => ?_) (fun h => ?_)) | (intro h) | (with_reducible refine draw_look (by kernel_rfl) (by kernel_rfl) ?_) | (simp (maxDischargeDepth := 9) only [go_sem, Nat.reduceMul, Nat.reduceAdd, Nat.reduceLeDiff, Int.reduceSub, Int.reduceNeg, Int.reduceLT, Int.reduceLE, Int.reduceEq, *, inside_ans, history_ans, IN, ans_ext]) | (exfalso; omega))
  have hcl := hE b p 2 2 (hist b e) (hist b f) hb hc0 hz
  simp (maxDischargeDepth := 9) only [go_sem, Nat.reduceMul, Nat.reduceAdd, Nat.reduceLeDiff, Int.reduceSub, Int.reduceNeg, Int.reduceLT, Int.reduceLE, Int.reduceEq, *, inside_ans, history_ans, IN, ans_ext]
  repeat' (first | (with_reducible refine condLt (fun h h' => ?_) (fun h h' => ?_)) | (with_reducible refine condLe (fun h h' => ?_) (fun h h' => ?_)) | (with_reducible refine dop_val ?_) | (with_reducible refine YsLt (fun h h' => ?_) (fun h h' => ?_)) | (with_reducible refine YsLe (fun h h' => ?_) (fun h h' => ?_)) | (with_reducible refine condP (fun h => ?_) (fun h => ?_)) | (with_reducible refine condN (fun h => ?_) (fun h => ?_)) | (with_reducible refine condB (fun h => ?_) (fun h => ?_)) | (with_reducible refine condR (fun h => ?_) (fun h => ?_)) | (with_reducible refine YsB (fun h => ?_) (fun h => ?_)) | (with_reducible refine YsC (fun h => ?_) (fun h => ?_)) | (with_reducible refine Ys_ite (fun h => ?_) (fun h => ?_)) | (intro h) | (with_reducible refine draw_look (by kernel_rfl) (by kernel_rfl) ?_) | (simp (maxDischargeDepth := 9) only [go_sem, Nat.reduceMul, Nat.reduceAdd, Nat.reduceLeDiff, Int.reduceSub, Int.reduceNeg, Int.reduceLT, Int.reduceLE, Int.reduceEq, *, inside_ans, history_ans, IN, ans_ext]) | (exfalso; omega))
end Go.Proofs.Ytficdonjodadlaa
end
section
set_option linter.unusedSimpArgs false
set_option linter.unusedVariables false
set_option maxRecDepth 100000
namespace Go.Proofs.Ytficdonjodadlaa
open Go.Ev Go.Proofs
theorem add_call {st : St} {call : CallF} {c : Int} {s : ByteArray} {l l2 : List IV} {m2 : Mem} {t : Tmp}
    (r2 : st.row 2 = some (.box false 82 [0] (.a (.own 3)))) (r3 : st.row 3 = some (.arr 2 9 l))
    (ho : st.get (.tmp t) = .v (.a (.str s)))
    (hrun : call 65 [.str s, .ptr 1 [] 82] [none, some (.box true 82 [0] (.a (.own 2))), some (.arr 2 9 l)] = some ([.one (.at (.int .i64 c))], [34], m2))
    (h1 : rowIn m2 1 = some (.box true 82 [0] (.a (.own 2)))) (h2 : rowIn m2 2 = some (.arr 2 9 l2)) :
    ∃ st', st.callee tab call 65 [2] [9] [.tmp t] = some ([.one (.at (.int .i64 c))], [34], st') ∧ (∀ d, st'.get (.tmp d) = (st.get (.tmp d)).map (At.killL [3])) ∧ st'.env.length = st.env.length ∧
      st'.row 2 = some (.box false 82 [0] (.a (.own 3))) ∧ st'.row 3 = some (.arr 2 9 l2) ∧ (∀ j, j ≠ 2 → j ≠ 3 → st'.row j = (st.row j).map (Row.map (At.killL [3]))) := by
  have e1 : st.reach 60 ([2] ++ [Operand.tmp t].flatMap fun o => (st.get o).caps) [] = [2] := by
    simp [St.reach, ho, SV.caps, St.capsAt, r2, V1.caps]
  have e2 : st.pairs (tab.nk 65) [2] = [(2, 1), (3, 2)] := by
    simp [St.pairs, nk65, St.ownAt, r2]
  have e3 : st.handOver (tab.nk 65) [(2, 1), (3, 2)] = [none, some (.box true 82 [0] (.a (.own 2))), some (.arr 2 9 l)] := by
    simp [St.handOver, nk65, setD, r2, r3, Row.tr, At.tr, V1.map, List.lookup]
  have e4 : st.args tab [(2, 1), (3, 2)] [9] [.tmp t] = some [.str s] := by
    simp [St.args, ho, St.arg]
  have e5 : [2].mapM (st.capPtr [(2, 1), (3, 2)]) = some [.ptr 1 [] 82] := by
    simp [St.capPtr, List.lookup, r2]
  have e6 : (nodup (([(2, 1), (3, 2)] : List (Nat × Nat)).map (·.1)) && nodup (([(2, 1), (3, 2)] : List (Nat × Nat)).map (·.2)) && [2].all st.isBox && st.handOk [(2, 1), (3, 2)] && [Operand.tmp t].all (fun o => (st.get o).viewKeys.all fun k => !((([(2, 1), (3, 2)] : List (Nat × Nat)).map (·.1)).contains k))) = true := by
    simp [nodup, St.isBox, r2, r3, St.handOk, ho, SV.viewKeys, At.viewKeys]
  refine ⟨((st.killL [3]).putRow 2 (some (.box false 82 [0] (.a (.own 3))))).putRow 3 (some (.arr 2 9 l2)), ?_, fun d => ?_, ?_, ?_, ?_, fun j h2 h3 => ?_⟩
  · unfold St.callee
    rw [e1, e2]
    unfold St.callee1
    rw [if_pos e6, e4, Option.bind_some, e5, Option.bind_some, e3]
    simp only [List.cons_append, List.nil_append]
    rw [hrun, Option.bind_some]
    simp [St.takeBack, elders, backRows, backRow, h1, h2, r2, V1.map, At.tr, swap, List.lookup]
  · simp only [get_put, get_killL]
  · simp only [len_put, len_killL]
  · simp [St.row_put]
  · simp [St.row_put]
  · rw [St.row_put, if_neg h3, St.row_put, if_neg h2, row_killL, if_neg (by simpa using h3)]
end Go.Proofs.Ytficdonjodadlaa
end
section
set_option linter.unusedSimpArgs false
set_option linter.unusedVariables false
set_option maxRecDepth 100000
set_option maxHeartbeats 4000000
namespace Go.Proofs.Ytficdonjodadlaa
open Go.Ev Go.Proofs
theorem AU_carcs {p : Prop} (h : p := by
  repeat' (first | (with_reducible refine condLt (fun h h' => ?_) (fun h h' => ?_)) | (with_reducible refine condLe (fun h h' => ?_) (fun h h' => ?_)) | (with_reducible refine dop_val ?_) | (with_reducible refine YsLt (fun h h' => ?_) (fun h h' => ?_)) | (with_reducible refine YsLe (fun h h' => ?_) (fun h h' => ?_)) | (with_reducible refine condP (fun h => ?_) (fun h => ?_)) | (with_reducible refine condN (fun h => ?_) (fun h => ?_)) | (with_reducible refine condB (fun h => ?_) (fun h => ?_)) | (with_reducible refine condR (fun h => ?_) (fun h => ?_)) | (with_reducible refine YsB (fun h => ?_) (fun h => ?_)) | (with_reducible refine YsC (fun h => ?_) (fun h => ?_)) | (with_reducible refine Ys_ite (fun h => ?_) (fun h => ?_)) | (intro h) | (with_reducible refine draw_look (by kernel_rfl) (by kernel_rfl) ?_) | (simp (maxDischargeDepth := 9) only [go_sem, Nat.reduceMul, Nat.reduceAdd, Nat.reduceLeDiff, Int.reduceSub, Int.reduceNeg, Int.reduceLT, Int.reduceLE, Int.reduceEq, *, arS]) | (exfalso; omega))) : p := h
theorem carcs_ans (ext : CallF) (k : Nat) (l : IV) (m : Int) (p : Nat) (hk : maxLen + (2) ≤ k) (hv : Ok l) : ans (tab.run ext k) 88 [.iv p 60 l, .int .i64 m] 1 = some ([.one (.at (.int .i64 (AR l m)))], [34]) := by
  obtain ⟨k, rfl⟩ : ∃ k', k = k' + 1 := ⟨k - 1, by omega⟩
  have hk1 : maxLen < k := by omega
  have hk0 : 0 < k := by omega
  refine fn_run (fx := fx88) (m := 46) 48 rfl rfl rfl rfl (fun st hn hg hr => ?_)
  have g0 : st.get (.tmp 0) = .v (.a (.iv p 60 l)) := hg 0 (of_decide_eq_true rfl)
  have g1 : st.get (.tmp 1) = .v (.a (.int .i64 m)) := hg 1 (of_decide_eq_true rfl)
  have r0 := hr 0
  clear hg hr
  rw [co88]
  simp only [Try.f88, Option.getD_some]
  unfold AR
  simp (maxDischargeDepth := 9) only [go_sem, Nat.reduceMul, Nat.reduceAdd, Nat.reduceLeDiff, Int.reduceSub, Int.reduceNeg, Int.reduceLT, Int.reduceLE, Int.reduceEq, *, arS]
  refine gen_st (fun s0 hg hr hn0 => ?_)
  have e0 := hg 0
  have e1 := hg 1
  have e7 := hg 7
  have e8 := hg 8
  have e9 := hg 9
  clear hg hr
  simp only [go_sem, *] at hn0 e0 e1 e7 e8 e9
  have hl := ok_len hv
  refine nr (runs_forN (asL l).length (arS l m) () 48 (fun i a => [(0, s0.get (.tmp 0)), (1, s0.get (.tmp 1)), (7, s0.get (.tmp 7)), (8, s0.get (.tmp 8)), (9, .v (.a (.int .i64 i)))]) (fun i a => []) (fun i a => True) (by omega) ?_ (trivial) ?_ ?_ ?_ ?_)
  · simp (maxDischargeDepth := 9) only [go_sem, Nat.reduceMul, Nat.reduceAdd, Nat.reduceLeDiff, Int.reduceSub, Int.reduceNeg, Int.reduceLT, Int.reduceLE, Int.reduceEq, *, arS]
  · intro i a; simp (maxDischargeDepth := 9) only [go_sem, Nat.reduceMul, Nat.reduceAdd, Nat.reduceLeDiff, Int.reduceSub, Int.reduceNeg, Int.reduceLT, Int.reduceLE, Int.reduceEq, *, arS]
  · intro i a; simp (maxDischargeDepth := 9) only [go_sem, Nat.reduceMul, Nat.reduceAdd, Nat.reduceLeDiff, Int.reduceSub, Int.reduceNeg, Int.reduceLT, Int.reduceLE, Int.reduceEq, *, arS]
  · intro i a s hi hI hS
    clear hn0 e9
    simp only [go_sem] at hS
    obtain ⟨f0, f1, f7, f8, f9, hn⟩ := hS
    have hw := wrap_succ hi (ok_len hv)
    have hwm : 0 < i → IntKind.i64.wrap ((i : Int) - 1) = ((i - 1 : Nat) : Int) := fun h => by
      rw [Go.IntWalk.i64_in _ (by unfold maxLen at hl; omega)]; omega
    have hi1 : i - 1 < (asL l).length := by omega
    refine rn ?_
    simp (maxDischargeDepth := 9) only [go_sem, Nat.reduceMul, Nat.reduceAdd, Nat.reduceLeDiff, Int.reduceSub, Int.reduceNeg, Int.reduceLT, Int.reduceLE, Int.reduceEq, *, arS]
    all_goals exact AU_carcs
  · intro a s hI hf hS
    clear hn0 e9
    simp only [go_sem] at hS
    obtain ⟨f0, f1, f7, f8, f9, hn⟩ := hS
    try simp only [go_sem] at hf
    refine rn ?_
    simp (maxDischargeDepth := 9) only [go_sem, Nat.reduceMul, Nat.reduceAdd, Nat.reduceLeDiff, Int.reduceSub, Int.reduceNeg, Int.reduceLT, Int.reduceLE, Int.reduceEq, *, arS]
    all_goals exact AU_carcs
theorem AU_mvalid {p : Prop} (h : p := by
  repeat' (first | (with_reducible refine condLt (fun h h' => ?_) (fun h h' => ?_)) | (with_reducible refine condLe (fun h h' => ?_) (fun h h' => ?_)) | (with_reducible refine dop_val ?_) | (with_reducible refine YsLt (fun h h' => ?_) (fun h h' => ?_)) | (with_reducible refine YsLe (fun h h' => ?_) (fun h h' => ?_)) | (with_reducible refine condP (fun h => ?_) (fun h => ?_)) | (with_reducible refine condN (fun h => ?_) (fun h => ?_)) | (with_reducible refine condB (fun h => ?_) (fun h => ?_)) | (with_reducible refine condR (fun h => ?_) (fun h => ?_)) | (with_reducible refine YsB (fun h => ?_) (fun h => ?_)) | (with_reducible refine YsC (fun h => ?_) (fun h => ?_)) | (with_reducible refine Ys_ite (fun h => ?_) (fun h => ?_)) | (intro h) | (with_reducible refine draw_look (by kernel_rfl) (by kernel_rfl) ?_) | (simp (maxDischargeDepth := 9) only [go_sem, Nat.reduceMul, Nat.reduceAdd, Nat.reduceLeDiff, Int.reduceSub, Int.reduceNeg, Int.reduceLT, Int.reduceLE, Int.reduceEq, *]) | (exfalso; omega))) : p := h
theorem mvalid_ans (ext : CallF) (k : Nat) (l : IV) (n : Int) (p : Nat) (hk : maxLen + (2) ≤ k) (hv : Ok l) : ans (tab.run ext k) 87 [.iv p 46 l, .int .i64 n] 0 = some ([.one (.at (.bool (VA l n)))], [4]) := by
  obtain ⟨k, rfl⟩ : ∃ k', k = k' + 1 := ⟨k - 1, by omega⟩
  have hk1 : maxLen < k := by omega
  have hk0 : 0 < k := by omega
  refine fn_run (fx := fx87) (m := 22) 24 rfl rfl rfl rfl (fun st hn hg hr => ?_)
  have g0 : st.get (.tmp 0) = .v (.a (.iv p 46 l)) := hg 0 (of_decide_eq_true rfl)
  have g1 : st.get (.tmp 1) = .v (.a (.int .i64 n)) := hg 1 (of_decide_eq_true rfl)
  clear hg hr
  rw [co87]
  simp only [Try.f87, Option.getD_some]
  unfold VA
  simp (maxDischargeDepth := 9) only [go_sem, Nat.reduceMul, Nat.reduceAdd, Nat.reduceLeDiff, Int.reduceSub, Int.reduceNeg, Int.reduceLT, Int.reduceLE, Int.reduceEq, *]
  with_reducible refine condN (fun h => ?_) (fun heq => ?_)
  · simp (maxDischargeDepth := 9) only [go_sem, Nat.reduceMul, Nat.reduceAdd, Nat.reduceLeDiff, Int.reduceSub, Int.reduceNeg, Int.reduceLT, Int.reduceLE, Int.reduceEq, *]
  subst heq
  simp (maxDischargeDepth := 9) only [go_sem, Nat.reduceMul, Nat.reduceAdd, Nat.reduceLeDiff, Int.reduceSub, Int.reduceNeg, Int.reduceLT, Int.reduceLE, Int.reduceEq, *]
  refine gen_st (fun s0 hg hr hn0 => ?_)
  have e11 := hg 11
  have e12 := hg 12
  have e13 := hg 13
  clear hg hr
  simp only [go_sem, *] at hn0 e11 e12 e13
  have hl := ok_len hv
  refine nr (runs_for (asL l) (fun (_ : Unit) x => if asI x < 0 ∨ 1048576 < asI x then .ret false else .next ()) () 24 (fun i a => [(11, s0.get (.tmp 11)), (12, s0.get (.tmp 12)), (13, .v (.a (.int .i64 i)))]) (fun i a => []) (fun i a => True) (by omega) ?_ (trivial) ?_ ?_ ?_ ?_)
  · simp (maxDischargeDepth := 9) only [go_sem, Nat.reduceMul, Nat.reduceAdd, Nat.reduceLeDiff, Int.reduceSub, Int.reduceNeg, Int.reduceLT, Int.reduceLE, Int.reduceEq, *]
  · intro i a; simp (maxDischargeDepth := 9) only [go_sem, Nat.reduceMul, Nat.reduceAdd, Nat.reduceLeDiff, Int.reduceSub, Int.reduceNeg, Int.reduceLT, Int.reduceLE, Int.reduceEq, *]
  · intro i a; simp (maxDischargeDepth := 9) only [go_sem, Nat.reduceMul, Nat.reduceAdd, Nat.reduceLeDiff, Int.reduceSub, Int.reduceNeg, Int.reduceLT, Int.reduceLE, Int.reduceEq, *]
  · intro i x a s hx hi hI hS
    clear hn0 e13
    simp only [go_sem] at hS
    obtain ⟨f11, f12, f13, hn⟩ := hS
    have hw := wrap_succ hi (ok_len hv)
    refine rn ?_
    simp (maxDischargeDepth := 9) only [go_sem, Nat.reduceMul, Nat.reduceAdd, Nat.reduceLeDiff, Int.reduceSub, Int.reduceNeg, Int.reduceLT, Int.reduceLE, Int.reduceEq, *]
    all_goals exact AU_mvalid
  · intro a s hI hf hS
    clear hn0 e13
    simp only [go_sem] at hS
    obtain ⟨f11, f12, f13, hn⟩ := hS
    try simp only [go_sem] at hf
    refine rn ?_
    simp (maxDischargeDepth := 9) only [go_sem, Nat.reduceMul, Nat.reduceAdd, Nat.reduceLeDiff, Int.reduceSub, Int.reduceNeg, Int.reduceLT, Int.reduceLE, Int.reduceEq, *]
    all_goals exact AU_mvalid
theorem cplace_ans (ext : CallF) (k : Nat) (x : IV) (p : Nat) (hk : maxLen + (4) ≤ k) (hv : Ok x) : ans (tab.run ext k) 66 [.iv p 59 x] 1 = some ([.one (.at (.int .i64 (PL x)))], [34]) := by
  obtain ⟨k, rfl⟩ : ∃ k', k = k' + 1 := ⟨k - 1, by omega⟩
  have hk1 : maxLen < k := by omega
  have hk0 : 0 < k := by omega
  have hk_0 : maxLen + (2) ≤ k := by omega
  refine fn_run (fx := fx66) (m := 27) 28 rfl rfl rfl rfl (fun st hn hg hr => ?_)
  have g0 : st.get (.tmp 0) = .v (.a (.iv p 59 x)) := hg 0 (of_decide_eq_true rfl)
  have r0 := hr 0
  clear hg hr
  rw [co66]
  simp only [Try.f66, Option.getD_some]
  unfold PL
  simp (maxDischargeDepth := 9) only [go_sem, Nat.reduceMul, Nat.reduceAdd, Nat.reduceLeDiff, Int.reduceSub, Int.reduceNeg, Int.reduceLT, Int.reduceLE, Int.reduceEq, *, mvalid_ans, VA_one, ok_one]
  repeat' (first | (with_reducible refine condLt (fun h h' => ?_) (fun h h' => ?_)) | (with_reducible refine condLe (fun h h' => ?_) (fun h h' => ?_)) | (with_reducible refine dop_val ?_) | (with_reducible refine YsLt (fun h h' => ?_) (fun h h' => ?_)) | (with_reducible refine YsLe (fun h h' => ?_) (fun h h' => ?_)) | (with_reducible refine condP (fun h => ?_) (fun h => ?_)) | (with_reducible refine condN (fun h => ?_) (fun h => ?_)) | (with_reducible refine condB (fun h => ?_) (fun h => ?_)) | (with_reducible refine condR (fun h => ?_) (fun h => ?_)) | (with_reducible refine YsB (fun h => ?_) (fun h => ?_)) | (with_reducible refine YsC (fun h => ?_) (fun h => ?_)) | (with_reducible refine Ys_ite (fun h => ?_) (fun h => ?_)) | (intro h) | (with_reducible refine draw_look (by kernel_rfl) (by kernel_rfl) ?_) | (simp (maxDischargeDepth := 9) only [go_sem, Nat.reduceMul, Nat.reduceAdd, Nat.reduceLeDiff, Int.reduceSub, Int.reduceNeg, Int.reduceLT, Int.reduceLE, Int.reduceEq, *, mvalid_ans, VA_one, ok_one]) | (exfalso; omega))
theorem AU_ctrans {p : Prop} (h : p := by
  repeat' (first | (with_reducible refine condLt (fun h h' => ?_) (fun h h' => ?_)) | (with_reducible refine condLe (fun h h' => ?_) (fun h h' => ?_)) | (with_reducible refine dop_val ?_) | (with_reducible refine YsLt (fun h h' => ?_) (fun h h' => ?_)) | (with_reducible refine YsLe (fun h h' => ?_) (fun h h' => ?_)) | (with_reducible refine condP (fun h => ?_) (fun h => ?_)) | (with_reducible refine condN (fun h => ?_) (fun h => ?_)) | (with_reducible refine condB (fun h => ?_) (fun h => ?_)) | (with_reducible refine condR (fun h => ?_) (fun h => ?_)) | (with_reducible refine YsB (fun h => ?_) (fun h => ?_)) | (with_reducible refine YsC (fun h => ?_) (fun h => ?_)) | (with_reducible refine Ys_ite (fun h => ?_) (fun h => ?_)) | (intro h) | (with_reducible refine draw_look (by kernel_rfl) (by kernel_rfl) ?_) | (simp (maxDischargeDepth := 9) only [go_sem, Nat.reduceMul, Nat.reduceAdd, Nat.reduceLeDiff, Int.reduceSub, Int.reduceNeg, Int.reduceLT, Int.reduceLE, Int.reduceEq, *, carcs_ans]) | (exfalso; omega))) : p := h
theorem ctrans_ans (ext : CallF) (k : Nat) (x : IV) (m : Int) (p : Nat) (hk : maxLen + (4) ≤ k) (hv : Ok x) : ans (tab.run ext k) 67 [.iv p 62 x, .int .i64 m] 1 = some ([.one (.at (.int .i64 (TR x m)))], [34]) := by
  obtain ⟨k, rfl⟩ : ∃ k', k = k' + 1 := ⟨k - 1, by omega⟩
  have hk1 : maxLen < k := by omega
  have hk0 : 0 < k := by omega
  have hk_0 : maxLen + (2) ≤ k := by omega
  refine fn_run (fx := fx67) (m := 33) 35 rfl rfl rfl rfl (fun st hn hg hr => ?_)
  have g0 : st.get (.tmp 0) = .v (.a (.iv p 62 x)) := hg 0 (of_decide_eq_true rfl)
  have g1 : st.get (.tmp 1) = .v (.a (.int .i64 m)) := hg 1 (of_decide_eq_true rfl)
  have r0 := hr 0
  clear hg hr
  rw [co67]
  simp only [Try.f67, Option.getD_some]
  unfold TR
  rw [tr_fold]
  simp (maxDischargeDepth := 9) only [go_sem, Nat.reduceMul, Nat.reduceAdd, Nat.reduceLeDiff, Int.reduceSub, Int.reduceNeg, Int.reduceLT, Int.reduceLE, Int.reduceEq, *, carcs_ans]
  repeat' (first | (with_reducible refine condLt (fun h h' => ?_) (fun h h' => ?_)) | (with_reducible refine condLe (fun h h' => ?_) (fun h h' => ?_)) | (with_reducible refine dop_val ?_) | (with_reducible refine YsLt (fun h h' => ?_) (fun h h' => ?_)) | (with_reducible refine YsLe (fun h h' => ?_) (fun h h' => ?_)) | (with_reducible refine condP (fun h => ?_) (fun h => ?_)) | (with_reducible refine condN (fun h => ?_) (fun h => ?_)) | (with_reducible refine condB (fun h => ?_) (fun h => ?_)) | (with_reducible refine condR (fun h => ?_) (fun h => ?_)) | (with_reducible refine YsB (fun h => ?_) (fun h => ?_)) | (with_reducible refine YsC (fun h => ?_) (fun h => ?_)) | (with_reducible refine Ys_ite (fun h => ?_) (fun h => ?_)) | (intro h) | (with_reducible refine draw_look (by kernel_rfl) (by kernel_rfl) ?_) | (simp (maxDischargeDepth := 9) only [go_sem, Nat.reduceMul, Nat.reduceAdd, Nat.reduceLeDiff, Int.reduceSub, Int.reduceNeg, Int.reduceLT, Int.reduceLE, Int.reduceEq, *, carcs_ans]) | (exfalso; omega))
  refine gen_st (fun s0 hg hr hn0 => ?_)
  have e1 := hg 1
  have e22 := hg 22
  have e23 := hg 23
  have e24 := hg 24
  have q0 := hr 0
  clear hg hr
  simp only [go_sem, *] at hn0 e1 e22 e23 e24 q0
  refine nr (runs_for [fld x 1, fld x 2, fld x 3] (fun (_ : Unit) y => if AR y m = 0 then .next () else .ret (AR y m)) () 35 (fun i a => [(1, s0.get (.tmp 1)), (22, s0.get (.tmp 22)), (23, s0.get (.tmp 23)), (24, .v (.a (.int .i64 i)))]) (fun i a => [(0, s0.row 0)]) (fun i a => True) (by show 3 < k; unfold maxLen at hk1; omega) ?_ (trivial) ?_ ?_ ?_ ?_)
  · simp (maxDischargeDepth := 9) only [go_sem, Nat.reduceMul, Nat.reduceAdd, Nat.reduceLeDiff, Int.reduceSub, Int.reduceNeg, Int.reduceLT, Int.reduceLE, Int.reduceEq, *, carcs_ans]
  · intro i a; simp (maxDischargeDepth := 9) only [go_sem, Nat.reduceMul, Nat.reduceAdd, Nat.reduceLeDiff, Int.reduceSub, Int.reduceNeg, Int.reduceLT, Int.reduceLE, Int.reduceEq, *, carcs_ans]
  · intro i a; simp (maxDischargeDepth := 9) only [go_sem, Nat.reduceMul, Nat.reduceAdd, Nat.reduceLeDiff, Int.reduceSub, Int.reduceNeg, Int.reduceLT, Int.reduceLE, Int.reduceEq, *, carcs_ans]
  · intro i y a s hx hi hI hS
    clear hn0 e24
    simp only [go_sem] at hS
    obtain ⟨f1, f22, f23, f24, m0, hn⟩ := hS
    have hoy : Ok y := by
      have := List.mem_of_getElem? hx
      simp only [List.mem_cons, List.not_mem_nil, or_false] at this
      rcases this with rfl | rfl | rfl <;> exact ok_fld hv
    have hi3 : i < 3 := hi
    have hw : IntKind.i64.wrap ((i : Int) + 1) = ((i + 1 : Nat) : Int) := by
      rw [Go.IntWalk.i64_in _ (by omega)]; omega
    have hlt : (i : Int) < 3 := by omega
    refine rn ?_
    simp (maxDischargeDepth := 9) only [go_sem, Nat.reduceMul, Nat.reduceAdd, Nat.reduceLeDiff, Int.reduceSub, Int.reduceNeg, Int.reduceLT, Int.reduceLE, Int.reduceEq, *, carcs_ans]
    all_goals exact AU_ctrans
  · intro a s hI hf hS
    clear hn0 e24
    simp only [go_sem] at hS
    obtain ⟨f1, f22, f23, f24, m0, hn⟩ := hS
    try simp only [go_sem] at hf
    refine rn ?_
    simp (maxDischargeDepth := 9) only [go_sem, Nat.reduceMul, Nat.reduceAdd, Nat.reduceLeDiff, Int.reduceSub, Int.reduceNeg, Int.reduceLT, Int.reduceLE, Int.reduceEq, *, carcs_ans]
    all_goals exact AU_ctrans
end Go.Proofs.Ytficdonjodadlaa
end
section
set_option linter.unusedSimpArgs false
set_option linter.unusedVariables false
set_option maxRecDepth 100000
set_option maxHeartbeats 4000000
namespace Go.Proofs.Ytficdonjodadlaa
open Go.Ev Go.Proofs
theorem AU_addn {p : Prop} (h : p := by
  repeat' (first | (with_reducible refine condLt (fun h h' => ?_) (fun h h' => ?_)) | (with_reducible refine condLe (fun h h' => ?_) (fun h h' => ?_)) | (with_reducible refine dop_val ?_) | (with_reducible refine YsLt (fun h h' => ?_) (fun h h' => ?_)) | (with_reducible refine YsLe (fun h h' => ?_) (fun h h' => ?_)) | (with_reducible refine condP (fun h => ?_) (fun h => ?_)) | (with_reducible refine condN (fun h => ?_) (fun h => ?_)) | (with_reducible refine condB (fun h => ?_) (fun h => ?_)) | (with_reducible refine condR (fun h => ?_) (fun h => ?_)) | (with_reducible refine YsB (fun h => ?_) (fun h => ?_)) | (with_reducible refine YsC (fun h => ?_) (fun h => ?_)) | (with_reducible refine Ys_ite (fun h => ?_) (fun h => ?_)) | (intro h) | (with_reducible refine draw_look (by kernel_rfl) (by kernel_rfl) ?_) | (simp (maxDischargeDepth := 9) only [go_sem, Nat.reduceMul, Nat.reduceAdd, Nat.reduceLeDiff, Int.reduceSub, Int.reduceNeg, Int.reduceLT, Int.reduceLE, Int.reduceEq, *, ans_ext]) | (exfalso; omega))) : p := h
theorem add_run (ext : CallF) (hN : ExN ext) (k : Nat) (L : List IV) (s : ByteArray) (hz : L.length ≤ 999999) (hk : maxLen + 3 ≤ k) : ∃ m', tab.run ext k 65 [.str s, .ptr 1 [] 82] [none, some (.box true 82 [0] (.a (.own 2))), some (.arr 2 9 L)] = some ([.one (.at (.int .i64 (AD L s)))], [34], m') ∧ (fun R => R 1 = some (.box true 82 [0] (.a (.own 2))) ∧ R 2 = some (.arr 2 9 (if AD L s = 0 then L ++ [.S s] else L))) (rowIn m') := by
  obtain ⟨k, rfl⟩ : ∃ k', k = k' + 1 := ⟨k - 1, by omega⟩
  have hk0 : 0 < k := by omega
  have hl : L.length ≤ maxLen := by unfold maxLen; omega
  have hz1 : L.length + 1 ≤ 1000000 := by omega
  have hNs := hN s
  refine fn_mem (T := tab) (ext := ext) (k := k) (f := 65) (mem := [none, some (.box true 82 [0] (.a (.own 2))), some (.arr 2 9 L)]) (rs := [.one (.at (.int .i64 (AD L s)))]) (ts := [34]) (fx := fx65) (args := [.str s, .ptr 1 [] 82]) (m := 21) (R := (fun R => R 1 = some (.box true 82 [0] (.a (.own 2))) ∧ R 2 = some (.arr 2 9 (if AD L s = 0 then L ++ [.S s] else L)))) 23 rfl rfl rfl rfl (fun st hn hg hr => ?_)
  have g0 : st.get (.tmp 0) = .v (.a (.str s)) := hg 0 (of_decide_eq_true rfl)
  have g1 : st.get (.tmp 1) = .v (.a (.ptr 1 [] 82)) := hg 1 (of_decide_eq_true rfl)
  have r0 := hr 0
  have r1 := hr 1
  have r2 := hr 2
  clear hg hr
  simp only [go_sem] at r0 r1 r2
  rw [co65]
  simp only [Try.f65, Option.getD_some]
  unfold AD
  by_cases hnm : nmB s = true
  case neg =>
    have hnm2 : nmB s = false := by simpa using hnm
    simp (maxDischargeDepth := 9) only [go_sem, Nat.reduceMul, Nat.reduceAdd, Nat.reduceLeDiff, Int.reduceSub, Int.reduceNeg, Int.reduceLT, Int.reduceLE, Int.reduceEq, *, ans_ext]
  simp (maxDischargeDepth := 9) only [go_sem, Nat.reduceMul, Nat.reduceAdd, Nat.reduceLeDiff, Int.reduceSub, Int.reduceNeg, Int.reduceLT, Int.reduceLE, Int.reduceEq, *, ans_ext]
  refine gen_st (fun s0 hg hr hn0 => ?_)
  have e0 := hg 0
  have e1 := hg 1
  have e9 := hg 9
  have e10 := hg 10
  have e11 := hg 11
  have q1 := hr 1
  have q2 := hr 2
  clear hg hr
  simp only [go_sem, *] at hn0 e0 e1 e9 e10 e11 q1 q2
  refine nr (runs_for L (fun (_ : Unit) x => if (asS x == s) = true then .ret 6 else .next ()) () 23 (fun i a => [(0, s0.get (.tmp 0)), (1, s0.get (.tmp 1)), (9, s0.get (.tmp 9)), (10, s0.get (.tmp 10)), (11, .v (.a (.int .i64 i)))]) (fun i a => [(1, some (.box true 82 [0] (.a (.own 2)))), (2, some (.arr 2 9 L))]) (fun i a => True) (by omega) ?_ (trivial) ?_ ?_ ?_ ?_)
  · simp (maxDischargeDepth := 9) only [go_sem, Nat.reduceMul, Nat.reduceAdd, Nat.reduceLeDiff, Int.reduceSub, Int.reduceNeg, Int.reduceLT, Int.reduceLE, Int.reduceEq, *, ans_ext]
  · intro i a; simp (maxDischargeDepth := 9) only [go_sem, Nat.reduceMul, Nat.reduceAdd, Nat.reduceLeDiff, Int.reduceSub, Int.reduceNeg, Int.reduceLT, Int.reduceLE, Int.reduceEq, *, ans_ext]
  · intro i a; simp (maxDischargeDepth := 9) only [go_sem, Nat.reduceMul, Nat.reduceAdd, Nat.reduceLeDiff, Int.reduceSub, Int.reduceNeg, Int.reduceLT, Int.reduceLE, Int.reduceEq, *, ans_ext]
  · intro i x a s hx hi hI hS
    clear hn0 e11 q1 q2
    simp only [go_sem] at hS
    obtain ⟨f0, f1, f9, f10, f11, m1, m2, hn⟩ := hS
    have hw := wrap_succ hi (hl)
    refine rn ?_
    simp (maxDischargeDepth := 9) only [go_sem, Nat.reduceMul, Nat.reduceAdd, Nat.reduceLeDiff, Int.reduceSub, Int.reduceNeg, Int.reduceLT, Int.reduceLE, Int.reduceEq, *, ans_ext]
    all_goals exact AU_addn
  · intro a s hI hf hS
    clear hn0 e11 q1 q2
    simp only [go_sem] at hS
    obtain ⟨f0, f1, f9, f10, f11, m1, m2, hn⟩ := hS
    try simp only [go_sem] at hf
    refine rn ?_
    simp (maxDischargeDepth := 9) only [go_sem, Nat.reduceMul, Nat.reduceAdd, Nat.reduceLeDiff, Int.reduceSub, Int.reduceNeg, Int.reduceLT, Int.reduceLE, Int.reduceEq, *, ans_ext]
    all_goals exact AU_addn
end Go.Proofs.Ytficdonjodadlaa
end
section
set_option linter.unusedSimpArgs false
set_option linter.unusedVariables false
set_option maxRecDepth 100000
set_option maxHeartbeats 4000000
namespace Go.Proofs.Ytficdonjodadlaa
open Go.Ev Go.Proofs
theorem AU_ncheck {p : Prop} (h : p := by
  repeat' (first | (with_reducible refine condLt (fun h h' => ?_) (fun h h' => ?_)) | (with_reducible refine condLe (fun h h' => ?_) (fun h h' => ?_)) | (with_reducible refine dop_val ?_) | (with_reducible refine YsLt (fun h h' => ?_) (fun h h' => ?_)) | (with_reducible refine YsLe (fun h h' => ?_) (fun h h' => ?_)) | (with_reducible refine condP (fun h => ?_) (fun h => ?_)) | (with_reducible refine condN (fun h => ?_) (fun h => ?_)) | (with_reducible refine condB (fun h => ?_) (fun h => ?_)) | (with_reducible refine condR (fun h => ?_) (fun h => ?_)) | (with_reducible refine YsB (fun h => ?_) (fun h => ?_)) | (with_reducible refine YsC (fun h => ?_) (fun h => ?_)) | (with_reducible refine Ys_ite (fun h => ?_) (fun h => ?_)) | (intro h) | (with_reducible refine draw_look (by kernel_rfl) (by kernel_rfl) ?_) | (simp (maxDischargeDepth := 9) only [go_sem, Nat.reduceMul, Nat.reduceAdd, Nat.reduceLeDiff, Int.reduceSub, Int.reduceNeg, Int.reduceLT, Int.reduceLE, Int.reduceEq, *, cplace_ans, ctrans_ans, ans_ext]) | (exfalso; omega))) : p := h
theorem ncheck_ans (ext : CallF) (k : Nat) (hN : ExN ext) (n : IV) (p : Nat) (hk : maxLen + (8) ≤ k) (hnn : Ok n) : ans (tab.run ext k) 35 [.iv p 25 n] 6 = some ([.one (.at (.iv 2 38 (.A [.I (NC n).1, .I (NC n).2])))], [38]) := by
  obtain ⟨k, rfl⟩ : ∃ k', k = k' + 1 := ⟨k - 1, by omega⟩
  have hk1 : maxLen < k := by omega
  have hk0 : 0 < k := by omega
  have hk_0 : maxLen + (4) ≤ k := by omega
  refine fn_run (fx := fx35) (m := 85) 86 rfl rfl rfl rfl (fun st hn hg hr => ?_)
  have g0 : st.get (.tmp 0) = .v (.a (.iv p 25 n)) := hg 0 (of_decide_eq_true rfl)
  have r0 := hr 0
  have r1 := hr 1
  have r2 := hr 2
  have r3 := hr 3
  have r4 := hr 4
  have r5 := hr 5
  clear hg hr
  rw [co35]
  simp only [Try.f35, Option.getD_some]
  have hNs := hN (asS (fld n 0))
  unfold NC
  by_cases hnm : nmB (asS (fld n 0)) = true
  case neg =>
    have hnm2 : nmB (asS (fld n 0)) = false := by simpa using hnm
    simp (maxDischargeDepth := 9) only [go_sem, Nat.reduceMul, Nat.reduceAdd, Nat.reduceLeDiff, Int.reduceSub, Int.reduceNeg, Int.reduceLT, Int.reduceLE, Int.reduceEq, *, cplace_ans, ctrans_ans, ans_ext]
  simp (maxDischargeDepth := 9) only [go_sem, Nat.reduceMul, Nat.reduceAdd, Nat.reduceLeDiff, Int.reduceSub, Int.reduceNeg, Int.reduceLT, Int.reduceLE, Int.reduceEq, *, cplace_ans, ctrans_ans, ans_ext]
  repeat' (first | (with_reducible refine condLt (fun h h' => ?_) (fun h h' => ?_)) | (with_reducible refine condLe (fun h h' => ?_) (fun h h' => ?_)) | (with_reducible refine dop_val ?_) | (with_reducible refine YsLt (fun h h' => ?_) (fun h h' => ?_)) | (with_reducible refine YsLe (fun h h' => ?_) (fun h h' => ?_)) | (with_reducible refine condP (fun h => ?_) (fun h => ?_)) | (with_reducible refine condN (fun h => ?_) (fun h => ?_)) | (with_reducible refine condB (fun h => ?_) (fun h => ?_)) | (with_reducible refine condR (fun h => ?_) (fun h => ?_)) | (with_reducible refine YsB (fun h => ?_) (fun h => ?_)) | (with_reducible refine YsC (fun h => ?_) (fun h => ?_)) | (with_reducible refine Ys_ite (fun h => ?_) (fun h => ?_)) | (intro h) | (with_reducible refine draw_look (by kernel_rfl) (by kernel_rfl) ?_) | (simp (maxDischargeDepth := 9) only [go_sem, Nat.reduceMul, Nat.reduceAdd, Nat.reduceLeDiff, Int.reduceSub, Int.reduceNeg, Int.reduceLT, Int.reduceLE, Int.reduceEq, *, cplace_ans, ctrans_ans, ans_ext]) | (exfalso; omega))
  unfold NC1
  refine gen_st (fun s0 hg hr hn0 => ?_)
  have e1 := hg 1
  have e2 := hg 2
  have e4 := hg 4
  have e35 := hg 35
  have e36 := hg 36
  have e37 := hg 37
  have q0 := hr 0
  have q1 := hr 1
  have q2 := hr 2
  have q3 := hr 3
  clear hg hr
  simp only [go_sem, *] at hn0 e1 e2 e4 e35 e36 e37 q0 q1 q2 q3
  have hl1 := ok_len (ok_fld (j := 1) hnn)
  have hl2 := ok_len (ok_fld (j := 2) hnn)
  refine nr (runs_forN (asL (fld n 1)).length (ckP n) () 86 (fun i a => [(1, s0.get (.tmp 1)), (2, s0.get (.tmp 2)), (4, s0.get (.tmp 4)), (35, s0.get (.tmp 35)), (36, s0.get (.tmp 36)), (37, .v (.a (.int .i64 (i : Nat))))]) (fun i a => [(0, s0.row 0), (1, some (.box false 38 [] (.a (.iv 2 38 (.A [.I 0, .I 0]))))), (2, some (.box false 82 [0] (.a (.own 3)))), (3, some (.arr 2 9 (nms (fld n 1) i)))]) (fun i a => True) (by omega) ?_ (trivial) ?_ ?_ ?_ ?_)
  · simp (maxDischargeDepth := 9) only [go_sem, Nat.reduceMul, Nat.reduceAdd, Nat.reduceLeDiff, Int.reduceSub, Int.reduceNeg, Int.reduceLT, Int.reduceLE, Int.reduceEq, *, cplace_ans, ctrans_ans, ans_ext]
  · intro i a; simp (maxDischargeDepth := 9) only [go_sem, Nat.reduceMul, Nat.reduceAdd, Nat.reduceLeDiff, Int.reduceSub, Int.reduceNeg, Int.reduceLT, Int.reduceLE, Int.reduceEq, *, cplace_ans, ctrans_ans, ans_ext]
  · intro i a; simp (maxDischargeDepth := 9) only [go_sem, Nat.reduceMul, Nat.reduceAdd, Nat.reduceLeDiff, Int.reduceSub, Int.reduceNeg, Int.reduceLT, Int.reduceLE, Int.reduceEq, *, cplace_ans, ctrans_ans, ans_ext]
  · intro i a s hi hI hS
    clear hn0 e37 q2 q1 q3
    simp only [go_sem] at hS
    obtain ⟨f1, f2, f4, f35, f36, f37, m0, m1, m2, m3, hn⟩ := hS
    have hw := wrap_succ hi (hl1)
    obtain ⟨m2, hrun, hR1, hR2⟩ := add_run ext hN k (nms (fld n 1) i) (asS (fld ((asL (fld n 1)).getD i .N) 0)) (by simp only [List.length_append, nms_len]; omega) (by omega)
    refine rn ?_
    simp (maxDischargeDepth := 9) only [go_sem, Nat.reduceMul, Nat.reduceAdd, Nat.reduceLeDiff, Int.reduceSub, Int.reduceNeg, Int.reduceLT, Int.reduceLE, Int.reduceEq, *, cplace_ans, ctrans_ans, ans_ext]
    unfold ckP plS
    refine Ys_call (add_call ?_ ?_ ?_ hrun hR1 hR2) ?_
    all_goals (try (simp (maxDischargeDepth := 9) only [go_sem, Nat.reduceMul, Nat.reduceAdd, Nat.reduceLeDiff, Int.reduceSub, Int.reduceNeg, Int.reduceLT, Int.reduceLE, Int.reduceEq, *, cplace_ans, ctrans_ans, ans_ext]; done))
    rintro st2 ⟨hg2, hn2, hq2, hq3, hqo⟩
    by_cases hc : AD (nms (fld n 1) i) (asS (fld ((asL (fld n 1)).getD i .N) 0)) = 0
    · simp (maxDischargeDepth := 9) only [go_sem, Nat.reduceMul, Nat.reduceAdd, Nat.reduceLeDiff, Int.reduceSub, Int.reduceNeg, Int.reduceLT, Int.reduceLE, Int.reduceEq, *, cplace_ans, ctrans_ans, ans_ext]
      repeat' (first | (with_reducible refine condLt (fun h h' => ?_) (fun h h' => ?_)) | (with_reducible refine condLe (fun h h' => ?_) (fun h h' => ?_)) | (with_reducible refine dop_val ?_) | (with_reducible refine YsLt (fun h h' => ?_) (fun h h' => ?_)) | (with_reducible refine YsLe (fun h h' => ?_) (fun h h' => ?_)) | (with_reducible refine condP (fun h => ?_) (fun h => ?_)) | (with_reducible refine condN (fun h => ?_) (fun h => ?_)) | (with_reducible refine condB (fun h => ?_) (fun h => ?_)) | (with_reducible refine condR (fun h => ?_) (fun h => ?_)) | (with_reducible refine YsB (fun h => ?_) (fun h => ?_)) | (with_reducible refine YsC (fun h => ?_) (fun h => ?_)) | (with_reducible refine Ys_ite (fun h => ?_) (fun h => ?_)) | (intro h) | (with_reducible refine draw_look (by kernel_rfl) (by kernel_rfl) ?_) | (simp (maxDischargeDepth := 9) only [go_sem, Nat.reduceMul, Nat.reduceAdd, Nat.reduceLeDiff, Int.reduceSub, Int.reduceNeg, Int.reduceLT, Int.reduceLE, Int.reduceEq, *, cplace_ans, ctrans_ans, ans_ext]) | (exfalso; omega))
    · simp (maxDischargeDepth := 9) only [go_sem, Nat.reduceMul, Nat.reduceAdd, Nat.reduceLeDiff, Int.reduceSub, Int.reduceNeg, Int.reduceLT, Int.reduceLE, Int.reduceEq, *, cplace_ans, ctrans_ans, ans_ext]
      repeat' (first | (with_reducible refine condLt (fun h h' => ?_) (fun h h' => ?_)) | (with_reducible refine condLe (fun h h' => ?_) (fun h h' => ?_)) | (with_reducible refine dop_val ?_) | (with_reducible refine YsLt (fun h h' => ?_) (fun h h' => ?_)) | (with_reducible refine YsLe (fun h h' => ?_) (fun h h' => ?_)) | (with_reducible refine condP (fun h => ?_) (fun h => ?_)) | (with_reducible refine condN (fun h => ?_) (fun h => ?_)) | (with_reducible refine condB (fun h => ?_) (fun h => ?_)) | (with_reducible refine condR (fun h => ?_) (fun h => ?_)) | (with_reducible refine YsB (fun h => ?_) (fun h => ?_)) | (with_reducible refine YsC (fun h => ?_) (fun h => ?_)) | (with_reducible refine Ys_ite (fun h => ?_) (fun h => ?_)) | (intro h) | (with_reducible refine draw_look (by kernel_rfl) (by kernel_rfl) ?_) | (simp (maxDischargeDepth := 9) only [go_sem, Nat.reduceMul, Nat.reduceAdd, Nat.reduceLeDiff, Int.reduceSub, Int.reduceNeg, Int.reduceLT, Int.reduceLE, Int.reduceEq, *, cplace_ans, ctrans_ans, ans_ext]) | (exfalso; omega))
  · intro a s hI hf hS
    clear hn0 e37 q2 q1 q3
    simp only [go_sem] at hS
    obtain ⟨f1, f2, f4, f35, f36, f37, m0, m1, m2, m3, hn⟩ := hS
    try simp only [go_sem] at hf
    unfold NC2
    refine rn ?_
    simp (maxDischargeDepth := 9) only [go_sem, Nat.reduceMul, Nat.reduceAdd, Nat.reduceLeDiff, Int.reduceSub, Int.reduceNeg, Int.reduceLT, Int.reduceLE, Int.reduceEq, *, cplace_ans, ctrans_ans, ans_ext]
    refine gen_st (fun s0 hg hr hn0 => ?_)
    have e1 := hg 1
    have e2 := hg 2
    have e4 := hg 4
    have e57 := hg 57
    have e58 := hg 58
    have e59 := hg 59
    have q0 := hr 0
    have q1 := hr 1
    have q2 := hr 2
    have q3 := hr 3
    clear hg hr
    simp only [go_sem, *] at hn0 e1 e2 e4 e57 e58 e59 q0 q1 q2 q3
    refine nr (runs_forN (asL (fld n 2)).length (ckT n) () 86 (fun i a => [(1, s0.get (.tmp 1)), (2, s0.get (.tmp 2)), (4, s0.get (.tmp 4)), (57, s0.get (.tmp 57)), (58, s0.get (.tmp 58)), (59, .v (.a (.int .i64 (i : Nat))))]) (fun i a => [(0, s0.row 0), (1, some (.box false 38 [] (.a (.iv 2 38 (.A [.I 0, .I 0]))))), (2, some (.box false 82 [0] (.a (.own 3)))), (3, some (.arr 2 9 (nms (fld n 1) (asL (fld n 1)).length ++ nms (fld n 2) i)))]) (fun i a => True) (by omega) ?_ (trivial) ?_ ?_ ?_ ?_)
    · simp (maxDischargeDepth := 9) only [go_sem, Nat.reduceMul, Nat.reduceAdd, Nat.reduceLeDiff, Int.reduceSub, Int.reduceNeg, Int.reduceLT, Int.reduceLE, Int.reduceEq, *, cplace_ans, ctrans_ans, ans_ext]
    · intro i a; simp (maxDischargeDepth := 9) only [go_sem, Nat.reduceMul, Nat.reduceAdd, Nat.reduceLeDiff, Int.reduceSub, Int.reduceNeg, Int.reduceLT, Int.reduceLE, Int.reduceEq, *, cplace_ans, ctrans_ans, ans_ext]
    · intro i a; simp (maxDischargeDepth := 9) only [go_sem, Nat.reduceMul, Nat.reduceAdd, Nat.reduceLeDiff, Int.reduceSub, Int.reduceNeg, Int.reduceLT, Int.reduceLE, Int.reduceEq, *, cplace_ans, ctrans_ans, ans_ext]
    · intro i a s hi hI hS
      clear hn0 e59 q2 q1 q3
      simp only [go_sem] at hS
      obtain ⟨f1, f2, f4, f57, f58, f59, m0, m1, m2, m3, hn⟩ := hS
      have hw := wrap_succ hi (hl2)
      obtain ⟨m2, hrun, hR1, hR2⟩ := add_run ext hN k (nms (fld n 1) (asL (fld n 1)).length ++ nms (fld n 2) i) (asS (fld ((asL (fld n 2)).getD i .N) 0)) (by simp only [List.length_append, nms_len]; omega) (by omega)
      have hwa : IntKind.i64.wrap (((asL (fld n 1)).length : Int) + (i : Int)) = ((asL (fld n 1)).length : Int) + (i : Int) := Go.IntWalk.i64_in _ (by omega)
      refine rn ?_
      simp (maxDischargeDepth := 9) only [go_sem, Nat.reduceMul, Nat.reduceAdd, Nat.reduceLeDiff, Int.reduceSub, Int.reduceNeg, Int.reduceLT, Int.reduceLE, Int.reduceEq, *, cplace_ans, ctrans_ans, ans_ext]
      unfold ckT trS
      refine Ys_call (add_call ?_ ?_ ?_ hrun hR1 hR2) ?_
      all_goals (try (simp (maxDischargeDepth := 9) only [go_sem, Nat.reduceMul, Nat.reduceAdd, Nat.reduceLeDiff, Int.reduceSub, Int.reduceNeg, Int.reduceLT, Int.reduceLE, Int.reduceEq, *, cplace_ans, ctrans_ans, ans_ext]; done))
      rintro st2 ⟨hg2, hn2, hq2, hq3, hqo⟩
      by_cases hc : AD (nms (fld n 1) (asL (fld n 1)).length ++ nms (fld n 2) i) (asS (fld ((asL (fld n 2)).getD i .N) 0)) = 0
      · simp (maxDischargeDepth := 9) only [go_sem, Nat.reduceMul, Nat.reduceAdd, Nat.reduceLeDiff, Int.reduceSub, Int.reduceNeg, Int.reduceLT, Int.reduceLE, Int.reduceEq, *, cplace_ans, ctrans_ans, ans_ext]
        repeat' (first | (with_reducible refine condLt (fun h h' => ?_) (fun h h' => ?_)) | (with_reducible refine condLe (fun h h' => ?_) (fun h h' => ?_)) | (with_reducible refine dop_val ?_) | (with_reducible refine YsLt (fun h h' => ?_) (fun h h' => ?_)) | (with_reducible refine YsLe (fun h h' => ?_) (fun h h' => ?_)) | (with_reducible refine condP (fun h => ?_) (fun h => ?_)) | (with_reducible refine condN (fun h => ?_) (fun h => ?_)) | (with_reducible refine condB (fun h => ?_) (fun h => ?_)) | (with_reducible refine condR (fun h => ?_) (fun h => ?_)) | (with_reducible refine YsB (fun h => ?_) (fun h => ?_)) | (with_reducible refine YsC (fun h => ?_) (fun h => ?_)) | (with_reducible refine Ys_ite (fun h => ?_) (fun h => ?_)) | (intro h) | (with_reducible refine draw_look (by kernel_rfl) (by kernel_rfl) ?_) | (simp (maxDischargeDepth := 9) only [go_sem, Nat.reduceMul, Nat.reduceAdd, Nat.reduceLeDiff, Int.reduceSub, Int.reduceNeg, Int.reduceLT, Int.reduceLE, Int.reduceEq, *, cplace_ans, ctrans_ans, ans_ext]) | (exfalso; omega))
      · simp (maxDischargeDepth := 9) only [go_sem, Nat.reduceMul, Nat.reduceAdd, Nat.reduceLeDiff, Int.reduceSub, Int.reduceNeg, Int.reduceLT, Int.reduceLE, Int.reduceEq, *, cplace_ans, ctrans_ans, ans_ext]
        repeat' (first | (with_reducible refine condLt (fun h h' => ?_) (fun h h' => ?_)) | (with_reducible refine condLe (fun h h' => ?_) (fun h h' => ?_)) | (with_reducible refine dop_val ?_) | (with_reducible refine YsLt (fun h h' => ?_) (fun h h' => ?_)) | (with_reducible refine YsLe (fun h h' => ?_) (fun h h' => ?_)) | (with_reducible refine condP (fun h => ?_) (fun h => ?_)) | (with_reducible refine condN (fun h => ?_) (fun h => ?_)) | (with_reducible refine condB (fun h => ?_) (fun h => ?_)) | (with_reducible refine condR (fun h => ?_) (fun h => ?_)) | (with_reducible refine YsB (fun h => ?_) (fun h => ?_)) | (with_reducible refine YsC (fun h => ?_) (fun h => ?_)) | (with_reducible refine Ys_ite (fun h => ?_) (fun h => ?_)) | (intro h) | (with_reducible refine draw_look (by kernel_rfl) (by kernel_rfl) ?_) | (simp (maxDischargeDepth := 9) only [go_sem, Nat.reduceMul, Nat.reduceAdd, Nat.reduceLeDiff, Int.reduceSub, Int.reduceNeg, Int.reduceLT, Int.reduceLE, Int.reduceEq, *, cplace_ans, ctrans_ans, ans_ext]) | (exfalso; omega))
    · intro a s hI hf hS
      clear hn0 e59 q2 q1 q3
      simp only [go_sem] at hS
      obtain ⟨f1, f2, f4, f57, f58, f59, m0, m1, m2, m3, hn⟩ := hS
      try simp only [go_sem] at hf
      refine rn ?_
      simp (maxDischargeDepth := 9) only [go_sem, Nat.reduceMul, Nat.reduceAdd, Nat.reduceLeDiff, Int.reduceSub, Int.reduceNeg, Int.reduceLT, Int.reduceLE, Int.reduceEq, *, cplace_ans, ctrans_ans, ans_ext]
      all_goals exact AU_ncheck
end Go.Proofs.Ytficdonjodadlaa
end
section
set_option linter.unusedSimpArgs false
set_option linter.unusedVariables false
set_option maxRecDepth 100000
set_option maxHeartbeats 4000000
namespace Go.Proofs.Ytficdonjodadlaa
open Go.Ev Go.Proofs
theorem AU_rconsumed {p : Prop} (h : p := by
  repeat' (first | (with_reducible refine condLt (fun h h' => ?_) (fun h h' => ?_)) | (with_reducible refine condLe (fun h h' => ?_) (fun h h' => ?_)) | (with_reducible refine dop_val ?_) | (with_reducible refine YsLt (fun h h' => ?_) (fun h h' => ?_)) | (with_reducible refine YsLe (fun h h' => ?_) (fun h h' => ?_)) | (with_reducible refine condP (fun h => ?_) (fun h => ?_)) | (with_reducible refine condN (fun h => ?_) (fun h => ?_)) | (with_reducible refine condB (fun h => ?_) (fun h => ?_)) | (with_reducible refine condR (fun h => ?_) (fun h => ?_)) | (with_reducible refine YsB (fun h => ?_) (fun h => ?_)) | (with_reducible refine YsC (fun h => ?_) (fun h => ?_)) | (with_reducible refine Ys_ite (fun h => ?_) (fun h => ?_)) | (intro h) | (with_reducible refine draw_look (by kernel_rfl) (by kernel_rfl) ?_) | (simp (maxDischargeDepth := 9) only [go_sem, Nat.reduceMul, Nat.reduceAdd, Nat.reduceLeDiff, Int.reduceSub, Int.reduceNeg, Int.reduceLT, Int.reduceLE, Int.reduceEq, *, past_ans, rhas_ans]) | (exfalso; omega))) : p := h
theorem rconsumed_ans (ext : CallF) (k : Nat) (b : IV) (c e : Int) (p : Nat) (hk : maxLen + (6) ≤ k) (hb : Ok b) (hfd : FD b = true) (he : e < ((asL (fld b 1)).length : Int)) (hz : (asL (fld b 1)).length ≤ 1000000) : ans (tab.run ext k) 83 [.iv p 29 b, .int .i64 c, .int .i64 e] 1 = some ([.one (.at (.bool (CNf b (hist b e) c)))], [4]) := by
  obtain ⟨k, rfl⟩ : ∃ k', k = k' + 1 := ⟨k - 1, by omega⟩
  have hk1 : maxLen < k := by omega
  have hk0 : 0 < k := by omega
  have hk_0 : maxLen + (2) ≤ k := by omega
  refine fn_run (fx := fx83) (m := 29) 32 rfl rfl rfl rfl (fun st hn hg hr => ?_)
  have g0 : st.get (.tmp 0) = .v (.a (.iv p 29 b)) := hg 0 (of_decide_eq_true rfl)
  have g1 : st.get (.tmp 1) = .v (.a (.int .i64 c)) := hg 1 (of_decide_eq_true rfl)
  have g2 : st.get (.tmp 2) = .v (.a (.int .i64 e)) := hg 2 (of_decide_eq_true rfl)
  have r0 := hr 0
  clear hg hr
  rw [co83]
  simp only [Try.f83, Option.getD_some]
  unfold CNf
  have hl1 := ok_len (ok_fld (j := 1) hb)
  generalize hX : hist b e = X
  simp (maxDischargeDepth := 9) only [go_sem, Nat.reduceMul, Nat.reduceAdd, Nat.reduceLeDiff, Int.reduceSub, Int.reduceNeg, Int.reduceLT, Int.reduceLE, Int.reduceEq, *, past_ans, rhas_ans]
  refine gen_st (fun s0 hg hr hn0 => ?_)
  have e1 := hg 1
  have e3 := hg 3
  have e7 := hg 7
  have e8 := hg 8
  have q0 := hr 0
  clear hg hr
  simp only [go_sem, *] at hn0 e1 e3 e7 e8 q0
  refine nr (runs_forN (asL (fld b 1)).length (fun (_ : Unit) i => if (X i && (asL (fld ((asL (fld b 1)).getD i .N) 1)).any fun x => decide (asI x = c)) = true then .ret true else .next ()) () 32 (fun i a => [(1, s0.get (.tmp 1)), (3, s0.get (.tmp 3)), (7, s0.get (.tmp 7)), (8, .v (.a (.int .i64 i)))]) (fun i a => [(0, s0.row 0)]) (fun i a => True) (by omega) ?_ (trivial) ?_ ?_ ?_ ?_)
  · simp (maxDischargeDepth := 9) only [go_sem, Nat.reduceMul, Nat.reduceAdd, Nat.reduceLeDiff, Int.reduceSub, Int.reduceNeg, Int.reduceLT, Int.reduceLE, Int.reduceEq, *, past_ans, rhas_ans]
  · intro i a; simp (maxDischargeDepth := 9) only [go_sem, Nat.reduceMul, Nat.reduceAdd, Nat.reduceLeDiff, Int.reduceSub, Int.reduceNeg, Int.reduceLT, Int.reduceLE, Int.reduceEq, *, past_ans, rhas_ans]
  · intro i a; simp (maxDischargeDepth := 9) only [go_sem, Nat.reduceMul, Nat.reduceAdd, Nat.reduceLeDiff, Int.reduceSub, Int.reduceNeg, Int.reduceLT, Int.reduceLE, Int.reduceEq, *, past_ans, rhas_ans]
  · intro i a s hi hI hS
    clear hn0 e8
    simp only [go_sem] at hS
    obtain ⟨f1, f3, f7, f8, m0, hn⟩ := hS
    have hw := wrap_succ hi (hl1)
    refine rn ?_
    simp (maxDischargeDepth := 9) only [go_sem, Nat.reduceMul, Nat.reduceAdd, Nat.reduceLeDiff, Int.reduceSub, Int.reduceNeg, Int.reduceLT, Int.reduceLE, Int.reduceEq, *, past_ans, rhas_ans]
    all_goals exact AU_rconsumed
  · intro a s hI hf hS
    clear hn0 e8
    simp only [go_sem] at hS
    obtain ⟨f1, f3, f7, f8, m0, hn⟩ := hS
    try simp only [go_sem] at hf
    refine rn ?_
    simp (maxDischargeDepth := 9) only [go_sem, Nat.reduceMul, Nat.reduceAdd, Nat.reduceLeDiff, Int.reduceSub, Int.reduceNeg, Int.reduceLT, Int.reduceLE, Int.reduceEq, *, past_ans, rhas_ans]
    all_goals exact AU_rconsumed
theorem together_ans (ext : CallF) (k : Nat) (b : IV) (c d : Int) (p : Nat) (hk : maxLen + (10) ≤ k) (hb : Ok b) (hfd : FD b = true) (hc0 : 0 ≤ c) (hc1 : c < ((asL (fld b 0)).length : Int)) (hd0 : 0 ≤ d) (hd1 : d < ((asL (fld b 0)).length : Int)) (hz : (asL (fld b 1)).length ≤ 1000000) : ans (tab.run ext k) 57 [.iv p 29 b, .int .i64 c, .int .i64 d] 1 = some ([.one (.at (.bool (TG b c d)))], [4]) := by
  obtain ⟨k, rfl⟩ : ∃ k', k = k' + 1 := ⟨k - 1, by omega⟩
  have hk1 : maxLen < k := by omega
  have hk0 : 0 < k := by omega
  have hk_0 : maxLen + (6) ≤ k := by omega
  refine fn_run (fx := fx57) (m := 46) 49 rfl rfl rfl rfl (fun st hn hg hr => ?_)
  have g0 : st.get (.tmp 0) = .v (.a (.iv p 29 b)) := hg 0 (of_decide_eq_true rfl)
  have g1 : st.get (.tmp 1) = .v (.a (.int .i64 c)) := hg 1 (of_decide_eq_true rfl)
  have g2 : st.get (.tmp 2) = .v (.a (.int .i64 d)) := hg 2 (of_decide_eq_true rfl)
  have r0 := hr 0
  clear hg hr
  rw [co57]
  simp only [Try.f57, Option.getD_some]
  have hfc := FD_frm hfd (c := c) hc0 hc1
  have hfd2 := FD_frm hfd (c := d) hd0 hd1
  obtain ⟨hfc0, hfc1⟩ := hfc
  obtain ⟨hfe0, hfe1⟩ := hfd2
  simp only [frm, nEv] at hfc0 hfc1 hfe0 hfe1
  unfold TG frm
  simp (maxDischargeDepth := 9) only [go_sem, Nat.reduceMul, Nat.reduceAdd, Nat.reduceLeDiff, Int.reduceSub, Int.reduceNeg, Int.reduceLT, Int.reduceLE, Int.reduceEq, *, rconsumed_ans, rclash_ans, CLf_neg1, CLf_neg2]
  repeat' (first | (with_reducible refine condLt (fun h h' => ?_) (fun h h' => ?_)) | (with_reducible refine condLe (fun h h' => ?_) (fun h h' => ?_)) | (with_reducible refine dop_val ?_) | (with_reducible refine YsLt (fun h h' => ?_) (fun h h' => ?_)) | (with_reducible refine YsLe (fun h h' => ?_) (fun h h' => ?_)) | (with_reducible refine condP (fun h => ?_) (fun h => ?_)) | (with_reducible refine condN (fun h => ?_) (fun h => ?_)) | (with_reducible refine condB (fun h => ?_) (fun h => ?_)) | (with_reducible refine condR (fun h => ?_) (fun h => ?_)) | (with_reducible refine YsB (fun h => ?_) (fun h => ?_)) | (with_reducible refine YsC (fun h => ?_) (fun h => ?_)) | (with_reducible refine Ys_ite (fun h => ?_) (fun h => ?_)) | (intro h) | (with_reducible refine draw_look (by kernel_rfl) (by kernel_rfl) ?_) | (simp (maxDischargeDepth := 9) only [go_sem, Nat.reduceMul, Nat.reduceAdd, Nat.reduceLeDiff, Int.reduceSub, Int.reduceNeg, Int.reduceLT, Int.reduceLE, Int.reduceEq, *, rconsumed_ans, rclash_ans, CLf_neg1, CLf_neg2]) | (exfalso; omega))
theorem concurrent_ans (ext : CallF) (k : Nat) (hE : ExC ext) (hU : ExU ext) (b : IV) (c d : Int) (p : Nat) (hk : maxLen + (D0 + 20) ≤ k) (hb : Ok b) (hp : p ≠ 0) (hfd : FD b = true) (hc0 : 0 ≤ c) (hc1 : c < ((asL (fld b 0)).length : Int)) (hd0 : 0 ≤ d) (hd1 : d < ((asL (fld b 0)).length : Int)) (hz : (asL (fld b 1)).length ≤ 1000000) : ans (tab.run ext k) 55 [.iv p 29 b, .int .i64 c, .int .i64 d] 1 = some ([.one (.at (.bool (TG b c d)))], [4]) := by
  obtain ⟨k, rfl⟩ : ∃ k', k = k' + 1 := ⟨k - 1, by omega⟩
  have hk1 : maxLen < k := by omega
  have hk0 : 0 < k := by omega
  have hk_0 : maxLen + (D0 + 10) ≤ k := by omega
  refine fn_run (fx := fx55) (m := 44) 47 rfl rfl rfl rfl (fun st hn hg hr => ?_)
  have g0 : st.get (.tmp 0) = .v (.a (.iv p 29 b)) := hg 0 (of_decide_eq_true rfl)
  have g1 : st.get (.tmp 1) = .v (.a (.int .i64 c)) := hg 1 (of_decide_eq_true rfl)
  have g2 : st.get (.tmp 2) = .v (.a (.int .i64 d)) := hg 2 (of_decide_eq_true rfl)
  have r0 := hr 0
  clear hg hr
  rw [co55]
  simp only [Try.f55, Option.getD_some]
  have hfc := FD_frm hfd (c := c) hc0 hc1
  have hfd2 := FD_frm hfd (c := d) hd0 hd1
  obtain ⟨hfc0, hfc1⟩ := hfc
  obtain ⟨hfe0, hfe1⟩ := hfd2
  simp only [frm, nEv] at hfc0 hfc1 hfe0 hfe1
  unfold TG frm
  have hcl := hE b p 2 2 (hist b (asI (fld (el (asL (fld b 0)) c) 1))) (hist b (asI (fld (el (asL (fld b 0)) d) 1))) hb hfd hz
  have hcu := hU b p 2 (hist b (asI (fld (el (asL (fld b 0)) c) 1))) d hb hfd hz
  have hcv := hU b p 2 (hist b (asI (fld (el (asL (fld b 0)) d) 1))) c hb hfd hz
  simp (maxDischargeDepth := 9) only [go_sem, Nat.reduceMul, Nat.reduceAdd, Nat.reduceLeDiff, Int.reduceSub, Int.reduceNeg, Int.reduceLT, Int.reduceLE, Int.reduceEq, *, history_ans, ans_ext]
  repeat' (first | (with_reducible refine condLt (fun h h' => ?_) (fun h h' => ?_)) | (with_reducible refine condLe (fun h h' => ?_) (fun h h' => ?_)) | (with_reducible refine dop_val ?_) | (with_reducible refine YsLt (fun h h' => ?_) (fun h h' => ?_)) | (with_reducible refine YsLe (fun h h' => ?_) (fun h h' => ?_)) | (with_reducible refine condP (fun h => ?_) (fun h => ?_)) | (with_reducible refine condN (fun h => ?_) (fun h => ?_)) | (with_reducible refine condB (fun h => ?_) (fun h => ?_)) | (with_reducible refine condR (fun h => ?_) (fun h => ?_)) | (with_reducible refine YsB (fun h => ?_) (fun h => ?_)) | (with_reducible refine YsC (fun h => ?_) (fun h => ?_)) | (with_reducible refine Ys_ite (fun h => ?_) (fun h => ?_)) | (intro h) | (with_reducible refine draw_look (by kernel_rfl) (by kernel_rfl) ?_) | (simp (maxDischargeDepth := 9) only [go_sem, Nat.reduceMul, Nat.reduceAdd, Nat.reduceLeDiff, Int.reduceSub, Int.reduceNeg, Int.reduceLT, Int.reduceLE, Int.reduceEq, *, history_ans, ans_ext]) | (exfalso; omega))
end Go.Proofs.Ytficdonjodadlaa
end
