/- Part 1 of a proof: Dk. Words and walks that a program printed for this claim stand here without what the claim does not use. -/
import Derived.WalkKit
import Derived.Orders
import Derived.Below
import Derived.Laws.OwnMore
import Derived.Laws.MakeOwn
import Derived.Deep.MidRow
import Derived.Laws.StructEq
import Derived.Laws.CopyRow
import Derived.Great.FillDense
import Derived.Great.BuildSlice
import Derived.LoopN
import Derived.ChangeArms
import Derived.DataReads
import Derived.WideShapes
import Derived.IntWalk
import Derived.Test.YtficdonjodadlaaDh0
import Derived.Test.YtficdonjodadlaaDh1
import Derived.Test.YtficdonjodadlaaDh2
import Derived.Test.YtficdonjodadlaaDh3
import Derived.Test.YtficdonjodadlaaDh4
import Derived.Test.YtficdonjodadlaaDh5
import Derived.Test.YtficdonjodadlaaDh6
import Derived.Test.YtficdonjodadlaaDh7
import Derived.Test.YtficdonjodadlaaDk0
set_option linter.unusedSimpArgs false
set_option linter.unusedVariables false
section
set_option linter.unusedVariables false
namespace Go.Ev
section
variable {T : Tab} {fx : Fx} {call : CallF} {k cur : Nat} {st st' : St} {Q : Ex → St → Prop}
theorem row_void {s : St} {c : List Nat × List Nat} {j : Nat} (h : c.2.contains j = true) : (s.fresh c).row j = none := by
  unfold St.fresh
  rw [row_killL, if_pos (by simpa using h)]
theorem runs_forF {α β ρ : Type} {c : Code} (xs : List β) (step : α → β → Stp α ρ) (a0 : α) (N : Nat) (L : Nat → α → List (Nat × SV)) (M : Nat → α → List (Nat × Option Row)) (I : Nat → α → Prop)
    (hk : xs.length < k) (h0 : Sl N (L 0 a0) (M 0 a0) st) (hI : I 0 a0)
    (hL : ∀ i a, KeepL ((fx.clr.lookup cur).getD ([], [])) (L i a)) (hM : ∀ i a, KeepM ((fx.clr.lookup cur).getD ([], [])) (M i a))
    (hb : ∀ i x a s, xs[i]? = some x → i < xs.length → I i a → Sl N (L i a) (M i a) s → (∀ j, ((fx.clr.lookup cur).getD ([], [])).2.contains j = true → s.row j = none) → Runs T fx call k cur c s (fun e s' => match step a x with
      | .next b => e = .normal ∧ Sl N (L (i + 1) b) (M (i + 1) b) s' ∧ I (i + 1) b
      | .stop b => foldS step a0 xs = .stop b → e ≠ .normal ∧ Q e s'
      | .ret r => foldS step a0 xs = .ret r → e ≠ .normal ∧ Q e s'))
    (he : ∀ a s, I xs.length a → foldS step a0 xs = .stop a → Sl N (L xs.length a) (M xs.length a) s → Runs T fx call k cur c s (fun e s' => e ≠ .normal ∧ Q e s')) :
    Runs T fx call k cur (.loop c) st Q := by
  refine runs_loop (fun n s => ∃ i a, n = xs.length - i ∧ i ≤ xs.length ∧ foldS step a (xs.drop i) = foldS step a0 xs ∧ I i a ∧ Sl N (L i a) (M i a) s) xs.length hk ⟨0, a0, rfl, Nat.zero_le _, rfl, hI, h0⟩ ?_
  rintro n s ⟨i, a, rfl, hi, hf, hIa, hS⟩
  have hS' := Sl_fresh (hL i a) (hM i a) hS
  by_cases hlt : i < xs.length
  · refine runs_mono (hb i xs[i] a _ (List.getElem?_eq_getElem hlt) hlt hIa hS' (fun j hj => row_void hj)) (fun e s' h => ?_)
    rw [List.drop_eq_getElem_cons hlt] at hf
    simp only [foldS] at hf
    generalize foldS step a0 xs = r0 at h hf ⊢
    generalize step a xs[i] = z at h hf
    cases z with
    | next b =>
      obtain ⟨rfl, h2, h3⟩ := h
      exact ⟨xs.length - (i + 1), by omega, i + 1, b, rfl, hlt, hf, h3, h2⟩
    | stop b =>
      obtain ⟨h1, h2⟩ := h hf.symm
      cases e with
      | normal => exact absurd rfl h1
      | exit id => exact h2
      | ret => exact h2
    | ret r =>
      obtain ⟨h1, h2⟩ := h hf.symm
      cases e with
      | normal => exact absurd rfl h1
      | exit id => exact h2
      | ret => exact h2
  · have hi' : i = xs.length := by omega
    subst hi'
    rw [List.drop_length] at hf
    refine runs_mono (he a _ hIa hf.symm hS') (fun e s' h => ?_)
    obtain ⟨h1, h2⟩ := h
    cases e with
    | normal => exact absurd rfl h1
    | exit id => exact h2
    | ret => exact h2
theorem runs_forNF {α ρ : Type} {c : Code} (n : Nat) (step : α → Nat → Stp α ρ) (a0 : α) (N : Nat) (L : Nat → α → List (Nat × SV)) (M : Nat → α → List (Nat × Option Row)) (I : Nat → α → Prop)
    (hk : n < k) (h0 : Sl N (L 0 a0) (M 0 a0) st) (hI : I 0 a0)
    (hL : ∀ i a, KeepL ((fx.clr.lookup cur).getD ([], [])) (L i a)) (hM : ∀ i a, KeepM ((fx.clr.lookup cur).getD ([], [])) (M i a))
    (hb : ∀ i a s, i < n → I i a → Sl N (L i a) (M i a) s → (∀ j, ((fx.clr.lookup cur).getD ([], [])).2.contains j = true → s.row j = none) → Runs T fx call k cur c s (fun e s' => match step a i with
      | .next b => e = .normal ∧ Sl N (L (i + 1) b) (M (i + 1) b) s' ∧ I (i + 1) b
      | .stop b => foldS step a0 (List.range n) = .stop b → e ≠ .normal ∧ Q e s'
      | .ret r => foldS step a0 (List.range n) = .ret r → e ≠ .normal ∧ Q e s'))
    (he : ∀ a s, I n a → foldS step a0 (List.range n) = .stop a → Sl N (L n a) (M n a) s → Runs T fx call k cur c s (fun e s' => e ≠ .normal ∧ Q e s')) :
    Runs T fx call k cur (.loop c) st Q := by
  refine runs_forF (List.range n) step a0 N L M I (by simpa using hk) h0 hI hL hM (fun i x a s hx hi hIa hS hz => ?_) (fun a s hIa hf hS => he a s (by simpa using hIa) hf (by simpa using hS))
  have hi' : i < n := by simpa using hi
  have : x = i := by rw [List.getElem?_range hi'] at hx; exact (Option.some.inj hx).symm
  subst this
  exact hb x a s hi' hIa hS hz
end
end Go.Ev
end
section
set_option linter.unusedVariables false
namespace Go.Ev
theorem tgs_get {l : IV} {n i : Nat} (h : i < n) : (tgs l n).getD i .N = .I (asI (fld ((asL l).getD i .N) 0)) := by simp [tgs, List.getD, h]
theorem ok_ini {n : IV} (h : (asL (fld n 1)).length ≤ 1000) : Ok (.A [.L (fcs n), .N]) := by
  refine .A (fun x hx => ?_)
  simp only [List.mem_cons, List.not_mem_nil, or_false] at hx
  rcases hx with rfl | rfl
  · refine .L (Nat.le_trans fcs_len (Nat.le_trans h (by unfold maxLen; omega))) (fun x hx => ?_)
    simp only [fcs, ics, List.mem_map, List.mem_filter, List.mem_range] at hx
    obtain ⟨k, ⟨hk, _⟩, rfl⟩ := hx
    refine .A (fun x hx => ?_)
    simp only [List.mem_cons, List.not_mem_nil, or_false] at hx
    rcases hx with rfl | rfl
    · exact .I (by omega)
    · exact .I (by omega)
  · exact .N
theorem ok_zero : Ok (.A [.N, .N]) := .A (fun x hx => by
  simp only [List.mem_cons, List.not_mem_nil, or_false] at hx
  rcases hx with rfl | rfl <;> exact .N)
end Go.Ev
end
section
set_option linter.unusedVariables false
namespace Go.Ev
theorem poS_1 {n b : IV} {i m k : Nat} {a : Unit} (p1 : ¬asI ((asL (fld ((asL (fld b 1)).getD i .N) 2)).getD k .N) = (m : Int) + (k : Int)) : poS n b (i : Int) (m : Int) a k = .ret true := by
  unfold poS; rw [el_nat, if_neg p1]
theorem poS_2 {n b : IV} {i m k : Nat} {a : Unit} (p1 : asI ((asL (fld ((asL (fld b 1)).getD i .N) 2)).getD k .N) = (m : Int) + (k : Int)) (p2 : ((asL (fld b 0)).length : Int) ≤ (m : Int) + (k : Int)) : poS n b (i : Int) (m : Int) a k = .ret true := by
  unfold poS; rw [el_nat, if_pos p1, p1, if_pos p2]
theorem poS_3 {n b : IV} {i m k : Nat} {a : Unit} (p1 : asI ((asL (fld ((asL (fld b 1)).getD i .N) 2)).getD k .N) = (m : Int) + (k : Int)) (p2 : (m : Int) + (k : Int) < ((asL (fld b 0)).length : Int)) (hk : k < (asL (fld (el (asL (fld n 2)) (asI (fld ((asL (fld b 1)).getD i .N) 0))) 2)).length)
    (h : ¬(asI (fld (el (asL (fld b 0)) ((m : Int) + (k : Int))) 0) = asI (fld ((asL (fld (el (asL (fld n 2)) (asI (fld ((asL (fld b 1)).getD i .N) 0))) 2)).getD k .N) 0) ∧ asI (fld (el (asL (fld b 0)) ((m : Int) + (k : Int))) 1) = (i : Int))) : poS n b (i : Int) (m : Int) a k = .ret true := by
  unfold poS outs
  rw [el_nat, if_pos p1, p1, if_neg (by omega), tgs_get hk, if_neg]
  intro hh
  rw [Bool.and_eq_true] at hh
  exact h ⟨of_decide_eq_true hh.1, of_decide_eq_true hh.2⟩
theorem poS_5 {n b : IV} {i m k : Nat} {a : Unit} (p1 : asI ((asL (fld ((asL (fld b 1)).getD i .N) 2)).getD k .N) = (m : Int) + (k : Int)) (p2 : (m : Int) + (k : Int) < ((asL (fld b 0)).length : Int)) (hk : k < (asL (fld (el (asL (fld n 2)) (asI (fld ((asL (fld b 1)).getD i .N) 0))) 2)).length)
    (p3 : asI (fld (el (asL (fld b 0)) ((m : Int) + (k : Int))) 0) = asI (fld ((asL (fld (el (asL (fld n 2)) (asI (fld ((asL (fld b 1)).getD i .N) 0))) 2)).getD k .N) 0)) (p4 : asI (fld (el (asL (fld b 0)) ((m : Int) + (k : Int))) 1) = (i : Int)) : poS n b (i : Int) (m : Int) a k = .next () := by
  unfold poS outs
  rw [el_nat, if_pos p1, p1, if_neg (by omega), tgs_get hk, if_pos]
  rw [Bool.and_eq_true]
  exact ⟨decide_eq_true p3, decide_eq_true p4⟩
end Go.Ev
end
