/- Part 2 of a proof: Df. Words and walks that a program printed for this claim stand here without what the claim does not use. -/
import Derived.ChangeArms
import Derived.DataReads
import Derived.Below
import Derived.WalkKit
import Derived.Test.YtfnjbgggmddgpaaProg
import Derived.Deep.Draws
import Derived.Deep.AppendLies
import Derived.Maps.AppendAt
import Derived.OwnWalk
import Derived.Laws.BytesArg
import Derived.Laws.MakeOwn
import Derived.Laws.OwnMore
import Derived.Deep.OwnRows
import Derived.Tactics
import Derived.Lib.ConvBytes
import Derived.Laws.Slices
import Derived.KernelRfl
import Derived.RowKit3
import Derived.Deep.LoopGhost
import Derived.Deep.QuietTactic
import Derived.BigQuiet
import Derived.WideLaws
import Derived.Deep.DeepCutAuto
import Derived.Deep.CutBlock
import Derived.Deep.RegionHeld3
import Derived.Laws.Rows
import Derived.Lib.AppendStr
import Derived.ArgAppend
import Derived.Laws.IdiomCopy
import Derived.OrdersHeld
import Derived.WalkMore
import Derived.Laws.BitsLemmas
import Derived.RowKit
import Derived.IntWalk
import Derived.Test.YtfnjbgggmddgpaaDf0
import Derived.Test.YtfnjbgggmddgpaaDf1
section
set_option linter.unusedVariables false
set_option linter.unusedSimpArgs false
namespace Go.Proofs.Fn
open Go.RowKit Go.Proofs.YtfnjbgggmddgpaaW.PrintWords
def Opens {α : Type} (P : Program) (t : TypeId) (k : Kd α) (G : α → Prop) : Prop :=
  ∀ (H : Type) (enc : TypeId × Value → H) (w : World) (spare : Nat → Bool) (held : Bool) (fuel : Nat) (cs : List Value) (x : DataW H × List MemPlace), DataW.trod enc P w 0 spare held fuel t cs = some x → ∃ a, k.K w a cs ∧ G a
def FOpens {α : Type} (P : Program) (fs : List (TypeId × Nat)) (o : Nat) (k : Kd α) (G : α → Prop) : Prop :=
  ∀ (H : Type) (enc : TypeId × Value → H) (w : World) (spare : Nat → Bool) (held : Bool) (n : Nat) (cs : List Value), cs.length = o + k.sz → (∀ f ∈ fs, ∃ y, DataW.trod enc P w 0 spare held n f.1 ((cs.drop f.2).take (P.cellsOf f.1)) = some y) → ∃ a, k.K w a (cs.drop o) ∧ G a
theorem opens_int {P : Program} {t : TypeId} {k : IntKind} (ht : P.underlying t = some (.int k)) : Opens P t (Kd.int k) (fun a => (Lit.int k a).wf = true) := by
  intro H enc w spare held fuel cs x h
  obtain ⟨n, rfl, _, hw⟩ := DataW.trod_int ht h
  exact ⟨n, rfl, hw⟩
theorem opens_bool {P : Program} {t : TypeId} (ht : P.underlying t = some .bool) : Opens P t Kd.bool (fun _ => True) := by
  intro H enc w spare held fuel cs x h
  obtain ⟨n, rfl, _⟩ := DataW.trod_bool ht h
  exact ⟨n, rfl, trivial⟩
theorem mem_cells {w : World} {base : Nat} {a : Addr} {n : Nat} {cs : List Value} (h : w.cells? base a n = some cs) : cs.length = n ∧ ∀ i u, cs[i]? = some u → w.cell? (a.add i) = some u := by
  unfold World.cells? at h
  split at h
  · have hl : cs.length = n := by rw [mapM_some_length h]; simp
    refine ⟨hl, fun i u hu => ?_⟩
    have hi : i < n := by rw [← hl]; exact (List.getElem?_eq_some_iff.1 hu).1
    have h1 := mapM_some_get h i i (by rw [List.getElem?_eq_getElem (by simpa using hi)]; simp)
    rw [h1, hu]
  · cases h
theorem opens_slice {α : Type} {P : Program} {t e : TypeId} {k : Kd α} {G : α → Prop} (ht : P.underlying t = some (.slice e)) (hc : P.cellsOf e = k.sz) (he : Opens P e k G) :
    Opens P t (Kd.slice e k) (fun xs => xs.length ≤ 9223372036854775807 ∧ ∀ x ∈ xs, G x) := by
  intro H enc w spare held fuel cs x h
  rcases DataW.trod_slice ht h with ⟨rfl, _⟩ | ⟨a, len, cap, elems, rest, n, _, rfl, _, _, hl, hm, hlen, hel, _⟩
  · exact ⟨[], ⟨none, 0, rfl, Nat.le_refl _, rfl, by simp, fun hn => absurd hn (by simp)⟩, by simp, (fun x hx => by cases hx)⟩
  · have each : ∀ i, i < len → ∃ y c, c.length = k.sz ∧ k.K w y c ∧ G y ∧ ∀ j u, c[j]? = some u → w.cell? (a.add (i * k.sz + j)) = some u := by
      intro i hi
      have h1 := hel i hi
      rw [List.getElem?_eq_getElem (by omega), Option.bind_eq_some_iff] at h1
      obtain ⟨c, h2, h3⟩ := h1
      rw [hc] at h2
      obtain ⟨h4, h5⟩ := mem_cells h2
      obtain ⟨y, h6, h7⟩ := he H enc w spare held n c _ h3
      refine ⟨y, c, h4, h6, h7, fun j u hu => ?_⟩
      have h8 := h5 j u hu
      have e1 : (a.add (i * k.sz)).add j = a.add (i * k.sz + j) := by
        unfold Addr.add
        by_cases z1 : i * k.sz = 0 <;> by_cases z2 : j = 0 <;> simp_all [Nat.add_assoc]
      rw [← e1]
      exact h8
    have all : ∀ m, m ≤ len → ∃ xs : List α, xs.length = m ∧ (∀ x ∈ xs, G x) ∧ ∀ j p, xs[j]? = some p → ∃ c, c.length = k.sz ∧ k.K w p c ∧ ∀ i u, c[i]? = some u → w.cell? (a.add (j * k.sz + i)) = some u := by
      intro m
      induction m with
      | zero => intro _; exact ⟨[], rfl, (fun x hx => by cases hx), (fun j p hp => by simp at hp)⟩
      | succ m ih =>
        intro hm2
        obtain ⟨xs, h1, h2, h3⟩ := ih (by omega)
        obtain ⟨y, c, h4, h5, h6, h7⟩ := each m (by omega)
        refine ⟨xs ++ [y], by simp [h1], ?_, fun j p hp => ?_⟩
        · intro x hx
          rcases List.mem_append.1 hx with hx | hx
          · exact h2 x hx
          · rw [List.mem_singleton.1 hx]; exact h6
        · by_cases hj : j < xs.length
          · rw [List.getElem?_append_left hj] at hp
            exact h3 j p hp
          · have hjl := (List.getElem?_eq_some_iff.1 hp).1
            have hj2 : j = m := by simp at hjl; omega
            subst hj2
            rw [List.getElem?_append_right (by omega), h1, Nat.sub_self] at hp
            obtain rfl : y = p := by simpa using hp
            exact ⟨c, h4, h5, h7⟩
    obtain ⟨xs, h1, h2, h3⟩ := all len (Nat.le_refl _)
    simp only [maxLen] at hm
    exact ⟨xs, ⟨some a, cap, by rw [h1], by omega, rfl, by omega, fun _ => ⟨a, rfl, h3⟩⟩, by omega, h2⟩
theorem fopens_one {α : Type} {P : Program} {t o : Nat} {k : Kd α} {G : α → Prop} (hc : P.cellsOf t = k.sz) (h : Opens P t k G) : FOpens P [(t, o)] o k G := by
  intro H enc w spare held n cs hl hf
  obtain ⟨y, hy⟩ := hf _ (List.mem_singleton.2 rfl)
  simp only at hy
  rw [hc, List.take_of_length_le (by simp; omega)] at hy
  exact h H enc w spare held n _ _ hy
theorem fopens_cons {α β : Type} {P : Program} {t o : Nat} {fs : List (TypeId × Nat)} {k : Kd α} {k2 : Kd β} {G : α → Prop} {G2 : β → Prop} (hc : P.cellsOf t = k.sz) (h : Opens P t k G) (h2 : FOpens P fs (o + k.sz) k2 G2) :
    FOpens P ((t, o) :: fs) o (Kd.pair k k2) (fun p => G p.1 ∧ G2 p.2) := by
  intro H enc w spare held n cs hl hf
  obtain ⟨y, hy⟩ := hf _ List.mem_cons_self
  simp only at hy
  rw [hc] at hy
  obtain ⟨a, ha, hga⟩ := h H enc w spare held n _ _ hy
  obtain ⟨b, hb, hgb⟩ := h2 H enc w spare held n cs (by rw [hl]; show o + (k.sz + k2.sz) = _; omega) (fun f hf2 => hf f (List.mem_cons_of_mem _ hf2))
  refine ⟨(a, b), ⟨_, _, ?_, ha, hb⟩, hga, hgb⟩
  rw [← List.drop_drop]
  exact (List.take_append_drop _ _).symm
theorem opens_struct {α β : Type} {P : Program} {t : TypeId} {Fs : Array Field} {fs : List (TypeId × Nat)} {k : Kd α} {G : α → Prop} (f : β → α) (g : α → β) (hfg : ∀ x, f (g x) = x) (ht : P.underlying t = some (.struct Fs)) (hfs : Fs.toList.map (fun x => (x.type, x.offset)) = fs) (hc : P.cellsOf t = k.sz)
    (h : FOpens P fs 0 k G) : Opens P t (Kd.iso k f) (fun b => G (f b)) := by
  intro H enc w spare held fuel cs x hx
  obtain ⟨xs, n, _, _, hl, hxs, hall⟩ := DataW.trod_struct ht hx
  obtain ⟨a, ha, hg⟩ := h H enc w spare held n cs (by rw [hl, hc]; omega) (fun q hq => by
    rw [← hfs] at hq
    obtain ⟨F, hF, rfl⟩ := List.mem_map.1 hq
    obtain ⟨i, hi, rfl⟩ := List.mem_iff_getElem.1 hF
    have h1 := hall i _ (by rw [Array.getElem?_eq_getElem (by simpa using hi)])
    rw [List.getElem?_eq_getElem (by rw [hxs]; simpa using hi)] at h1
    exact ⟨_, by simpa using h1⟩)
  refine ⟨g a, ?_, ?_⟩
  · show k.K w (f (g a)) cs
    rw [hfg]
    simpa using ha
  · show G (f (g a))
    rw [hfg]; exact hg
end Go.Proofs.Fn
end
section
namespace Go.Proofs.Fn
open Go.RowKit Go.Proofs.YtfnjbgggmddgpaaW.PrintWords Go.Proofs.YtfnjbgggmddgpaaW.PrintLast
structure FnB (P : Program) (F : FuncId) (C : Array Value) (w : World) (φ : Int → Option Bool) : Prop where
  has : ∃ fn, P.funcs[F]? = some fn ∧ (fn.name == "runtime.NumGoroutine") = false ∧ fn.body.isSome = true
  run : ∀ (x : Int) (b : Bool) (W : World), Below w.heap.size w W → φ x = some b → Calls P F (#[.int .i64 x] ++ C) W fun e W' => e = .returned (.bool b) ∧ Below W.heap.size W W'
theorem FnB.below {P : Program} {F : FuncId} {C : Array Value} {w w1 : World} {φ : Int → Option Bool} (h : FnB P F C w φ) (hb : Below w.heap.size w w1) : FnB P F C w1 φ :=
  ⟨h.has, fun x b W hW he => h.run x b W (below_then hb hb.size hW) he⟩
section
variable {P : Program} {ops : Array Oper} {o : Oper} {rest : List Oper} {a : Act} {Q : Exit → Act → World → Prop} {W : World}
theorem gate_fnv {t : Tmp} {ags : Array Operand} {ts : Array TypeId} (_ : o.op = .call { callee := .value (.tmp t), args := ags, argTypes := ts }) (h : wpList P ops Q (o :: rest) a W) : wpList P ops Q (o :: rest) a W := h
theorem fnL_ {rest : List Oper} {oi : Oper} {a : Act} {w : World} (N : Option Tmp) (hd : oi.dst = N) (hg : oi.guard = none) {cal : Operand} {F : FuncId} {C : Array Value} {ags : Array Operand} {ts : Array TypeId}
    (hop : oi.op = .call { callee := .value cal, args := ags, argTypes := ts }) (hv : a.eval cal = .func (.func F) #[] C)
    (hF : ∃ fn, P.funcs[F]? = some fn ∧ (fn.name == "runtime.NumGoroutine") = false ∧ fn.body.isSome = true) (args : Array Value) (hargs : ags.map a.eval = args)
    (h : Calls P F (args ++ C) w fun e w' => ∃ v, e = .returned v ∧ wpList P ops Q rest (a.put N v) w') : wpList P ops Q (oi :: rest) a w := by
  obtain ⟨fn, hf, hname, hb⟩ := hF
  refine wpList_plain hg fun K hK => ?_
  have hrun : (execOp a.eval oi).run P w = .ok (.enter F (args ++ C)) w := by
    have hc := enters_ hf hname hb (args ++ C) w
    unfold execOp
    simp [hop, hv, resolve, Deferred.ofValue, invoke, hargs, hc]
  unfold Oper.wp
  rw [hrun, Oper.upon_enter]
  refine h.mono fun e w'' hh => ?_
  obtain ⟨v, rfl, hk⟩ := hh
  subst hd
  exact hK _ _ hk
end
end Go.Proofs.Fn
end
section
set_option linter.unusedSimpArgs false
set_option linter.unusedVariables false
namespace Go.Proofs.Fn
open Go.RowKit Go.Proofs.YtfnjbgggmddgpaaW.PrintWords Go.Proofs.YtfnjbgggmddgpaaW.PrintLast
theorem run_copy_gen {P : Program} (w : World) (dT sT ty elem : TypeId) (sz N : Nat) (D S : Option Addr) (dl dc sl sc : Nat) (cs : List Value) (hu : P.underlying dT = some (.slice elem)) (hs : (P.info? elem).map (·.size) = some sz)
    (hn : N = Nat.min sl dl) (hcs : cs.length = N * sz) (hsrc : 0 < N → ∃ a, S = some a ∧ ∀ j v, cs[j]? = some v → w.cell? (a.add j) = some v) (w1 : World)
    (hst : 0 < N → ∃ a, D = some a ∧ (storeCells a cs).run P w = .ok () w1) (h0 : N = 0 → w1 = w) :
    (Builtin.copy_ #[dT, sT] ty #[.slice D dl dc, .slice S sl sc]).run P w = .ok (goInt N) w1 := by
  cases hq : P.info? elem with
  | none => simp [hq] at hs
  | some i =>
    have hi : i.size = sz := by simpa [hq] using hs
    rcases Nat.eq_zero_or_pos N with hz | hp
    · have hcs0 : cs = [] := List.eq_nil_of_length_eq_zero (by rw [hcs, hz]; simp)
      rw [h0 hz]
      cases S with
      | none =>
        cases D <;> simp [Builtin.copy_, run_underlying hu, Builtin.lenOf, Builtin.firstCells, sizeOf, typeInfo, hq, hi, ← hn, hz, loadCells, loadCellsFrom, storeCells]
      | some a =>
        cases D <;> simp [Builtin.copy_, run_underlying hu, Builtin.lenOf, Builtin.firstCells, sizeOf, typeInfo, hq, hi, ← hn, hz, loadCells, loadCellsFrom, storeCells]
    · obtain ⟨a, rfl, hc⟩ := hsrc hp
      obtain ⟨b, rfl, hs2⟩ := hst hp
      have hl := run_loadCells_list (P := P) w a cs hc
      rw [hcs] at hl
      simp [Builtin.copy_, run_underlying hu, Builtin.lenOf, Builtin.firstCells, sizeOf, typeInfo, hq, hi, ← hn, hl, hs2]
theorem reps_one {α : Type} {R : α → List Value → Prop} {sz : Nat} {ps : List α} {cs : List Value} (hR : ∀ p c, R p c → ∀ u ∈ c, u.oneCell' = true) (hsz : 0 < sz) (h : Reps R sz ps cs) : ∀ u ∈ cs, u.oneCell' = true := by
  intro u hu
  obtain ⟨k, hk, rfl⟩ := List.mem_iff_getElem.1 hu
  have hj : k / sz < ps.length := Nat.div_lt_of_lt_mul (by rw [Nat.mul_comm, ← h.1]; exact hk)
  refine hR _ _ (h.2 (k / sz) _ (List.getElem?_eq_getElem hj)) _ ?_
  have e : k = k / sz * sz + k % sz := by rw [Nat.mul_comm]; exact (Nat.div_add_mod k sz).symm
  refine List.mem_iff_getElem?.2 ⟨k % sz, ?_⟩
  rw [List.getElem?_take_of_lt (Nat.mod_lt _ hsz), List.getElem?_drop, ← e]
  exact List.getElem?_eq_getElem hk
theorem add_off_ (g o j : Nat) : (⟨g, o, none⟩ : Addr).add j = ⟨g, o + j, none⟩ := by unfold Addr.add; split <;> simp_all
theorem copy_shift {P : Program} {α : Type} {d : Kd α} {e : Nat} {W : World} {base : Nat} {ok : Nat → Prop} {g n cap : Nat} {xs : List α} (h : d.R e W base ok (.slice (some ⟨g, 0, none⟩) n cap) xs)
    (dT sT ty : TypeId) (hu : P.underlying dT = some (.slice e)) (hi : (P.info? e).map (·.size) = some d.sz) (hsz : 0 < d.sz) (i : Nat) (hin : i < n) (D S : Option Addr) (c1 c2 : Nat)
    (hD : i + 1 < n → D = some ⟨g, (i + 1) * d.sz, none⟩) (hS : i + 1 < n → S = some ⟨g, i * d.sz, none⟩) :
    ∃ w1, (Builtin.copy_ #[dT, sT] ty #[.slice D (n - (i + 1)) c1, .slice S (n - i) c2]).run P W = .ok (goInt (n - (i + 1) : Nat)) w1 ∧
      d.R e w1 base ok (.slice (some ⟨g, 0, none⟩) n cap) (xs.take (i + 1) ++ (xs.drop i).take (n - (i + 1))) ∧ W.grownBy w1 (some g) := by
  obtain ⟨hok, inner, ⟨ho1, ho2⟩, hr⟩ := h
  rcases ho2 with ⟨hv, _⟩ | ⟨g', cap', cur, hv, hb, hh, hnc, hcm, hcs, ht⟩
  · cases hv
  injection hv with ha hnn hc
  injection ha with ha
  injection ha with hg
  subst hg hc
  have hxn : xs.length = n := hnn.symm
  obtain ⟨cs, hcse⟩ : ∃ cs, cs = (inner.drop (i * d.sz)).take ((n - (i + 1)) * d.sz) := ⟨_, rfl⟩
  have hil : inner.length = n * d.sz := by rw [ho1, hxn]
  have hmul : (n - (i + 1)) * d.sz ≤ inner.length - i * d.sz := by
    rw [hil, ← Nat.sub_mul]; exact Nat.mul_le_mul_right _ (by omega)
  have hcl : cs.length = (n - (i + 1)) * d.sz := by rw [hcse, List.length_take, List.length_drop]; omega
  have hfit : (i + 1) * d.sz + cs.length ≤ cur.toList.length := by
    rw [hcl, ← Nat.add_mul, Array.length_toList, hcs]; exact Nat.mul_le_mul_right _ (by omega)
  have hone : ∀ v ∈ cs, v.oneCell' = true := fun v hv => reps_one (fun p c hp => d.K_one (d.K_of_M hp)) hsz hr v (by rw [hcse] at hv; exact List.mem_of_mem_drop (List.mem_of_mem_take hv))
  have hcurin : ∀ k, k < n * d.sz → cur.toList[k]? = inner[k]? := fun k hk => by
    rw [← ht, List.getElem?_take_of_lt (by rw [hxn]; exact hk)]
  obtain ⟨w1, hw1⟩ : ∃ w1, w1 = W.setRow g (cur.toList.take ((i + 1) * d.sz + 0) ++ cs ++ cur.toList.drop ((i + 1) * d.sz + 0 + cs.length)).toArray := ⟨_, rfl⟩
  have hst := run_storeCells_at P g ((i + 1) * d.sz) e cs 0 cur W hh (by simpa using hfit) hone
  rw [← hw1] at hst
  have hheap : w1.heap[g]? = some (.cells (cur.toList.take ((i + 1) * d.sz) ++ cs ++ cur.toList.drop ((i + 1) * d.sz + cs.length)).toArray e (0, 0)) := by rw [hw1]; exact setRow_heap W g _ _ e _ hh
  have hother : ∀ k, k ≠ g → w1.heap[k]? = W.heap[k]? := fun k hk => by rw [hw1]; exact setRow_other W g k _ hk
  have hgrow : W.grownBy w1 (some g) := by
    refine ⟨by rw [hw1]; rfl, by rw [hw1]; rfl, by rw [hw1]; rfl, by rw [hw1]; simp [World.setRow], fun k _ hk => hother k (fun he => hk (by rw [he]))⟩
  refine ⟨w1, ?_, ⟨hok, (inner.take ((i + 1) * d.sz) ++ cs), ⟨?_, .inr ⟨g, cap, _, ?_, hb, hheap, ?_, hcm, ?_, ?_⟩⟩, ?_⟩, hgrow⟩
  · refine run_copy_gen W dT sT ty e d.sz (n - (i + 1)) D S _ c1 _ c2 cs hu hi (by show _ = min _ _; omega) hcl (fun hp => ?_) w1 (fun hp => ⟨_, hD (by omega), hst⟩) (fun hz => ?_)
    · refine ⟨_, hS (by omega), fun j v hj => ?_⟩
      have hjl : j < cs.length := (List.getElem?_eq_some_iff.1 hj).1
      rw [hcse, List.getElem?_take_of_lt (by omega), List.getElem?_drop] at hj
      have hlt : i * d.sz + j < n * d.sz := by rw [← hil]; exact (List.getElem?_eq_some_iff.1 hj).1
      rw [← hcurin _ hlt] at hj
      rw [add_off_]
      simp [World.cell?, hh]
      simpa using hj
    · have hcs0 : cs = [] := List.eq_nil_of_length_eq_zero (by rw [hcl, hz]; simp)
      rw [hw1, hcs0]
      simp
      exact setRow_self W g cur e (0, 0) hh
  · rw [List.length_append, List.length_take, hcl, hil, Nat.min_eq_left (Nat.mul_le_mul_right _ (by omega)), ← Nat.add_mul]
    congr 1
    simp; omega
  · simp; omega
  · simp at hfit ⊢; omega
  · have hl : (cur.toList.take ((i + 1) * d.sz) ++ cs ++ cur.toList.drop ((i + 1) * d.sz + cs.length)).length = cur.toList.length := by
      simp only [List.length_append, List.length_take, List.length_drop]
      generalize (i + 1) * d.sz = A at hfit ⊢
      omega
    rw [← hcs]
    exact hl.trans (by rw [Array.length_toList])
  · have e1 : (xs.take (i + 1) ++ (xs.drop i).take (n - (i + 1))).length = n := by simp; omega
    rw [e1]
    have e2 : n * d.sz = ((i + 1) * d.sz) + cs.length := by rw [hcl, ← Nat.add_mul]; congr 1; omega
    have e3 : inner.take ((i + 1) * d.sz) = cur.toList.take ((i + 1) * d.sz) := by
      rw [← ht, List.take_take, Nat.min_eq_left (Nat.mul_le_mul_right _ (by omega))]
    have e4 : (cur.toList.take ((i + 1) * d.sz)).length = (i + 1) * d.sz := by rw [List.length_take]; omega
    simp only [List.toList_toArray]
    rw [e3, e2, List.take_append_of_le_length (by rw [List.length_append, e4]; omega), List.take_of_length_le (by rw [List.length_append, e4]; omega)]
  · have hr' : Reps (d.M w1 base (fun k => ok k ∧ some k ≠ (Value.slice (some ⟨g, 0, none⟩) n cap).ownBlock)) d.sz xs inner :=
      hr.imp_ fun p c hp => d.M_move (fun k hk => hother k (fun he => hk.2 (by rw [he]; rfl))) hp
    refine Kd.reps_append (Kd.reps_take hr' (by omega)) ?_
    rw [hcse]
    exact Kd.reps_take (Kd.reps_drop hr') (by simp; omega)
def shiftUp {α : Type} (l : List α) (i : Nat) : List α := l.take (i + 1) ++ (l.drop i).take (l.length - (i + 1))
def shiftAt_ {α : Type} (xs : List (List α)) (s i : Int) : List (List α) := xs.set s.toNat (shiftUp (xs.getD s.toNat []) i.toNat)
theorem with_world_ {P : Program} {Q : Exit → Act → World → Prop} {a : Act} {W : World} {c : Code} {Pr : World → Prop} (h : Pr W) (k : Pr W → Code.wp P c Q a W) : Code.wp P c Q a W := k h
theorem gate_reg {P : Program} {Q : Exit → Act → World → Prop} {a : Act} {W : World} {id : Nat} {ops : Array Oper} (h : Code.wp P (.region id ops true) Q a W) : Code.wp P (.region id ops true) Q a W := h
theorem size_of_ {P : Program} {e sz b : Nat} {z : Option Value} (h : (P.info? e).map (fun i => (i.zero, i.size, i.bytes)) = some (z, sz, b)) : (P.info? e).map (·.size) = some sz := by
  cases hq : P.info? e with
  | none => simp [hq] at h
  | some i => simp [hq] at h ⊢; exact h.2.1
theorem run_low_ {P : Program} {w : World} {T e sz b : Nat} {z : Option Value} (hu : P.underlying T = some (.slice e)) (hi : (P.info? e).map (fun i => (i.zero, i.size, i.bytes)) = some (z, sz, b)) (g : Nat) {n c : Nat} {l : Int} (D : Option Addr) (hD : D = if c = l.toNat then some ⟨g, 0, none⟩ else some ⟨g, l.toNat * sz, none⟩) (h0 : 0 ≤ l) (h1 : l ≤ (n : Int)) :
    (Instr.slice T (.slice (some ⟨g, 0, none⟩) n c) (some (.int .i64 l)) none none).run P w = .ok (.slice D (n - l.toNat) (c - l.toNat)) w := by
  have hD2 : D = (if c = l.toNat then some ⟨g, 0, none⟩ else (some (⟨g, 0, none⟩ : Addr)).map (·.add (l.toNat * sz))) := by rw [hD, Option.map_some, add_plain]
  clear hD
  rw [hD2]
  have hs := size_of_ hi
  cases hq : P.info? e with
  | none => simp [hq] at hs
  | some i =>
    have hi' : i.size = sz := by simpa [hq] using hs
    simp [Instr.slice, Instr.sliceBounds, Instr.sliceBound, asIntOf, run_underlying hu, sizeOf, typeInfo, hq, hi', h0, h1, Sem.run_bind, Result.andThen]
theorem wrap_len_ {i : Int} {n : Nat} (hn : n ≤ 9223372036854775807) (h1 : i < (n : Int)) (h0 : 0 ≤ i) : wrap64 (i + 1) = i + 1 := by
  unfold wrap64; omega
theorem copy_op_ {P : Program} {oi : Oper} {a : Act} {w w1 : World} {dT sT : TypeId} {d s : Operand} {vd vs r : Value} (ho : oi.op = .call { callee := .builtin .copy, args := #[d, s], argTypes := #[dT, sT] }) (hd : a.eval d = vd) (hs : a.eval s = vs)
    (hr : ∀ ty, (Builtin.copy_ #[dT, sT] ty #[vd, vs]).run P w = .ok r w1) : (execOp a.eval oi).run P w = .ok (.value r) w1 := by
  simp [execOp, ho, resolve, invoke, builtin, hd, hs, hr, Result.andThen]
theorem below_grown_ {base : Nat} {w0 W w1 : World} {g t : Nat} (hb : Below base w0 W) (hg : W.grownBy w1 (some g)) (hge : (∃ cells, W.heap[g]? = some (.cells cells t (0, 0))) ∧ base ≤ g) : Below base w0 w1 :=
  hb.trans ⟨hg.os, hg.tape, hg.output, hg.size, fun k hk => by
    obtain ⟨⟨cells, hc⟩, hle⟩ := hge
    have := (Array.getElem?_eq_some_iff.1 hc).1
    exact hg.block k (by omega) (fun e => by injection e with e; omega)⟩
theorem blk_ne_ {H : Array Obj} {b g t t' : Nat} {cs : Array Value} {fr : Nat × Nat} (hb : H[b]? = some (.cells cs t fr)) (hc : ∃ cells, H[g]? = some (.cells cells t' (0, 0))) (ht : t ≠ t') (e : b = g) : False := by
  subst e
  obtain ⟨cells, hc⟩ := hc
  rw [hb] at hc
  injection hc with hc
  injection hc with _ h2
  exact ht h2
section
variable {α : Type} {d : Kd α} {e g t : Nat} {W w1 : World} {base : Nat} {ok : Nat → Prop} {u : Value} {xs : List α}
theorem Kd.R_overg_ (h : d.R e W base ok u xs) (hc : ∃ cells, W.heap[g]? = some (.cells cells t (0, 0))) (ht : ∀ q, q ∈ e :: d.E → q ≠ t) (hg : W.grownBy w1 (some g)) : d.R e w1 base ok u xs :=
  Kd.R_over' (v := .slice (some ⟨g, 0, none⟩) 0 0) h (fun k hk => by injection hk with hk; subst hk; exact hc) ht hg
end
theorem shift_pre_ {α : Type} {d : Kd α} {E e : Nat} {W : World} {base : Nat} {ok : Nat → Prop} {g n cap : Nat} {xs : List (List α)} (h : Kd.S (Kd.slice e d) E W base ok (.slice (some ⟨g, 0, none⟩) n cap) xs) {s i : Int} (h0 : 0 ≤ s) (h1 : s < (n : Int))
    (i0 : 0 ≤ i) (i1 : i < ((xs.getD s.toNat []).length : Int)) :
    ∃ gi ci, W.cell? ⟨g, s.toNat, none⟩ = some (.slice (some ⟨gi, 0, none⟩) (xs.getD s.toNat []).length ci) ∧ (xs.getD s.toNat []).length ≤ 9223372036854775807 ∧ ((∃ cells, W.heap[gi]? = some (.cells cells e (0, 0))) ∧ base ≤ gi) ∧
      ∀ {P : Program} {T b : Nat} {z : Option Value}, P.underlying T = some (.slice e) → (P.info? e).map (fun i => (i.zero, i.size, i.bytes)) = some (z, d.sz, b) → 0 < d.sz →
        ∃ w1, (∀ ty D S, D = (if ci = (i + 1).toNat then some ⟨gi, 0, none⟩ else some ⟨gi, (i + 1).toNat * d.sz, none⟩) → S = (if ci = i.toNat then some ⟨gi, 0, none⟩ else some ⟨gi, i.toNat * d.sz, none⟩) → (Builtin.copy_ #[T, T] ty #[.slice D ((xs.getD s.toNat []).length - (i + 1).toNat) (ci - (i + 1).toNat),
            .slice S ((xs.getD s.toNat []).length - i.toNat) (ci - i.toNat)]).run P W = .ok (goInt ((xs.getD s.toNat []).length - (i.toNat + 1) : Nat)) w1) ∧
          Kd.S (Kd.slice e d) E w1 base ok (.slice (some ⟨g, 0, none⟩) n cap) (shiftAt_ xs s i) ∧ W.grownBy w1 (some gi) := by
  obtain ⟨oki, c, hcl, hM, hcc, hok, hbk⟩ := Kd.S_borrow h [] s h0 h1
  obtain ⟨v, rfl, hR⟩ := hM
  obtain ⟨gi, ci, rfl, hbase, _, hcells⟩ := Kd.R_form hR (by omega)
  have hrd := Kd.R_reads' hR
  have hx := hcc 0 _ rfl
  rw [show (Kd.slice e d).sz = 1 from rfl, Nat.mul_one, Nat.add_zero, add_plain] at hx
  refine ⟨gi, ci, hx, ?_, ⟨hcells, hbase⟩, fun {P T b z} hu hi hsz => ?_⟩
  · obtain ⟨inner, ho⟩ := Kd.R_own hR
    rcases ho.2 with ⟨_, hz⟩ | ⟨g', cap', cur, _, _, _, hle, hcm, _⟩
    · omega
    · simp only [maxLen] at hcm; omega
  · have e1 : (i + 1).toNat = i.toNat + 1 := by omega
    have hlt : i.toNat < (xs.getD s.toNat []).length := by omega
    obtain ⟨w1, hrun, hR1, hg1⟩ := copy_shift (P := P) hR T T 0 hu (size_of_ hi) hsz i.toNat hlt
      (if ci = (i + 1).toNat then some ⟨gi, 0, none⟩ else some ⟨gi, (i + 1).toNat * d.sz, none⟩) (if ci = i.toNat then some ⟨gi, 0, none⟩ else some ⟨gi, i.toNat * d.sz, none⟩) (ci - (i + 1).toNat) (ci - i.toNat)
      (fun hl => by rw [if_neg (by have := hrd.2.1; omega), e1]) (fun hl => by rw [if_neg (by have := hrd.2.1; omega)])
    refine ⟨w1, fun ty D S hD hS => ?_, ?_, hg1⟩
    · subst hD; subst hS; rw [e1] at hrun ⊢; exact hrun
    · exact hbk hg1 (fun k hk => by injection hk with hk; subst hk; exact hR.1 _ rfl) (Kd.M_row hR1)
theorem reb0_ {w0 w w' : World} {p : Prop} (hb : Below w0.heap.size w0 w) (h : p ∧ Below w.heap.size w w') : p ∧ Below w0.heap.size w0 w' := ⟨h.1, below_then hb hb.size h.2⟩
end Go.Proofs.Fn
end
section
set_option linter.unusedSimpArgs false
set_option linter.unusedVariables false
namespace Go.Proofs.Ytfnjbgggmddgpaa.Q
open Go.RowKit Go.Proofs.Fn Go.Proofs.YtfnjbgggmddgpaaW.PrintWords Go.Proofs.YtfnjbgggmddgpaaW.PrintLast Go.Proofs.YtfnjbgggmddgpaaW.PrintMore
theorem tB {P : Prop} (h : P := by repeat (first | (with_reducible first | exact HB.out | apply below_alloc | apply pw_below_drewN | apply below_drew1 | refine below_set ?_ (Aside0.out (by with_reducible assumption))) | exact HB.out)) : P := h
theorem tR {Q P : Prop} (q : Aside0 Q) (h : Q → P := by intro hq_; (with_reducible repeat (first | apply Kd.R_alloc | apply Kd.R_drewN | apply Kd.R_drew | apply Kd.S_alloc | apply Kd.S_drewN | apply Kd.S_drew | apply Kd.Q_alloc | apply Kd.Q_drewN | apply Kd.Q_drew | apply Kd.N_alloc | apply Kd.N_drewN | apply Kd.N_drew)); exact hq_) : P := h q.out
theorem tK {Q P : Prop} (q : Aside0 Q) (h : Q → P := by intro hq_; (with_reducible repeat (first | refine blk_drewN ?_ _ | refine blk_drew ?_ | refine blk_alloc ?_ _)); exact hq_) : P := h q.out
theorem tD {p : Prop} [Decidable p] (h : decide p = true := by first | (with_reducible assumption) | assumption) : p := of_decide_eq_true h
theorem tC {Q P : Prop} (q : Q) (h : Q → P := by intro hq_; repeat (first | exact hq_ | (with_reducible refine Kd.C_alloc ?_ _) | (with_reducible refine Kd.C_drewN ?_ _) | (with_reducible refine Kd.C_drew ?_))) : P := h q
theorem tE {P : Prop} (h : P := by first | rfl | (simp [errW_none, errW_some] <;> rfl) | (simp [*, errW_none, errW_some] <;> rfl)) : P := h
theorem tS : (∀ (a : Act) (v : Value) (d : Tmp), a.put (some d) v = { tmps := a.tmps.setIfInBounds d v, defers := a.defers }) ∧ (∀ (a : Act) (v : Value), a.put none v = a) ∧ (∀ (l : List Value) (i : Nat) (a : Value), l.toArray.setIfInBounds i a = (l.set i a).toArray) ∧ (∀ (x : Value) (xs : List Value) (a : Value), (x :: xs).set 0 a = a :: xs) ∧ (∀ (x : Value) (xs : List Value) (i : Nat) (a : Value), (x :: xs).set (i + 1) a = x :: xs.set i a) :=
  ⟨fun _ _ _ => rfl, fun _ _ => rfl, fun _ _ _ => List.setIfInBounds_toArray .., fun _ _ _ => rfl, fun _ _ _ _ => rfl⟩
section
variable {P : Program} {ops : Array Oper} {Q : Exit → Act → World → Prop} {md : Region.Mode} {S : World → Prop} {ds : List Nat} {T : Bool × List (List Nat × List Nat)} {B : List Nat}
def bk (n k : Nat) : Array Bool := ⟨(List.range n).map (fun i => k.testBit i)⟩
theorem bk_zero (n : Nat) : Array.replicate n false = bk n 0 := by
  apply Array.ext'
  simp only [bk, Nat.zero_testBit, Array.toList_replicate]
  exact (List.map_const' ..).symm ▸ by simp
theorem ai {a b c : Prop} (h : a → b → c) : a ∧ b → c := fun x => h x.1 x.2
theorem sP {oi : Oper} {v : Value} {fuel n k : Nat} {a a' : Act} {w : World} (i N : Nat) (hT : Aside0 (rtab md ops = T)) (hi : ops[i]? = some oi) (hN : oi.dst = some N) (h : wpAnyLast P md ops Q S ds fuel (bk n (k + 2 ^ i)) a' w)
    (hw : Region.wanted oi (yielded ops a.tmps) = true := by rfl) (hy : ∀ w', (execOp a.eval oi).run P w' = .ok (.value v) w' := by intro w'; go_simp; with_reducible rfl)
    (ha : a.put (some N) v = a' := by simp only [tS, i64_w, i32_w]; rfl) (hQ : ∀ c a w, Q (.panic c) (a.put oi.dst v) w → Q (.panic c) a w := by exact fun _ _ _ h => h)
    (hc : anyT T (bk n k).toList (bk n (k + 2 ^ i)).toList i = true := by kernel_rfl) : wpAnyLast P md ops Q S ds (fuel + 1) (bk n k) a w :=
  pure_ (bk n (k + 2 ^ i)) hi hN (any_of hT.out hc) hQ (Or.inl ⟨hw, hy⟩) ha h
theorem sU {oi : Oper} {fuel n k : Nat} {a a' : Act} {w : World} (i N : Nat) (hT : Aside0 (rtab md ops = T)) (hi : ops[i]? = some oi) (hN : oi.dst = some N) (h : wpAnyLast P md ops Q S ds fuel (bk n (k + 2 ^ i)) a' w)
    (hw : Region.wanted oi (yielded ops a.tmps) = false := by rfl)
    (ha : a.put (some N) undef = a' := by simp only [tS, i64_w, i32_w]; rfl) (hQ : ∀ c a w, Q (.panic c) (a.put oi.dst undef) w → Q (.panic c) a w := by exact fun _ _ _ h => h)
    (hc : anyT T (bk n k).toList (bk n (k + 2 ^ i)).toList i = true := by kernel_rfl) : wpAnyLast P md ops Q S ds (fuel + 1) (bk n k) a w :=
  pure_ (bk n (k + 2 ^ i)) hi hN (any_of hT.out hc) hQ (Or.inr ⟨hw, rfl⟩) ha h
theorem sT {oi : Oper} {v : Value} {fuel n k : Nat} {a a' : Act} {w : World} (i N : Nat) (hT : Aside0 (rtab md ops = T)) (hW : Aside0 (waitsOk T.2 B = true)) (hi : ops[i]? = some oi) (hN : oi.dst = some N) (hS : S w) (h : wpAnyLast P md ops Q S ds fuel (bk n (k + 2 ^ i)) a' w)
    (hw : Region.wanted oi (yielded ops a.tmps) = true := by rfl) (hy : ∀ w', S w' → (execOp a.eval oi).run P w' = .ok (.value v) w' := by intro w'; (repeat (with_reducible refine ai (fun _ => ?_))); intro _; go_simp; with_reducible rfl)
    (ha : a.put (some N) v = a' := by simp only [tS, i64_w, i32_w]; rfl) (hQ : ∀ c a w, Q (.panic c) (a.put oi.dst v) w → Q (.panic c) a w := by exact fun _ _ _ h => h)
    (hc : takeW T B ds (bk n k).toList (bk n (k + 2 ^ i)).toList i = true := by kernel_rfl) : wpAnyLast P md ops Q S ds (fuel + 1) (bk n k) a w :=
  take_ (bk n (k + 2 ^ i)) hi hN (take_ofW hT.out hW.out hc) hQ (Or.inl ⟨hw, hy⟩) hS ha h
theorem sO {oi : Oper} {fuel n k : Nat} {a : Act} {w : World} (i : Nat) (N : Option Tmp) (hT : Aside0 (rtab md ops = T)) (hi : ops[i]? = some oi) (hN : oi.dst = N)
    (h : ∀ K : Act → World → Prop, Shut (∀ a' w', S w' → (S w' → wpAnyLast P md ops Q S ds fuel (bk n (k + 2 ^ i)) a' w') → K a' w') → if Region.wanted oi (yielded ops a.tmps) = true then Oper.wp P oi a w K Q else K (a.put N undef) w)
    (hd : i ∉ ds := by decide) (hc : (readyT T.2 (bk n k).toList == [i] && (bk n k).toList.set i true == (bk n (k + 2 ^ i)).toList) = true := by kernel_rfl) : wpAnyLast P md ops Q S ds (fuel + 1) (bk n k) a w :=
  one_ (bk n (k + 2 ^ i)) hi hN (one_of hT.out hc) hd h
theorem sL {oi : Oper} {fuel n k : Nat} {a : Act} {w : World} (i : Nat) (N : Option Tmp) (hT : Aside0 (rtab md ops = T)) (hi : ops[i]? = some oi) (hN : oi.dst = N)
    (h : ∀ K : Act → World → Prop, Shut (∀ a' w', wpAnyLast P md ops Q S ds fuel (bk n (k + 2 ^ i)) a' w' → K a' w') → if Region.wanted oi (yielded ops a.tmps) = true then Oper.wp P oi a w K Q else K (a.put N undef) w)
    (hd : i ∈ ds := by decide) (hc : (readyT T.2 (bk n k).toList == [i] && (bk n k).toList.set i true == (bk n (k + 2 ^ i)).toList) = true := by kernel_rfl) : wpAnyLast P md ops Q S ds (fuel + 1) (bk n k) a w :=
  last_ (bk n (k + 2 ^ i)) hi hN (one_of hT.out hc) hd h
theorem sD {fuel : Nat} {l : Array Bool} {a : Act} {w : World} (hT : Aside0 (rtab md ops = T)) (h : Q .normal a w) (hc : (readyT T.2 l.toList == []) = true := by kernel_rfl) : wpAnyLast P md ops Q S ds fuel l a w := done_ (done_of hT.out hc) h
theorem sN {fuel : Nat} {l : Array Bool} {b a' : Act} {v : Value} {w : World} (N : Nat) (h : wpAnyLast P md ops Q S ds fuel l a' w) (ha : b.put (some N) v = a' := by simp only [tS, i64_w, i32_w]; rfl) : wpAnyLast P md ops Q S ds fuel l (b.put (some N) v) w := norm_ ha h
theorem sS1 {id : Nat} {a : Act} {w : World} {p0 : Addr} {c0 : Value} (n : Nat) (ds : List Nat) (hn : ops.size = n) (hT : rtab .any ops = T) (hB : waitsOk T.2 B = true) (hS : w.cell? p0 = some c0) (h : w.drew.cell? p0 = some c0 → Aside0 (rtab .any ops = T) → Aside0 (waitsOk T.2 B = true) → wpAnyLast P .any ops Q (fun w' => w'.cell? p0 = some c0) ds n (bk n 0) a w.drew) (hm : P.follows .mixedOrders = true := by kernel_rfl) : (Code.region id ops true).wp P Q a w := start_ (S := fun w' => w'.cell? p0 = some c0) (ds := ds) (bk n 0) hm hn (bk_zero n) hS (fun q => h q ⟨hT⟩ ⟨hB⟩)
theorem zc1 {w : World} {g : Nat} {t : TypeId} {c0 : Value} (h : Aside0 (w.heap[g]? = some (.cells #[c0] t (0, 0)))) : w.cell? ⟨g, 0, none⟩ = some c0 ∧ w.frozen? ⟨g, 0, none⟩ = false := ⟨(blk_cell h.out 0).trans rfl, blk_frozen h.out 0⟩
theorem zc2 {w : World} {g : Nat} {t : TypeId} {c0 c1 : Value} (h : Aside0 (w.heap[g]? = some (.cells #[c0, c1] t (0, 0)))) : w.cell? ⟨g, 0, none⟩ = some c0 ∧ w.cell? ⟨g, 1, none⟩ = some c1 ∧ w.frozen? ⟨g, 0, none⟩ = false ∧ w.frozen? ⟨g, 1, none⟩ = false := ⟨(blk_cell h.out 0).trans rfl, (blk_cell h.out 1).trans rfl, blk_frozen h.out 0, blk_frozen h.out 1⟩
theorem zc3 {w : World} {g : Nat} {t : TypeId} {c0 c1 c2 : Value} (h : Aside0 (w.heap[g]? = some (.cells #[c0, c1, c2] t (0, 0)))) : w.cell? ⟨g, 0, none⟩ = some c0 ∧ w.cell? ⟨g, 1, none⟩ = some c1 ∧ w.cell? ⟨g, 2, none⟩ = some c2 ∧ w.frozen? ⟨g, 0, none⟩ = false ∧ w.frozen? ⟨g, 1, none⟩ = false ∧ w.frozen? ⟨g, 2, none⟩ = false := ⟨(blk_cell h.out 0).trans rfl, (blk_cell h.out 1).trans rfl, (blk_cell h.out 2).trans rfl, blk_frozen h.out 0, blk_frozen h.out 1, blk_frozen h.out 2⟩
theorem sS2 {P : Program} {ops : Array Oper} {T : Bool × List (List Nat × List Nat)} {B : List Nat} {Q : Exit → Act → World → Prop} {id : Nat} {a : Act} {w : World} {p0 p1 : Addr} {c0 c1 : Value} (n : Nat) (ds : List Nat) (hn : ops.size = n) (hT : rtab .any ops = T) (hB : waitsOk T.2 B = true) (hS : w.cell? p0 = some c0 ∧ w.cell? p1 = some c1) (h : (w.drew.cell? p0 = some c0 ∧ w.drew.cell? p1 = some c1) → Aside0 (rtab .any ops = T) → Aside0 (waitsOk T.2 B = true) → wpAnyLast P .any ops Q (fun w' => w'.cell? p0 = some c0 ∧ w'.cell? p1 = some c1) ds n (bk n 0) a w.drew) (hm : P.follows .mixedOrders = true := by kernel_rfl) : (Code.region id ops true).wp P Q a w := start_ (S := fun w' => w'.cell? p0 = some c0 ∧ w'.cell? p1 = some c1) (ds := ds) (bk n 0) hm hn (bk_zero n) hS (fun q => h q ⟨hT⟩ ⟨hB⟩)
theorem sS3 {P : Program} {ops : Array Oper} {T : Bool × List (List Nat × List Nat)} {B : List Nat} {Q : Exit → Act → World → Prop} {id : Nat} {a : Act} {w : World} {p0 p1 p2 : Addr} {c0 c1 c2 : Value} (n : Nat) (ds : List Nat) (hn : ops.size = n) (hT : rtab .any ops = T) (hB : waitsOk T.2 B = true) (hS : w.cell? p0 = some c0 ∧ w.cell? p1 = some c1 ∧ w.cell? p2 = some c2) (h : (w.drew.cell? p0 = some c0 ∧ w.drew.cell? p1 = some c1 ∧ w.drew.cell? p2 = some c2) → Aside0 (rtab .any ops = T) → Aside0 (waitsOk T.2 B = true) → wpAnyLast P .any ops Q (fun w' => w'.cell? p0 = some c0 ∧ w'.cell? p1 = some c1 ∧ w'.cell? p2 = some c2) ds n (bk n 0) a w.drew) (hm : P.follows .mixedOrders = true := by kernel_rfl) : (Code.region id ops true).wp P Q a w := start_ (S := fun w' => w'.cell? p0 = some c0 ∧ w'.cell? p1 = some c1 ∧ w'.cell? p2 = some c2) (ds := ds) (bk n 0) hm hn (bk_zero n) hS (fun q => h q ⟨hT⟩ ⟨hB⟩)
theorem sS4 {P : Program} {ops : Array Oper} {T : Bool × List (List Nat × List Nat)} {B : List Nat} {Q : Exit → Act → World → Prop} {id : Nat} {a : Act} {w : World} {p0 p1 p2 p3 : Addr} {c0 c1 c2 c3 : Value} (n : Nat) (ds : List Nat) (hn : ops.size = n) (hT : rtab .any ops = T) (hB : waitsOk T.2 B = true) (hS : w.cell? p0 = some c0 ∧ w.cell? p1 = some c1 ∧ w.cell? p2 = some c2 ∧ w.cell? p3 = some c3) (h : (w.drew.cell? p0 = some c0 ∧ w.drew.cell? p1 = some c1 ∧ w.drew.cell? p2 = some c2 ∧ w.drew.cell? p3 = some c3) → Aside0 (rtab .any ops = T) → Aside0 (waitsOk T.2 B = true) → wpAnyLast P .any ops Q (fun w' => w'.cell? p0 = some c0 ∧ w'.cell? p1 = some c1 ∧ w'.cell? p2 = some c2 ∧ w'.cell? p3 = some c3) ds n (bk n 0) a w.drew) (hm : P.follows .mixedOrders = true := by kernel_rfl) : (Code.region id ops true).wp P Q a w := start_ (S := fun w' => w'.cell? p0 = some c0 ∧ w'.cell? p1 = some c1 ∧ w'.cell? p2 = some c2 ∧ w'.cell? p3 = some c3) (ds := ds) (bk n 0) hm hn (bk_zero n) hS (fun q => h q ⟨hT⟩ ⟨hB⟩)
theorem sS7 {P : Program} {ops : Array Oper} {T : Bool × List (List Nat × List Nat)} {B : List Nat} {Q : Exit → Act → World → Prop} {id : Nat} {a : Act} {w : World} {p0 p1 p2 p3 p4 p5 p6 : Addr} {c0 c1 c2 c3 c4 c5 c6 : Value} (n : Nat) (ds : List Nat) (hn : ops.size = n) (hT : rtab .any ops = T) (hB : waitsOk T.2 B = true) (hS : w.cell? p0 = some c0 ∧ w.cell? p1 = some c1 ∧ w.cell? p2 = some c2 ∧ w.cell? p3 = some c3 ∧ w.cell? p4 = some c4 ∧ w.cell? p5 = some c5 ∧ w.cell? p6 = some c6) (h : (w.drew.cell? p0 = some c0 ∧ w.drew.cell? p1 = some c1 ∧ w.drew.cell? p2 = some c2 ∧ w.drew.cell? p3 = some c3 ∧ w.drew.cell? p4 = some c4 ∧ w.drew.cell? p5 = some c5 ∧ w.drew.cell? p6 = some c6) → Aside0 (rtab .any ops = T) → Aside0 (waitsOk T.2 B = true) → wpAnyLast P .any ops Q (fun w' => w'.cell? p0 = some c0 ∧ w'.cell? p1 = some c1 ∧ w'.cell? p2 = some c2 ∧ w'.cell? p3 = some c3 ∧ w'.cell? p4 = some c4 ∧ w'.cell? p5 = some c5 ∧ w'.cell? p6 = some c6) ds n (bk n 0) a w.drew) (hm : P.follows .mixedOrders = true := by kernel_rfl) : (Code.region id ops true).wp P Q a w := start_ (S := fun w' => w'.cell? p0 = some c0 ∧ w'.cell? p1 = some c1 ∧ w'.cell? p2 = some c2 ∧ w'.cell? p3 = some c3 ∧ w'.cell? p4 = some c4 ∧ w'.cell? p5 = some c5 ∧ w'.cell? p6 = some c6) (ds := ds) (bk n 0) hm hn (bk_zero n) hS (fun q => h q ⟨hT⟩ ⟨hB⟩)
end
theorem tL {V W W' : World} {g : Nat} {o : Obj} (q : Aside0 (V.heap[g]? = some o)) (hb : Below W.heap.size W W') (h : V.heap[g]? = some o → W.heap[g]? = some o := by intro hq_; (with_reducible repeat (first | refine blk_drewN ?_ _ | refine blk_drew ?_ | refine blk_alloc ?_ _)); exact hq_) : Aside0 (W'.heap[g]? = some o) := ⟨blk_below (h q.out) hb⟩
theorem tBx {P : Program} {ops : Array Oper} {Q : Exit → Act → World → Prop} {rest : List Oper} {o : Oper} {a : Act} {W : World} (N : Tmp) (t : TypeId) (cs : Array Value)
    (h : ∀ g, g = W.heap.size → ∀ w1, w1.heap[g]? = some (.cells cs t (0, 0)) → Below W.heap.size W w1 → wpList P ops Q rest (a.put o.dst (.pointer (some ⟨g, 0, none⟩))) w1)
    (hgd : o.guard = none := by rfl) (hd : o.dst = some N := by rfl)
    (hrun : (execOp a.eval o).run P W = .ok (.value (.pointer (some ⟨W.heap.size, 0, none⟩))) (W.alloc (.cells cs t (0, 0))) := by first | (go_simp; done) | (go_simp; rfl)) : wpList P ops Q (o :: rest) a W := box_event hgd hd hrun h
theorem tA {w V W W' : World} (q : Aside0 (Below w.heap.size w V)) (hb : Below W.heap.size W W') (h : Below w.heap.size w W := by exact tB) : Aside0 (Below w.heap.size w W') := ⟨below_step h hb⟩
theorem tW {w V W : World} {g : Nat} (q : Aside0 (Below w.heap.size w V)) (hg : g = W.heap.size) (h : Below w.heap.size w W := by exact tB) : Aside0 (w.heap.size ≤ g) := ⟨hg ▸ below_size h⟩
theorem tNl {V W : World} {g g' : Nat} {o : Obj} (q : Aside0 (V.heap[g]? = some o)) (hg : g' = W.heap.size) (h : V.heap[g]? = some o → W.heap[g]? = some o := by intro hq_; (with_reducible repeat (first | refine blk_drewN ?_ _ | refine blk_drew ?_ | refine blk_alloc ?_ _)); exact hq_) : Aside0 (g ≠ g') := ⟨hg ▸ Nat.ne_of_lt (blk_lt (h q.out))⟩
theorem tNg {V W : World} {g g' : Nat} {o : Obj} (q : Aside0 (V.heap[g]? = some o)) (hg : g' = W.heap.size) (h : V.heap[g]? = some o → W.heap[g]? = some o := by intro hq_; (with_reducible repeat (first | refine blk_drewN ?_ _ | refine blk_drew ?_ | refine blk_alloc ?_ _)); exact hq_) : Aside0 (g' ≠ g) := ⟨hg ▸ Nat.ne_of_gt (blk_lt (h q.out))⟩
theorem tz {w : World} {g : Nat} {t : TypeId} {cs : Array Value} (h : Aside0 (w.heap[g]? = some (.cells cs t (0, 0)))) (i : Nat) {c : Value} (e : cs[i]? = some c := by rfl) : w.cell? ⟨g, i, none⟩ = some c := (blk_cell h.out i).trans e
theorem tH {w W : World} {p : Addr} {v : Value} (hb : Aside0 (Below w.heap.size w W)) (h : w.cell? p = some v) : W.cell? p = some v := (hb.out.cell (World.block_lt_of_cell? w _ h)).trans h
theorem tG {α : Type} {k : Kd α} {w W V : World} {A : Option Addr} {n : Nat} {l : List α} (q : Aside0 (k.C w A n l)) (hb : Aside0 (Below w.heap.size w W)) (h : k.C W A n l → k.C V A n l := by intro hq_; repeat (first | exact hq_ | (with_reducible refine Kd.C_alloc ?_ _) | (with_reducible refine Kd.C_drewN ?_ _) | (with_reducible refine Kd.C_drew ?_))) : k.C V A n l := h (Kd.C_below q.out hb.out)
theorem tF {α : Type} {p : Prop} [Decidable p] {X : Option α} {r : α} (h : (if p then X else none) = some r) : p ∧ X = some r := by
  by_cases c : p
  · rw [if_pos c] at h; exact ⟨c, h⟩
  · rw [if_neg c] at h; cases h
theorem tQ {α : Type} {y E : α} {A B : Prop} (hy : y = E) (H : A) (h : y = E → A → B := by intro hy_ H_; first | (rw [hy_]; with_reducible exact H_) | (have H2_ := (Option.bind_some _ _).symm.trans H_; rw [hy_]; with_reducible exact H2_) | (have H2_ := (Option.bind_some _ _).symm.trans H_; with_reducible exact H2_) | with_reducible exact H_ | (rw [hy_]; exact H_) | exact H_) : B := h hy H
theorem tU {P : Prop} (h : P := by first | rfl | (simp; done) | (simp [*]; done)) : P := h
theorem tV {P : Prop} (h : P := by first | exact Kd.R_nil _ _ _ _ _ | exact Kd.N_nil _ _ _ _ _ | exact Kd.V_nil _ _ _ _ _ | exact Kd.Q_nil _ _ _ _ _ | exact Kd.S_nil _ _ _ _ _) : P := h
theorem tdGi {a b : Int} (h : a > b) : decide (b < a) = true := decide_eq_true h
theorem tdHi {a b : Int} (h : ¬ a > b) : decide (b < a) = false := decide_eq_false h
theorem tdGe {a b : Int} (h : a ≥ b) : decide (b ≤ a) = true := decide_eq_true h
theorem tdHe {a b : Int} (h : ¬ a ≥ b) : decide (b ≤ a) = false := decide_eq_false h
end Go.Proofs.Ytfnjbgggmddgpaa.Q
end
section
namespace Go.Proofs.Ytfnjbgggmddgpaa.Q
open Go.RowKit Go.Proofs.Fn Go.Proofs.YtfnjbgggmddgpaaW.PrintWords Go.Proofs.YtfnjbgggmddgpaaW.PrintLast Go.Proofs.YtfnjbgggmddgpaaW.PrintMore
attribute [local go_sem] max2_int min2_int max_two min_two max_three min_three max_four min_four
set_option linter.unusedVariables false
set_option linter.unusedSimpArgs false
def errW : Option Int → Value
 | none => .nilIface
 | some c => .iface 0 (.int .i64 c)
theorem errW_none : errW none = .nilIface := rfl
theorem errW_some (c : Int) : errW (some c) = .iface 0 (.int .i64 c) := rfl
theorem info3 : (Try.prog.info? 3).map (fun i => (i.zero, i.size, i.bytes)) = some (some (.int .i64 0), 1, 8) := by kernel_rfl
theorem info28 : (Try.prog.info? 28).map (fun i => (i.zero, i.size, i.bytes)) = some (some (.slice none 0 0), 1, 24) := by kernel_rfl
theorem info59 : (Try.prog.info? 59).map (fun i => (i.zero, i.size, i.bytes)) = some (some (.slice none 0 0), 1, 24) := by kernel_rfl
theorem info66 : (Try.prog.info? 66).map (fun i => (i.zero, i.size, i.bytes)) = some (some (.agg #[(.int .i64 0), (.int .i64 0)]), 2, 16) := by kernel_rfl
theorem info80 : (Try.prog.info? 80).map (fun i => (i.zero, i.size, i.bytes)) = some (some (.agg #[(.int .i64 0), (.int .i64 0), (.int .i64 0)]), 3, 24) := by kernel_rfl
structure S66 where
 f0 : Int
 f1 : Int
def z66 : S66 := ⟨(0 : Int), (0 : Int)⟩
def k66 : Kd S66 := Kd.iso (Kd.pair (Kd.int .i64) (Kd.int .i64)) (fun x : S66 => (x.f0, x.f1))
theorem k66_open {w : World} {x : S66} {cs : List Value} (h : k66.K w x cs) : cs = [.int .i64 x.f0, .int .i64 x.f1] := by
 obtain ⟨_, _, rfl, rfl, rfl⟩ := h
 exact rfl
theorem k66_openM {w : World} {base : Nat} {ok : Nat → Prop} {x : S66} {cs : List Value} (h : k66.M w base ok x cs) : cs = [.int .i64 x.f0, .int .i64 x.f1] := by
 obtain ⟨_, _, rfl, rfl, rfl⟩ := h
 exact rfl
theorem k66_mkM (w : World) (base : Nat) (ok : Nat → Prop) (x : S66)  : k66.M w base ok x [.int .i64 x.f0, .int .i64 x.f1] := ⟨[.int .i64 x.f0], [.int .i64 x.f1], rfl, rfl, rfl⟩
def rd_T66 (xs : List S66) (i : Int) : S66 := xs.getD i.toNat z66
theorem at_T66 {w : World} {A : Option Addr} {n : Nat} {xs : List S66} (h : Kd.C k66 w A n xs) (i : Int) (h0 : 0 ≤ i) (h1 : i < n) : ∃ ad , A = some ad ∧ w.cell? (ad.add (i.toNat * 2)) = some (.int .i64 (rd_T66 xs i).f0) ∧ w.cell? ⟨(ad.add (i.toNat * 2)).block, (ad.add (i.toNat * 2)).off + 1, none⟩ = some (.int .i64 (rd_T66 xs i).f1) := by
 obtain ⟨ad, c, e, _, hK, hc0⟩ := Kd.C_get h z66 i h0 h1
 have hc : ∀ j u, c[j]? = some u → w.cell? (ad.add (i.toNat * 2 + j)) = some u := hc0
 obtain rfl := k66_open hK
 exact ⟨ad, e, hc 0 _ rfl, by rw [← add_field _ _ 1 (by omega)]; exact hc 1 _ rfl⟩
def rd_L66 (xs : List (List S66)) (i : Int) : (List S66) := xs.getD i.toNat ([] : List S66)
theorem at_L66 {w : World} {A : Option Addr} {n : Nat} {xs : List (List S66)} (h : Kd.C (Kd.slice 66 k66) w A n xs) (i : Int) (h0 : 0 ≤ i) (h1 : i < n) : ∃ ad A0 c0, A = some ad ∧ w.cell? (ad.add i.toNat) = some (.slice A0 (rd_L66 xs i).length c0) ∧ (rd_L66 xs i).length ≤ c0 ∧ k66.C w A0 (rd_L66 xs i).length (rd_L66 xs i) := by
 obtain ⟨ad, c, e, _, hK, hc0⟩ := Kd.C_get h ([] : List S66) i h0 h1
 have hc : ∀ j u, c[j]? = some u → w.cell? (ad.add (i.toNat * 1 + j)) = some u := hc0
 obtain ⟨A0, c0, rfl, l0, g0⟩ := hK
 exact ⟨ad, A0, c0, e, by have hq := hc 0 _ rfl; rwa [Nat.mul_one, Nat.add_zero] at hq, l0, g0⟩
def rd_L3 (xs : List (List Int)) (i : Int) : (List Int) := xs.getD i.toNat ([] : List Int)
theorem at_L3 {w : World} {A : Option Addr} {n : Nat} {xs : List (List Int)} (h : Kd.C (Kd.slice 3 (Kd.int .i64)) w A n xs) (i : Int) (h0 : 0 ≤ i) (h1 : i < n) : ∃ ad A0 c0, A = some ad ∧ w.cell? (ad.add i.toNat) = some (.slice A0 (rd_L3 xs i).length c0) ∧ (rd_L3 xs i).length ≤ c0 ∧ (Kd.int .i64).C w A0 (rd_L3 xs i).length (rd_L3 xs i) := by
 obtain ⟨ad, c, e, _, hK, hc0⟩ := Kd.C_get h ([] : List Int) i h0 h1
 have hc : ∀ j u, c[j]? = some u → w.cell? (ad.add (i.toNat * 1 + j)) = some u := hc0
 obtain ⟨A0, c0, rfl, l0, g0⟩ := hK
 exact ⟨ad, A0, c0, e, by have hq := hc 0 _ rfl; rwa [Nat.mul_one, Nat.add_zero] at hq, l0, g0⟩
structure S80 where
 f0 : Int
 f1 : Int
 f2 : Int
def z80 : S80 := ⟨(0 : Int), (0 : Int), (0 : Int)⟩
def k80 : Kd S80 := Kd.iso (Kd.pair (Kd.int .i64) (Kd.pair (Kd.int .i64) (Kd.int .i64))) (fun x : S80 => (x.f0, x.f1, x.f2))
theorem k80_open {w : World} {x : S80} {cs : List Value} (h : k80.K w x cs) : cs = [.int .i64 x.f0, .int .i64 x.f1, .int .i64 x.f2] := by
 obtain ⟨_, _, rfl, rfl, ⟨_, _, rfl, rfl, rfl⟩⟩ := h
 exact rfl
theorem k80_mkM (w : World) (base : Nat) (ok : Nat → Prop) (x : S80)  : k80.M w base ok x [.int .i64 x.f0, .int .i64 x.f1, .int .i64 x.f2] := ⟨[.int .i64 x.f0], [.int .i64 x.f1, .int .i64 x.f2], rfl, rfl, ⟨[.int .i64 x.f1], [.int .i64 x.f2], rfl, rfl, rfl⟩⟩
def rd_T80 (xs : List S80) (i : Int) : S80 := xs.getD i.toNat z80
theorem at_T80 {w : World} {A : Option Addr} {n : Nat} {xs : List S80} (h : Kd.C k80 w A n xs) (i : Int) (h0 : 0 ≤ i) (h1 : i < n) : ∃ ad , A = some ad ∧ w.cell? (ad.add (i.toNat * 3)) = some (.int .i64 (rd_T80 xs i).f0) ∧ w.cell? ⟨(ad.add (i.toNat * 3)).block, (ad.add (i.toNat * 3)).off + 1, none⟩ = some (.int .i64 (rd_T80 xs i).f1) ∧ w.cell? ⟨(ad.add (i.toNat * 3)).block, (ad.add (i.toNat * 3)).off + 2, none⟩ = some (.int .i64 (rd_T80 xs i).f2) := by
 obtain ⟨ad, c, e, _, hK, hc0⟩ := Kd.C_get h z80 i h0 h1
 have hc : ∀ j u, c[j]? = some u → w.cell? (ad.add (i.toNat * 3 + j)) = some u := hc0
 obtain rfl := k80_open hK
 exact ⟨ad, e, hc 0 _ rfl, by rw [← add_field _ _ 1 (by omega)]; exact hc 1 _ rfl, by rw [← add_field _ _ 2 (by omega)]; exact hc 2 _ rfl⟩
def rd_L80 (xs : List (List S80)) (i : Int) : (List S80) := xs.getD i.toNat ([] : List S80)
structure S25 where
 f0 : (List (List Int))
 f1 : (List S80)
 f2 : Bool
def k25 : Kd S25 := Kd.iso (Kd.pair (Kd.slice 28 (Kd.slice 3 (Kd.int .i64))) (Kd.pair (Kd.slice 80 k80) Kd.bool)) (fun x : S25 => (x.f0, x.f1, x.f2))
theorem k25_open {w : World} {x : S25} {cs : List Value} (h : k25.K w x cs) : ∃ A0 c0 A1 c1, cs = [.slice A0 x.f0.length c0, .slice A1 x.f1.length c1, .bool x.f2] ∧ x.f0.length ≤ c0 ∧ (Kd.slice 3 (Kd.int .i64)).C w A0 x.f0.length x.f0 ∧ x.f1.length ≤ c1 ∧ k80.C w A1 x.f1.length x.f1 := by
 obtain ⟨_, _, rfl, ⟨A0, c0, rfl, l0, g0⟩, ⟨_, _, rfl, ⟨A1, c1, rfl, l1, g1⟩, rfl⟩⟩ := h
 exact ⟨A0, c0, A1, c1, rfl, l0, g0, l1, g1⟩
structure S71 where
 f0 : ByteArray
 f1 : Int
 f2 : Int
structure S93 where
 f0 : Int
 f1 : Int
structure S74 where
 f0 : ByteArray
 f1 : (List S93)
 f2 : (List S93)
 f3 : (List S93)
 f4 : Int
structure S39 where
 f0 : ByteArray
 f1 : (List S71)
 f2 : (List S74)
structure S46 where
 f0 : Int
 f1 : Int
end Go.Proofs.Ytfnjbgggmddgpaa.Q
end
section
namespace Go.Proofs.Ytfnjbgggmddgpaa.Q
open Go.RowKit Go.Proofs.Fn Go.Proofs.YtfnjbgggmddgpaaW.PrintWords
def W64 (a : Int) : Prop := (Lit.int .i64 a).wf = true
def G80 (x : S80) : Prop := W64 x.f0 ∧ W64 x.f1 ∧ W64 x.f2
theorem opens80 : Opens Try.prog 80 k80 G80 :=
  opens_struct (fun x : S80 => (x.f0, x.f1, x.f2)) (fun p => ⟨p.1, p.2.1, p.2.2⟩) (fun x => rfl) Try.underlying80 rfl (by kernel_rfl)
    (fopens_cons (by kernel_rfl) (opens_int Try.underlying3) (fopens_cons (by kernel_rfl) (opens_int Try.underlying3) (fopens_one (by kernel_rfl) (opens_int Try.underlying3))))
def GL {α : Type} (G : α → Prop) (xs : List α) : Prop := xs.length ≤ 9223372036854775807 ∧ ∀ x ∈ xs, G x
def G25 (x : S25) : Prop := GL (GL W64) x.f0 ∧ GL G80 x.f1 ∧ True
theorem opens25 : Opens Try.prog 25 k25 G25 :=
  opens_struct (fun x : S25 => (x.f0, x.f1, x.f2)) (fun p => ⟨p.1, p.2.1, p.2.2⟩) (fun x => rfl) Try.underlying25 rfl (by kernel_rfl)
    (fopens_cons (by kernel_rfl) (opens_slice Try.underlying22 (by kernel_rfl) (opens_slice Try.underlying28 (by kernel_rfl) (opens_int Try.underlying3))) (fopens_cons (by kernel_rfl) (opens_slice Try.underlying23 (by kernel_rfl) opens80) (fopens_one (by kernel_rfl) (opens_bool Try.underlying4))))
end Go.Proofs.Ytfnjbgggmddgpaa.Q
end
section
set_option linter.unusedVariables false
set_option linter.unusedSimpArgs false
namespace Go.Proofs.Gr
open Go.RowKit
def Evn {α : Type} (F : Nat → Option α) (r : α) : Prop := ∃ K, ∀ k, K ≤ k → F k = some r
theorem Evn.const {α : Type} (r : α) : Evn (fun _ => some r) r := ⟨0, fun _ _ => rfl⟩
theorem Evn.succ {α : Type} {F : Nat → Option α} {r : α} (h : Evn (fun k => F (k + 1)) r) : Evn F r := by
  obtain ⟨K, h⟩ := h
  refine ⟨K + 1, fun k hk => ?_⟩
  obtain ⟨k, rfl⟩ : ∃ j, k = j + 1 := ⟨k - 1, by omega⟩
  exact h k (by omega)
theorem Evn.bind {α β : Type} {A : Nat → Option β} {B : Nat → β → Option α} {a : β} {r : α} (hA : Evn A a) (hB : Evn (fun k => B k a) r) : Evn (fun k => (A k).bind (B k)) r := by
  obtain ⟨K, hA⟩ := hA
  obtain ⟨L, hB⟩ := hB
  refine ⟨K + L, fun k hk => ?_⟩
  show (A k).bind (B k) = some r
  rw [hA k (by omega)]
  exact hB k (by omega)
theorem Evn.pos {α : Type} {c : Prop} [Decidable c] {A B : Nat → Option α} {r : α} (h : c) (hA : Evn A r) : Evn (fun k => if c then A k else B k) r := by
  simpa only [if_pos h] using hA
theorem Evn.neg {α : Type} {c : Prop} [Decidable c] {A B : Nat → Option α} {r : α} (h : ¬ c) (hB : Evn B r) : Evn (fun k => if c then A k else B k) r := by
  simpa only [if_neg h] using hB
theorem Evn.get {α : Type} {F : Nat → Option α} {r : α} (h : Evn F r) : ∃ k, F k = some r := by
  obtain ⟨K, h⟩ := h
  exact ⟨K, h K (Nat.le_refl _)⟩
theorem wrap_succ {j : Nat} (h : j < 9223372036854775807) : wrap64 ((j : Int) + 1) = ((j + 1 : Nat) : Int) := by unfold wrap64; omega
structure Lab (n : Nat) (E : Nat → Nat → Prop) (goal : Nat → Prop) (d : Nat → Int) : Prop where
  lo : ∀ i, i < n → -1 ≤ d i
  zero : ∀ i, i < n → (d i = 0 ↔ goal i)
  step : ∀ i, i < n → 0 < d i → ∃ j, j < n ∧ E i j ∧ d j = d i - 1
  edge : ∀ i j, i < n → j < n → E i j → 0 ≤ d j → 0 ≤ d i ∧ d i ≤ d j + 1
inductive Walk (n : Nat) (E : Nat → Nat → Prop) : Nat → Nat → Nat → Prop
  | nil (i : Nat) : i < n → Walk n E 0 i i
  | cons (k i j l : Nat) : i < n → E i j → Walk n E k j l → Walk n E (k + 1) i l
theorem Walk.lt {n : Nat} {E : Nat → Nat → Prop} {k i j : Nat} (h : Walk n E k i j) : i < n ∧ j < n := by
  induction h with
  | nil i h => exact ⟨h, h⟩
  | cons k i j l h1 h2 h3 ih => exact ⟨h1, ih.2⟩
theorem Walk.snoc {n : Nat} {E : Nat → Nat → Prop} {k i j l : Nat} (h : Walk n E k i j) (hl : l < n) (he : E j l) : Walk n E (k + 1) i l := by
  induction h with
  | nil i h => exact .cons _ _ _ _ h he (.nil _ hl)
  | cons k i j m h1 h2 h3 ih => exact .cons _ _ _ _ h1 h2 (ih he)
theorem Walk.rev {n : Nat} {E : Nat → Nat → Prop} {k i j : Nat} (h : Walk n E k i j) : Walk n (fun a b => E b a) k j i := by
  induction h with
  | nil i h => exact .nil _ h
  | cons k i j m h1 h2 h3 ih => exact ih.snoc h1 h2
theorem Lab.walk {n : Nat} {E : Nat → Nat → Prop} {goal : Nat → Prop} {d : Nat → Int} (h : Lab n E goal d) : ∀ (k i : Nat), i < n → d i = k → ∃ g, goal g ∧ Walk n E k i g := by
  intro k
  induction k with
  | zero => intro i hi hd; exact ⟨i, (h.zero i hi).1 hd, .nil _ hi⟩
  | succ k ih =>
    intro i hi hd
    obtain ⟨j, hj, he, hdj⟩ := h.step i hi (by omega)
    obtain ⟨g, hg, hw⟩ := ih j hj (by omega)
    exact ⟨g, hg, .cons _ _ _ _ hi he hw⟩
theorem Lab.le {n : Nat} {E : Nat → Nat → Prop} {goal : Nat → Prop} {d : Nat → Int} (h : Lab n E goal d) {k i g : Nat} (hw : Walk n E k i g) (hg : goal g) : 0 ≤ d i ∧ d i ≤ k := by
  induction hw with
  | nil i hi => have := (h.zero i hi).2 hg; omega
  | cons k i j l h1 h2 h3 ih =>
    have a := ih hg
    have b := h.edge i j h1 h3.lt.1 h2 a.1
    omega
theorem Lab.unique {n : Nat} {E : Nat → Nat → Prop} {goal : Nat → Prop} {d d' : Nat → Int} (h : Lab n E goal d) (h' : Lab n E goal d') : ∀ i, i < n → d i = d' i := by
  intro i hi
  have a := h.lo i hi
  have b := h'.lo i hi
  have key : ∀ {d d' : Nat → Int}, Lab n E goal d → Lab n E goal d' → 0 ≤ d i → 0 ≤ d' i ∧ d' i ≤ d i := by
    intro d d' h h' h0
    obtain ⟨g, hg, hw⟩ := h.walk (d i).toNat i hi (by omega)
    have := h'.le hw hg
    omega
  have c := key h h'
  have e := key h' h
  omega
theorem Lab.rev {n : Nat} {E : Nat → Nat → Prop} {i j : Nat} {d d' : Nat → Int} (hi : i < n) (hj : j < n) (h : Lab n E (fun x => x = j) d) (h' : Lab n (fun a b => E b a) (fun x => x = i) d') : d i = d' j := by
  have a := h.lo i hi
  have b := h'.lo j hj
  have c : 0 ≤ d i → 0 ≤ d' j ∧ d' j ≤ d i := by
    intro h0
    obtain ⟨g, hg, hw⟩ := h.walk (d i).toNat i hi (by omega)
    obtain rfl : g = j := hg
    have := h'.le hw.rev rfl
    omega
  have e : 0 ≤ d' j → 0 ≤ d i ∧ d i ≤ d' j := by
    intro h0
    obtain ⟨g, hg, hw⟩ := h'.walk (d' j).toNat j hj (by omega)
    obtain rfl : g = i := hg
    have := h.le hw.rev rfl
    omega
  omega
def neg : Nat → (Nat → Int) → Nat
  | 0, _ => 0
  | n + 1, out => neg n out + if out n < 0 then 1 else 0
def upd (out : Nat → Int) (r : Nat) (v : Int) : Nat → Int := fun x => if x = r then v else out x
theorem neg_congr {n : Nat} {a b : Nat → Int} (h : ∀ i, i < n → a i = b i) : neg n a = neg n b := by
  induction n with
  | zero => rfl
  | succ n ih => simp only [neg, ih (fun i hi => h i (by omega)), h n (by omega)]
theorem neg_upd {n : Nat} {out : Nat → Int} {r : Nat} {v : Int} (hr : r < n) (h : out r < 0) (hv : 0 ≤ v) : neg n (upd out r v) + 1 = neg n out := by
  induction n with
  | zero => omega
  | succ n ih =>
    simp only [neg]
    by_cases e : r = n
    · subst e
      rw [neg_congr (a := upd out r v) (b := out) (fun i hi => by simp [upd]; omega)]
      simp [upd, h]; omega
    · have := ih (by omega)
      have e2 : upd out r v n = out n := by simp [upd]; omega
      rw [e2]; omega
structure Bfs (n : Nat) (E : Nat → Nat → Prop) (goal : Nat → Prop) (out : Nat → Int) (q : List Nat) (s : Nat) (rem : List Nat) (v : Int) : Prop where
  lo : ∀ i, i < n → -1 ≤ out i
  zero : ∀ i, i < n → (out i = 0 ↔ goal i)
  step : ∀ i, i < n → 0 < out i → ∃ j, j < n ∧ E i j ∧ out j = out i - 1
  edge : ∀ i j, i < n → j < n → E i j → 0 ≤ out j → j ∉ q → ¬ (j = s ∧ i ∈ rem) → 0 ≤ out i ∧ out i ≤ out j + 1
  qlt : ∀ x ∈ q, x < n ∧ 0 ≤ out x ∧ v ≤ out x
  top : ∀ i, i < n → out i ≤ v + 1
  sorted : q.Pairwise (fun a b => out a ≤ out b)
theorem Bfs.pop {n : Nat} {E : Nat → Nat → Prop} {goal : Nat → Prop} {out : Nat → Int} {s s0 : Nat} {q : List Nat} {v : Int} (h : Bfs n E goal out (s :: q) s0 [] v) (rem : List Nat) (hrem : ∀ i, i < n → E i s → i ∈ rem) : Bfs n E goal out q s rem (out s) := by
  have hs := h.qlt s List.mem_cons_self
  refine ⟨h.lo, h.zero, h.step, ?_, ?_, ?_, (List.pairwise_cons.1 h.sorted).2⟩
  · intro i j hi hj he h0 hq hr
    by_cases e : j = s
    · subst e; exact absurd ⟨rfl, hrem i hi he⟩ hr
    · exact h.edge i j hi hj he h0 (by simp [e, hq]) (by simp)
  · intro x hx
    have := h.qlt x (List.mem_cons_of_mem _ hx)
    exact ⟨this.1, this.2.1, (List.pairwise_cons.1 h.sorted).1 x hx⟩
  · intro i hi
    have := h.top i hi
    omega
theorem Bfs.old {n : Nat} {E : Nat → Nat → Prop} {goal : Nat → Prop} {out : Nat → Int} {s r : Nat} {q rem : List Nat} (h : Bfs n E goal out q s (r :: rem) (out s)) (hr : r < n) (h0 : 0 ≤ out r) : Bfs n E goal out q s rem (out s) := by
  refine ⟨h.lo, h.zero, h.step, ?_, h.qlt, h.top, h.sorted⟩
  intro i j hi hj he h1 hq hn
  by_cases e : j = s ∧ i = r
  · obtain ⟨rfl, rfl⟩ := e
    exact ⟨h0, h.top i hi⟩
  · refine h.edge i j hi hj he h1 hq (fun c => ?_)
    rcases List.mem_cons.1 c.2 with c2 | c2
    · exact e ⟨c.1, c2⟩
    · exact hn ⟨c.1, c2⟩
theorem Bfs.new {n : Nat} {E : Nat → Nat → Prop} {goal : Nat → Prop} {out : Nat → Int} {s r : Nat} {q rem : List Nat} (h : Bfs n E goal out q s (r :: rem) (out s)) (hs : s < n) (hs0 : 0 ≤ out s) (he : E r s) (hr : r < n) (h0 : out r < 0) : Bfs n E goal (upd out r (out s + 1)) (q ++ [r]) s rem (upd out r (out s + 1) s) := by
  have ers : s ≠ r := fun c => by subst c; omega
  have us : upd out r (out s + 1) s = out s := by simp [upd, ers]
  have uo : ∀ x, x ≠ r → upd out r (out s + 1) x = out x := fun x hx => by simp [upd, hx]
  have ur : upd out r (out s + 1) r = out s + 1 := by simp [upd]
  rw [us]
  have hlo := h.lo r hr
  refine ⟨?_, ?_, ?_, ?_, ?_, ?_, ?_⟩
  · intro i hi
    by_cases e : i = r
    · subst e; rw [ur]; omega
    · rw [uo i e]; exact h.lo i hi
  · intro i hi
    by_cases e : i = r
    · subst e; rw [ur]
      have := h.zero i hi
      constructor
      · intro c; omega
      · intro c; have := this.2 c; omega
    · rw [uo i e]; exact h.zero i hi
  · intro i hi hp
    by_cases e : i = r
    · subst e; rw [ur]
      exact ⟨s, hs, he, by rw [us]; omega⟩
    · rw [uo i e] at hp ⊢
      obtain ⟨j, hj, hE, hd⟩ := h.step i hi hp
      have ej : j ≠ r := fun c => by subst c; omega
      exact ⟨j, hj, hE, by rw [uo j ej]; exact hd⟩
  · intro i j hi hj hE h1 hq hn
    have ej : j ≠ r := fun c => hq (by simp [c])
    rw [uo j ej] at h1 ⊢
    have hq2 : j ∉ q := fun c => hq (by simp [c])
    by_cases e : i = r
    · subst e
      by_cases e2 : j = s
      · subst e2; rw [ur]; omega
      · have := h.edge i j hi hj hE h1 hq2 (fun c => e2 c.1)
        omega
    · rw [uo i e]
      refine h.edge i j hi hj hE h1 hq2 (fun c => ?_)
      rcases List.mem_cons.1 c.2 with c2 | c2
      · exact e c2
      · exact hn ⟨c.1, c2⟩
  · intro x hx
    rcases List.mem_append.1 hx with hx | hx
    · have := h.qlt x hx
      have ex : x ≠ r := fun c => by subst c; omega
      rw [uo x ex]; exact this
    · obtain rfl := List.mem_singleton.1 hx
      rw [ur]; omega
  · intro i hi
    by_cases e : i = r
    · subst e; rw [ur]; omega
    · rw [uo i e]; exact h.top i hi
  · rw [List.pairwise_append]
    refine ⟨h.sorted.imp_of_mem ?_, by simp, ?_⟩
    · intro a b ha hb hab
      have h1 := h.qlt a ha
      have h2 := h.qlt b hb
      rw [uo a (fun c => by subst c; omega), uo b (fun c => by subst c; omega)]
      exact hab
    · intro a ha b hb
      obtain rfl := List.mem_singleton.1 hb
      have h1 := h.qlt a ha
      rw [uo a (fun c => by subst c; omega), ur]
      exact h.top a h1.1
theorem Bfs.lab {n : Nat} {E : Nat → Nat → Prop} {goal : Nat → Prop} {out : Nat → Int} {s : Nat} {v : Int} (h : Bfs n E goal out [] s [] v) : Lab n E goal out :=
  ⟨h.lo, h.zero, h.step, fun i j hi hj he h0 => h.edge i j hi hj he h0 (by simp) (by simp)⟩
theorem Bfs.congr {n : Nat} {E : Nat → Nat → Prop} {goal : Nat → Prop} {out out' : Nat → Int} {s : Nat} {q rem : List Nat} {v : Int} (h : Bfs n E goal out q s rem v) (e : ∀ i, i < n → out i = out' i) : Bfs n E goal out' q s rem v := by
  refine ⟨fun i hi => by rw [← e i hi]; exact h.lo i hi, fun i hi => by rw [← e i hi]; exact h.zero i hi, ?_, ?_, ?_, fun i hi => by rw [← e i hi]; exact h.top i hi, ?_⟩
  · intro i hi hp
    rw [← e i hi] at hp ⊢
    obtain ⟨j, hj, a, b⟩ := h.step i hi hp
    exact ⟨j, hj, a, by rw [← e j hj]; exact b⟩
  · intro i j hi hj
    rw [← e i hi, ← e j hj]
    exact h.edge i j hi hj
  · intro x hx
    have := h.qlt x hx
    rw [← e x this.1]; exact this
  · refine h.sorted.imp_of_mem ?_
    intro a b ha hb hab
    rw [← e a (h.qlt a ha).1, ← e b (h.qlt b hb).1]; exact hab
theorem Lab.congr {n : Nat} {E : Nat → Nat → Prop} {goal : Nat → Prop} {out out' : Nat → Int} (h : Lab n E goal out) (e : ∀ i, i < n → out i = out' i) : Lab n E goal out' := by
  refine ⟨fun i hi => by rw [← e i hi]; exact h.lo i hi, fun i hi => by rw [← e i hi]; exact h.zero i hi, ?_, ?_⟩
  · intro i hi hp
    rw [← e i hi] at hp ⊢
    obtain ⟨j, hj, a, b⟩ := h.step i hi hp
    exact ⟨j, hj, a, by rw [← e j hj]; exact b⟩
  · intro i j hi hj
    rw [← e i hi, ← e j hj]
    exact h.edge i j hi hj
theorem pigeon : ∀ (m : Nat) (l : List Int), (∀ v : Nat, v < m → (v : Int) ∈ l) → m ≤ l.length := by
  intro m
  induction m with
  | zero => intro l _; omega
  | succ m ih =>
    intro l h
    have h1 := ih (l.filter (fun x => x != (m : Int))) (fun v hv => by
      rw [List.mem_filter]
      exact ⟨h v (by omega), by simp; omega⟩)
    have h2 : (l.filter (fun x => x != (m : Int))).length < l.length := by
      rcases Nat.lt_or_ge (l.filter (fun x => x != (m : Int))).length l.length with c | c
      · exact c
      · have := List.length_filter_le (fun x => x != (m : Int)) l
        have e : (l.filter (fun x => x != (m : Int))).length = l.length := by omega
        rw [List.length_filter_eq_length_iff] at e
        have := e _ (h m (by omega))
        simp at this
    omega
def Dp {α : Type} (F : Nat → Option α) (φ : α → Prop) : Prop := ∃ r, Evn F r ∧ φ r
theorem Dp.const {α : Type} {r : α} {φ : α → Prop} (h : φ r) : Dp (fun _ => some r) φ := ⟨r, Evn.const r, h⟩
theorem Dp.succ {α : Type} {F : Nat → Option α} {φ : α → Prop} (h : Dp (fun k => F (k + 1)) φ) : Dp F φ := by
  obtain ⟨r, h, p⟩ := h
  exact ⟨r, h.succ, p⟩
theorem Dp.bind {α β : Type} {A : Nat → Option β} {B : Nat → β → Option α} {ψ : β → Prop} {φ : α → Prop} (hA : Dp A ψ) (hB : ∀ a, Evn A a → ψ a → Dp (fun k => B k a) φ) : Dp (fun k => (A k).bind (B k)) φ := by
  obtain ⟨a, h, p⟩ := hA
  obtain ⟨r, h2, p2⟩ := hB a h p
  exact ⟨r, h.bind h2, p2⟩
theorem Dp.ite {α : Type} {c : Prop} [Decidable c] {A B : Nat → Option α} {φ : α → Prop} (hA : c → Dp A φ) (hB : ¬ c → Dp B φ) : Dp (fun k => if c then A k else B k) φ := by
  by_cases h : c
  · obtain ⟨r, h2, p⟩ := hA h; exact ⟨r, Evn.pos h h2, p⟩
  · obtain ⟨r, h2, p⟩ := hB h; exact ⟨r, Evn.neg h h2, p⟩
theorem Dp.pos {α : Type} {c : Prop} [Decidable c] {A B : Nat → Option α} {φ : α → Prop} (h : c) (hA : Dp A φ) : Dp (fun k => if c then A k else B k) φ := Dp.ite (fun _ => hA) (fun n => absurd h n)
theorem Dp.neg {α : Type} {c : Prop} [Decidable c] {A B : Nat → Option α} {φ : α → Prop} (h : ¬ c) (hB : Dp B φ) : Dp (fun k => if c then A k else B k) φ := Dp.ite (fun n => absurd n h) (fun _ => hB)
theorem Dp.imp {α : Type} {F : Nat → Option α} {φ ψ : α → Prop} (h : Dp F φ) (i : ∀ r, φ r → ψ r) : Dp F ψ := by
  obtain ⟨r, h, p⟩ := h
  exact ⟨r, h, i r p⟩
theorem Evn.dp {α : Type} {F : Nat → Option α} {r : α} (h : Evn F r) : Dp F (fun x => x = r) := ⟨r, h, rfl⟩
theorem Evn.unique {α : Type} {F : Nat → Option α} {a b : α} (h : Evn F a) (g : Evn F b) : a = b := by
  obtain ⟨K, h⟩ := h
  obtain ⟨L, g⟩ := g
  exact Option.some.inj ((h (K + L) (by omega)).symm.trans (g (K + L) (by omega)))
end Go.Proofs.Gr
end
section
namespace Go.Proofs.Ytfnjbgggmddgpaa.Q
open Go.RowKit Go.Proofs.Fn Go.Proofs.YtfnjbgggmddgpaaW.PrintWords Go.Proofs.YtfnjbgggmddgpaaW.PrintLast Go.Proofs.YtfnjbgggmddgpaaW.PrintMore
attribute [local go_sem] max2_int min2_int max_two min_two max_three min_three max_four min_four
set_option linter.unusedVariables false
set_option linter.unusedSimpArgs false
def explore_exists.f (l0_0 : List (List Int)) (l0_1 : List (S80)) (a0_2 : Bool) (a1_0 : Int) (a1_1 : Int) (a1_2 : Int) : Option (Bool) := if a1_0 ≥ 0 then (if a1_0 < (l0_0.length : Int) then (if a1_2 ≥ 0 then (some (decide (a1_2 < (l0_0.length : Int)))) else (some false)) else (some false)) else (some false)
set_option maxHeartbeats 8000000 in
set_option maxRecDepth 100000 in
theorem explore_exists.calls (A0_0 : Option Addr) (c0_0 : Nat) (l0_0 : List (List Int)) (A0_1 : Option Addr) (c0_1 : Nat) (l0_1 : List (S80)) (a0_2 : Bool) (a1_0 : Int) (a1_1 : Int) (a1_2 : Int) (r : Bool) (w : World) (hr0_0 : Kd.C (Kd.slice 3 (Kd.int .i64)) w A0_0 l0_0.length l0_0) (hc0_0 : l0_0.length ≤ c0_0) (hr0_1 : Kd.C k80 w A0_1 l0_1.length l0_1) (hc0_1 : l0_1.length ≤ c0_1) (h : explore_exists.f l0_0 l0_1 a0_2 a1_0 a1_1 a1_2 = some r) :
  Calls Try.prog 66 #[.agg #[.slice A0_0 l0_0.length c0_0, .slice A0_1 l0_1.length c0_1, .bool a0_2], .agg #[.int .i64 a1_0, .int .i64 a1_1, .int .i64 a1_2]] w fun e w' => e = .returned (.bool r) ∧ Below w.heap.size w w' := by
 have hu25 := Try.underlying25
 have hu80 := Try.underlying80
 have HR0_0 := Aside0.mk hr0_0
 have HC0_0 := Aside0.mk hc0_0
 clear hr0_0 hc0_0
 have HR0_1 := Aside0.mk hr0_1
 have HC0_1 := Aside0.mk hc0_1
 clear hr0_1 hc0_1
 have HB := Aside0.mk (Below.refl w.heap.size w)
 have H : (if a1_0 ≥ 0 then (if a1_0 < (l0_0.length : Int) then (if a1_2 ≥ 0 then (some (decide (a1_2 < (l0_0.length : Int)))) else (some false)) else (some false)) else (some false)) = some r := h
 clear h
 by_cases c3 : a1_0 ≥ 0
 ·rw [if_pos c3] at H
  have c3b0 := tdGe c3
  clear c3
  by_cases c4 : a1_0 < (l0_0.length : Int)
  ·rw [if_pos c4] at H
   have c4b0 := decide_eq_true c4
   clear c4
   by_cases c5 : a1_2 ≥ 0
   ·rw [if_pos c5] at H
    have c5b0 := tdGe c5
    clear c5
    obtain rfl := Option.some.inj H
    go_enter Try.func66, Try.ntmps66
    go_wp2_with (first | ((with_reducible refine gate_dst (N := 2) rfl ?_); refine tBx 2 25 #[.slice A0_0 l0_0.length c0_0, .slice A0_1 l0_1.length c0_1, .bool a0_2] ?_; intro gb101 hg w6 hbox hb; have BK101 := Aside0.mk (hbox); have GW101 := tW HB hg; have GE101 := tW HB hg; replace HB := tA HB hb; clear hb hbox hg) | ((with_reducible refine gate_dst (N := 3) rfl ?_); refine tBx 3 80 #[.int .i64 a1_0, .int .i64 a1_1, .int .i64 a1_2] ?_; intro gb102 hg w7 hbox hb; have BK102 := Aside0.mk (hbox); have GW102 := tW HB hg; have GE102 := tW HB hg; replace HB := tA HB hb; have NB101_102 := tNl BK101 hg; have NB102_101 := tNg BK101 hg; replace BK101 := tL BK101 hb; clear hb hbox hg; have hnb8 := NB101_102.out; have hnc8 := NB102_101.out; obtain ⟨hcz9_0, hcz9_1, hcz9_2, hfz9_0, hfz9_1, hfz9_2⟩ := zc3 BK101; obtain ⟨hcz10_0, hcz10_1, hcz10_2, hfz10_0, hfz10_1, hfz10_2⟩ := zc3 BK102))
    go_ret
    exact ⟨tE, tB⟩
   rw [if_neg c5] at H
   have c5b0 := tdHe c5
   clear c5
   obtain rfl := Option.some.inj H
   go_enter Try.func66, Try.ntmps66
   go_wp2_with (first | ((with_reducible refine gate_dst (N := 2) rfl ?_); refine tBx 2 25 #[.slice A0_0 l0_0.length c0_0, .slice A0_1 l0_1.length c0_1, .bool a0_2] ?_; intro gb101 hg w11 hbox hb; have BK101 := Aside0.mk (hbox); have GW101 := tW HB hg; have GE101 := tW HB hg; replace HB := tA HB hb; clear hb hbox hg) | ((with_reducible refine gate_dst (N := 3) rfl ?_); refine tBx 3 80 #[.int .i64 a1_0, .int .i64 a1_1, .int .i64 a1_2] ?_; intro gb102 hg w12 hbox hb; have BK102 := Aside0.mk (hbox); have GW102 := tW HB hg; have GE102 := tW HB hg; replace HB := tA HB hb; have NB101_102 := tNl BK101 hg; have NB102_101 := tNg BK101 hg; replace BK101 := tL BK101 hb; clear hb hbox hg; have hnb13 := NB101_102.out; have hnc13 := NB102_101.out; obtain ⟨hcz14_0, hcz14_1, hcz14_2, hfz14_0, hfz14_1, hfz14_2⟩ := zc3 BK101; obtain ⟨hcz15_0, hcz15_1, hcz15_2, hfz15_0, hfz15_1, hfz15_2⟩ := zc3 BK102))
   go_ret
   exact ⟨tE, tB⟩
  rw [if_neg c4] at H
  have c4b0 := decide_eq_false c4
  clear c4
  obtain rfl := Option.some.inj H
  go_enter Try.func66, Try.ntmps66
  go_wp2_with (first | ((with_reducible refine gate_dst (N := 2) rfl ?_); refine tBx 2 25 #[.slice A0_0 l0_0.length c0_0, .slice A0_1 l0_1.length c0_1, .bool a0_2] ?_; intro gb101 hg w16 hbox hb; have BK101 := Aside0.mk (hbox); have GW101 := tW HB hg; have GE101 := tW HB hg; replace HB := tA HB hb; clear hb hbox hg) | ((with_reducible refine gate_dst (N := 3) rfl ?_); refine tBx 3 80 #[.int .i64 a1_0, .int .i64 a1_1, .int .i64 a1_2] ?_; intro gb102 hg w17 hbox hb; have BK102 := Aside0.mk (hbox); have GW102 := tW HB hg; have GE102 := tW HB hg; replace HB := tA HB hb; have NB101_102 := tNl BK101 hg; have NB102_101 := tNg BK101 hg; replace BK101 := tL BK101 hb; clear hb hbox hg; have hnb18 := NB101_102.out; have hnc18 := NB102_101.out; obtain ⟨hcz19_0, hcz19_1, hcz19_2, hfz19_0, hfz19_1, hfz19_2⟩ := zc3 BK101; obtain ⟨hcz20_0, hcz20_1, hcz20_2, hfz20_0, hfz20_1, hfz20_2⟩ := zc3 BK102))
  go_ret
  exact ⟨tE, tB⟩
 rw [if_neg c3] at H
 have c3b0 := tdHe c3
 clear c3
 obtain rfl := Option.some.inj H
 go_enter Try.func66, Try.ntmps66
 go_wp2_with (first | ((with_reducible refine gate_dst (N := 2) rfl ?_); refine tBx 2 25 #[.slice A0_0 l0_0.length c0_0, .slice A0_1 l0_1.length c0_1, .bool a0_2] ?_; intro gb101 hg w21 hbox hb; have BK101 := Aside0.mk (hbox); have GW101 := tW HB hg; have GE101 := tW HB hg; replace HB := tA HB hb; clear hb hbox hg) | ((with_reducible refine gate_dst (N := 3) rfl ?_); refine tBx 3 80 #[.int .i64 a1_0, .int .i64 a1_1, .int .i64 a1_2] ?_; intro gb102 hg w22 hbox hb; have BK102 := Aside0.mk (hbox); have GW102 := tW HB hg; have GE102 := tW HB hg; replace HB := tA HB hb; have NB101_102 := tNl BK101 hg; have NB102_101 := tNg BK101 hg; replace BK101 := tL BK101 hb; clear hb hbox hg; have hnb23 := NB101_102.out; have hnc23 := NB102_101.out; obtain ⟨hcz24_0, hcz24_1, hcz24_2, hfz24_0, hfz24_1, hfz24_2⟩ := zc3 BK101; obtain ⟨hcz25_0, hcz25_1, hcz25_2, hfz25_0, hfz25_1, hfz25_2⟩ := zc3 BK102))
 go_ret
 exact ⟨tE, tB⟩
def explore_Next.l0 : Nat → Int → List (S80) → List (S80) → Int → Int → List (List Int) → List (S80) → Bool → Option ((List (S80)))
 | 0, _, _, _, _, _, _, _, _ => none
 | k + 1, x1, x5, x9, x10, x11, x102000, x102001, x102002 => if x11 < x10 then (if 0 ≤ x11 then (if x11 < (x9.length : Int) then (if ((rd_T80 x9 x11).f0) = x1 then ((explore_exists.f x102000 x102001 x102002 ((rd_T80 x9 x11).f0) ((rd_T80 x9 x11).f1) ((rd_T80 x9 x11).f2)).bind fun t104 => (if t104 = true then (if x5.length < 5864062014805 then (explore_Next.l0 k x1 (x5 ++ [(⟨(rd_T80 x9 x11).f0, (rd_T80 x9 x11).f1, (rd_T80 x9 x11).f2⟩ : S80)]) x9 x10 (wrap64 (x11 + 1)) x102000 x102001 x102002) else (none)) else (explore_Next.l0 k x1 x5 x9 x10 (wrap64 (x11 + 1)) x102000 x102001 x102002))) else (explore_Next.l0 k x1 x5 x9 x10 (wrap64 (x11 + 1)) x102000 x102001 x102002)) else (none)) else (none)) else (some x5)
def explore_Next.f (k : Nat) (l0_0 : List (List Int)) (l0_1 : List (S80)) (a0_2 : Bool) (a1 : Int) : Option ((List (S80))) := explore_Next.l0 k a1 ([] : List (S80)) l0_1 (l0_1.length : Int) 0 l0_0 l0_1 a0_2
set_option maxHeartbeats 8000000 in
set_option maxRecDepth 100000 in
theorem explore_Next.calls (k : Nat) (A0_0 : Option Addr) (c0_0 : Nat) (l0_0 : List (List Int)) (A0_1 : Option Addr) (c0_1 : Nat) (l0_1 : List (S80)) (a0_2 : Bool) (a1 : Int) (r : List (S80)) (w : World) (hr0_0 : Kd.C (Kd.slice 3 (Kd.int .i64)) w A0_0 l0_0.length l0_0) (hc0_0 : l0_0.length ≤ c0_0) (hr0_1 : Kd.C k80 w A0_1 l0_1.length l0_1) (hc0_1 : l0_1.length ≤ c0_1) (h : explore_Next.f k l0_0 l0_1 a0_2 a1 = some r) :
  Calls Try.prog 57 #[.agg #[.slice A0_0 l0_0.length c0_0, .slice A0_1 l0_1.length c0_1, .bool a0_2], .int .i64 a1] w fun e w' => ∃ v0_ : Value, e = .returned (v0_) ∧ Kd.R k80 80 w' w.heap.size (fun _ => True) v0_ r ∧ Below w.heap.size w w' := by
 have hu25 := Try.underlying25
 have hu80 := Try.underlying80
 have HR0_0 := Aside0.mk hr0_0
 have HC0_0 := Aside0.mk hc0_0
 clear hr0_0 hc0_0
 have HR0_1 := Aside0.mk hr0_1
 have HC0_1 := Aside0.mk hc0_1
 clear hr0_1 hc0_1
 have HB := Aside0.mk (Below.refl w.heap.size w)
 have H : (explore_Next.l0 k a1 ([] : List (S80)) l0_1 (l0_1.length : Int) 0 l0_0 l0_1 a0_2) = some r := h
 clear h
 have H' := Aside0.mk H
 clear H
 go_enter Try.func57, Try.ntmps57
 go_wp2_with (first | ((with_reducible refine gate_dst (N := 2) rfl ?_); refine tBx 2 25 #[.slice A0_0 l0_0.length c0_0, .slice A0_1 l0_1.length c0_1, .bool a0_2] ?_; intro gb101 hg w3 hbox hb; have BK101 := Aside0.mk (hbox); have GW101 := tW HB hg; have GE101 := tW HB hg; replace HB := tA HB hb; clear hb hbox hg; obtain ⟨hcz4_0, hcz4_1, hcz4_2, hfz4_0, hfz4_1, hfz4_2⟩ := zc3 BK101))
 go_loopg [5, 11] k (fun kq v5 v11 w' => ∃ (x5_1 : List (S80)) (x11_1 : Int), v11 = .int .i64 x11_1 ∧ Aside0 (explore_Next.l0 kq a1 x5_1 l0_1 (l0_1.length : Int) x11_1 l0_0 l0_1 a0_2 = some r) ∧ Aside0 (kq ≤ k) ∧ Aside0 (Kd.R k80 80 w' w.heap.size (fun _ => True) v5 x5_1) ∧ Aside0 (w'.heap[gb101]? = some (.cells #[(.slice A0_0 l0_0.length c0_0), (.slice A0_1 l0_1.length c0_1), .bool a0_2] 25 (0, 0))) ∧ Aside0 (Below w.heap.size w w'))
 case atStart => exact ⟨(([] : List (S80))), (0), tU, H', ⟨Nat.le_refl _⟩, ⟨tV⟩, ⟨tK BK101⟩, ⟨tB⟩⟩
 case round =>
  clear H'
  (try clear p2); (try clear hcz4_0 hcz4_1 hcz4_2 hfz4_0 hfz4_1 hfz4_2)
  obtain ⟨x5_1, x11_1, rfl, HA, HK1, HO_5, BK101, HB⟩ := hrel
  cases gk with
  | zero => exact absurd HA.out (by simp [explore_Next.l0])
  | succ k1 =>
   have H := HA.out
   clear HA
   simp only [explore_Next.l0] at H
   by_cases c5 : x11_1 < (l0_1.length : Int)
   ·rw [if_pos c5] at H
    have c5b0 := decide_eq_true c5
    clear c5
    replace H := tF H
    obtain ⟨c6, H⟩ := H
    have c6b0 := decide_eq_true c6
    clear c6
    replace H := tF H
    obtain ⟨c7, H⟩ := H
    have c7b0 := decide_eq_true c7
    clear c7
    by_cases c8 : ((rd_T80 l0_1 x11_1).f0) = a1
    ·rw [if_pos c8] at H
     have c8b0 := beq_iff_eq.mpr c8
     have c8b1 := bne_eq_false_iff_eq.mpr c8
     clear c8
     replace H := Option.bind_eq_some_iff.mp H
     obtain ⟨t104, A90, H⟩ := H
     (try dsimp only at H)
     have A9 := Aside0.mk A90
     clear A90
     by_cases c10 : t104 = true
     ·subst c10
      rw [if_pos rfl] at H
      replace H := tF H
      obtain ⟨c11, H⟩ := H
      have LMc11 := Aside0.mk c11
      clear c11
      obtain ⟨y105, hy105⟩ : ∃ y_ : List (S80), y_ = (x5_1 ++ [(⟨(rd_T80 l0_1 x11_1).f0, (rd_T80 l0_1 x11_1).f1, (rd_T80 l0_1 x11_1).f2⟩ : S80)]) := ⟨_, rfl⟩
      replace H : (explore_Next.l0 k1 a1 y105 l0_1 (l0_1.length : Int) (wrap64 (x11_1 + 1)) l0_0 l0_1 a0_2) = some r := tQ hy105 H
      have Ny105 := Aside0.mk hy105
      clear hy105
      have H' := Aside0.mk H
      clear H
      have p102 : 0 ≤ (x11_1 : Int) := tD
      have q102 : x11_1 < (l0_1.length : Int) := tD
      obtain ⟨ad102, e102, hx102_0, hx102_1, hx102_2⟩ := at_T80 HR0_1.out x11_1 p102 q102
      cases e102
      replace hx102_0 := tH HB hx102_0
      replace hx102_1 := tH HB hx102_1
      replace hx102_2 := tH HB hx102_2
      replace p102 := eq_true p102
      replace q102 := eq_true q102
      go_wp2_with (first | ((with_reducible refine gate_dst (N := 7) rfl ?_); refine tBx 7 80 #[.int .i64 0, .int .i64 0, .int .i64 0] ?_; intro gb103 hg w12 hbox hb; replace HO_5 := Aside0.mk (Kd.R_below (Kd.R_elderB (tR HO_5) gb103 (Nat.le_of_eq hg.symm)) hb); have BK103 := Aside0.mk (hbox); have GW103 := tW HB hg; have GE103 := tW HB hg; replace HB := tA HB hb; have NB101_103 := tNl BK101 hg; have NB103_101 := tNg BK101 hg; replace BK101 := tL BK101 hb; clear hb hbox hg; have hnb13 := NB103_101.out; have hnc13 := NB101_103.out; obtain ⟨hcz14_0, hcz14_1, hcz14_2, hfz14_0, hfz14_1, hfz14_2⟩ := zc3 BK103; obtain ⟨hcz15_0, hcz15_1, hcz15_2, hfz15_0, hfz15_1, hfz15_2⟩ := zc3 BK101) | (go_at_call 66; (with_reducible refine (explore_exists.calls _ _ l0_0 _ _ l0_1 a0_2 ((rd_T80 l0_1 x11_1).f0) ((rd_T80 l0_1 x11_1).f1) ((rd_T80 l0_1 x11_1).f2) true _ (Kd.C_below HR0_0.out (tB)) HC0_0.out (Kd.C_below HR0_1.out (tB)) HC0_1.out A9.out).mono ?_); rintro e w16 ⟨rfl, hb⟩; replace HO_5 := Aside0.mk (Kd.R_below (by (with_reducible repeat (first | apply Kd.R_alloc | apply Kd.R_drewN | apply Kd.R_drew)); exact (Kd.R_mono (Kd.R_far (p := ⟨gb103, 2, none⟩) (Kd.R_far (p := ⟨gb103, 1, none⟩) (Kd.R_far (p := ⟨gb103, 0, none⟩) (Kd.R_mono HO_5.out (fun k_ hk => (⟨hk, hk.2⟩ : _ ∧ k_ ≠ gb103))) (fun _ hk => hk.2) (.int .i64 ((rd_T80 l0_1 x11_1).f0))) (fun _ hk => hk.2) (.int .i64 ((rd_T80 l0_1 x11_1).f1))) (fun _ hk => hk.2) (.int .i64 ((rd_T80 l0_1 x11_1).f2))) (fun _ h_ => h_.1))) hb); replace BK101 := Aside0.mk (blk_below (g := gb101) (o := .cells #[.slice A0_0 l0_0.length c0_0, .slice (some ad102) l0_1.length c0_1, .bool a0_2] 25 (0, 0)) (by (with_reducible repeat (first | refine blk_drewN ?_ _ | refine blk_drew ?_ | refine blk_alloc ?_ _)); refine blk_far ?_ NB101_103.out _; (with_reducible repeat (first | refine blk_drewN ?_ _ | refine blk_drew ?_ | refine blk_alloc ?_ _)); refine blk_far ?_ NB101_103.out _; (with_reducible repeat (first | refine blk_drewN ?_ _ | refine blk_drew ?_ | refine blk_alloc ?_ _)); refine blk_far ?_ NB101_103.out _; (with_reducible repeat (first | refine blk_drewN ?_ _ | refine blk_drew ?_ | refine blk_alloc ?_ _)); exact BK101.out) hb); replace BK103 := Aside0.mk (blk_below (g := gb103) (o := .cells #[.int .i64 ((rd_T80 l0_1 x11_1).f0), .int .i64 ((rd_T80 l0_1 x11_1).f1), .int .i64 ((rd_T80 l0_1 x11_1).f2)] 80 (0, 0)) (by (with_reducible repeat (first | refine blk_drewN ?_ _ | refine blk_drew ?_ | refine blk_alloc ?_ _)); refine blk_put (cs := #[.int .i64 ((rd_T80 l0_1 x11_1).f0), .int .i64 ((rd_T80 l0_1 x11_1).f1), .int .i64 0]) ?_ 2 _ rfl; (with_reducible repeat (first | refine blk_drewN ?_ _ | refine blk_drew ?_ | refine blk_alloc ?_ _)); refine blk_put (cs := #[.int .i64 ((rd_T80 l0_1 x11_1).f0), .int .i64 0, .int .i64 0]) ?_ 1 _ rfl; (with_reducible repeat (first | refine blk_drewN ?_ _ | refine blk_drew ?_ | refine blk_alloc ?_ _)); refine blk_put (cs := #[.int .i64 0, .int .i64 0, .int .i64 0]) ?_ 0 _ rfl; (with_reducible repeat (first | refine blk_drewN ?_ _ | refine blk_drew ?_ | refine blk_alloc ?_ _)); exact BK103.out) hb); replace HB := tA HB hb; (try clear hb); (try clear hb2); (try clear hk); (try clear hi); obtain ⟨hcz17_0, hcz17_1, hcz17_2, hfz17_0, hfz17_1, hfz17_2⟩ := zc3 BK103) | ((with_reducible refine gate_builtin (b := .append) (xs := #[.tmp 24, .tmp 26]) rfl ?_); at_builtin; refine Kd.R_append k80 (w0 := w) w.heap.size rfl (.tmp 24) (.tmp 26) 23 80 (.agg #[(.int .i64 0), (.int .i64 0), (.int .i64 0)]) 24 rfl Try.underlying23 info80 rfl (by decide) (by omega) u5 x5_1 (⟨(rd_T80 l0_1 x11_1).f0, (rd_T80 l0_1 x11_1).f1, (rd_T80 l0_1 x11_1).f2⟩ : S80) [.int .i64 ((rd_T80 l0_1 x11_1).f0), .int .i64 ((rd_T80 l0_1 x11_1).f1), .int .i64 ((rd_T80 l0_1 x11_1).f2)] (fun k_ => k_ ≠ gb103) (fun _ => False) rfl rfl ?aP (fun _ hk => hk.elim) ?aF ?aO ?aB ?aS ?aL ?_; (case aP => exact k80_mkM _ _ _ (⟨(rd_T80 l0_1 x11_1).f0, (rd_T80 l0_1 x11_1).f1, (rd_T80 l0_1 x11_1).f2⟩ : S80)); (case aB => exact (tB)); (case aF => exact (fun k_ hk => Kd.freshB (g := gb103) (o := .cells #[.int .i64 ((rd_T80 l0_1 x11_1).f0), .int .i64 ((rd_T80 l0_1 x11_1).f1), .int .i64 ((rd_T80 l0_1 x11_1).f2)] 80 (0, 0)) (tK BK103) k_ hk)); (case aO => exact (by (with_reducible repeat (first | apply Kd.R_alloc | apply Kd.R_drewN | apply Kd.R_drew)); exact Kd.R_mono HO_5.out (fun _ hk => hk.2))); (case aS => exact (below_size (tB))); (case aL => have := LMc11.out; omega); intro v106 w18 ho hb hg hat; rw [← Ny105.out] at ho; replace BK101 := Aside0.mk (blk_grown (g := gb101) (o := .cells #[.slice A0_0 l0_0.length c0_0, .slice (some ad102) l0_1.length c0_1, .bool a0_2] 25 (0, 0)) (tK BK101) hg (Kd.R_ne HO_5.out BK101.out (by decide))); replace BK103 := Aside0.mk (blk_grown (g := gb103) (o := .cells #[.int .i64 ((rd_T80 l0_1 x11_1).f0), .int .i64 ((rd_T80 l0_1 x11_1).f1), .int .i64 ((rd_T80 l0_1 x11_1).f2)] 80 (0, 0)) (tK BK103) hg (Kd.R_away HO_5.out (fun _ hk => hk.2))); replace HB := Aside0.mk (hb); have HO107 := Aside0.mk (ho); clear HO_5; clear ho hb hg hat))
      go_roundg k1
      case measure => have := HK1.out; omega
      case rel => exact ⟨(y105), (wrap64 (x11_1 + 1)), tU, H', ⟨by have := HK1.out; omega⟩, ⟨by (with_reducible repeat (first | apply Kd.R_alloc | apply Kd.R_drewN | apply Kd.R_drew)); exact Kd.R_mono HO107.out (fun _ hk => trivial)⟩, ⟨tK BK101⟩, ⟨tB⟩⟩
     replace c10 := Bool.eq_false_iff.mpr c10
     subst c10
     rw [if_neg (show ¬ (false = true) by decide)] at H
     have H' := Aside0.mk H
     clear H
     have p102 : 0 ≤ (x11_1 : Int) := tD
     have q102 : x11_1 < (l0_1.length : Int) := tD
     obtain ⟨ad102, e102, hx102_0, hx102_1, hx102_2⟩ := at_T80 HR0_1.out x11_1 p102 q102
     cases e102
     replace hx102_0 := tH HB hx102_0
     replace hx102_1 := tH HB hx102_1
     replace hx102_2 := tH HB hx102_2
     replace p102 := eq_true p102
     replace q102 := eq_true q102
     go_wp2_with (first | ((with_reducible refine gate_dst (N := 7) rfl ?_); refine tBx 7 80 #[.int .i64 0, .int .i64 0, .int .i64 0] ?_; intro gb103 hg w19 hbox hb; replace HO_5 := Aside0.mk (Kd.R_below (Kd.R_elderB (tR HO_5) gb103 (Nat.le_of_eq hg.symm)) hb); have BK103 := Aside0.mk (hbox); have GW103 := tW HB hg; have GE103 := tW HB hg; replace HB := tA HB hb; have NB101_103 := tNl BK101 hg; have NB103_101 := tNg BK101 hg; replace BK101 := tL BK101 hb; clear hb hbox hg; have hnb20 := NB103_101.out; have hnc20 := NB101_103.out; obtain ⟨hcz21_0, hcz21_1, hcz21_2, hfz21_0, hfz21_1, hfz21_2⟩ := zc3 BK103; obtain ⟨hcz22_0, hcz22_1, hcz22_2, hfz22_0, hfz22_1, hfz22_2⟩ := zc3 BK101) | (go_at_call 66; (with_reducible refine (explore_exists.calls _ _ l0_0 _ _ l0_1 a0_2 ((rd_T80 l0_1 x11_1).f0) ((rd_T80 l0_1 x11_1).f1) ((rd_T80 l0_1 x11_1).f2) false _ (Kd.C_below HR0_0.out (tB)) HC0_0.out (Kd.C_below HR0_1.out (tB)) HC0_1.out A9.out).mono ?_); rintro e w23 ⟨rfl, hb⟩; replace HO_5 := Aside0.mk (Kd.R_below (by (with_reducible repeat (first | apply Kd.R_alloc | apply Kd.R_drewN | apply Kd.R_drew)); exact (Kd.R_mono (Kd.R_far (p := ⟨gb103, 2, none⟩) (Kd.R_far (p := ⟨gb103, 1, none⟩) (Kd.R_far (p := ⟨gb103, 0, none⟩) (Kd.R_mono HO_5.out (fun k_ hk => (⟨hk, hk.2⟩ : _ ∧ k_ ≠ gb103))) (fun _ hk => hk.2) (.int .i64 ((rd_T80 l0_1 x11_1).f0))) (fun _ hk => hk.2) (.int .i64 ((rd_T80 l0_1 x11_1).f1))) (fun _ hk => hk.2) (.int .i64 ((rd_T80 l0_1 x11_1).f2))) (fun _ h_ => h_.1))) hb); replace BK101 := Aside0.mk (blk_below (g := gb101) (o := .cells #[.slice A0_0 l0_0.length c0_0, .slice (some ad102) l0_1.length c0_1, .bool a0_2] 25 (0, 0)) (by (with_reducible repeat (first | refine blk_drewN ?_ _ | refine blk_drew ?_ | refine blk_alloc ?_ _)); refine blk_far ?_ NB101_103.out _; (with_reducible repeat (first | refine blk_drewN ?_ _ | refine blk_drew ?_ | refine blk_alloc ?_ _)); refine blk_far ?_ NB101_103.out _; (with_reducible repeat (first | refine blk_drewN ?_ _ | refine blk_drew ?_ | refine blk_alloc ?_ _)); refine blk_far ?_ NB101_103.out _; (with_reducible repeat (first | refine blk_drewN ?_ _ | refine blk_drew ?_ | refine blk_alloc ?_ _)); exact BK101.out) hb); replace BK103 := Aside0.mk (blk_below (g := gb103) (o := .cells #[.int .i64 ((rd_T80 l0_1 x11_1).f0), .int .i64 ((rd_T80 l0_1 x11_1).f1), .int .i64 ((rd_T80 l0_1 x11_1).f2)] 80 (0, 0)) (by (with_reducible repeat (first | refine blk_drewN ?_ _ | refine blk_drew ?_ | refine blk_alloc ?_ _)); refine blk_put (cs := #[.int .i64 ((rd_T80 l0_1 x11_1).f0), .int .i64 ((rd_T80 l0_1 x11_1).f1), .int .i64 0]) ?_ 2 _ rfl; (with_reducible repeat (first | refine blk_drewN ?_ _ | refine blk_drew ?_ | refine blk_alloc ?_ _)); refine blk_put (cs := #[.int .i64 ((rd_T80 l0_1 x11_1).f0), .int .i64 0, .int .i64 0]) ?_ 1 _ rfl; (with_reducible repeat (first | refine blk_drewN ?_ _ | refine blk_drew ?_ | refine blk_alloc ?_ _)); refine blk_put (cs := #[.int .i64 0, .int .i64 0, .int .i64 0]) ?_ 0 _ rfl; (with_reducible repeat (first | refine blk_drewN ?_ _ | refine blk_drew ?_ | refine blk_alloc ?_ _)); exact BK103.out) hb); replace HB := tA HB hb; (try clear hb); (try clear hb2); (try clear hk); (try clear hi)))
     go_roundg k1
     case measure => have := HK1.out; omega
     case rel => exact ⟨(x5_1), (wrap64 (x11_1 + 1)), tU, H', ⟨by have := HK1.out; omega⟩, ⟨by (with_reducible repeat (first | apply Kd.R_alloc | apply Kd.R_drewN | apply Kd.R_drew)); exact Kd.R_mono HO_5.out (fun _ hk => trivial)⟩, ⟨tK BK101⟩, ⟨tB⟩⟩
    rw [if_neg c8] at H
    have c8b0 := beq_eq_false_iff_ne.mpr c8
    have c8b1 := bne_iff_ne.mpr c8
    have H' := Aside0.mk H
    clear H
    have p102 : 0 ≤ (x11_1 : Int) := tD
    have q102 : x11_1 < (l0_1.length : Int) := tD
    obtain ⟨ad102, e102, hx102_0, hx102_1, hx102_2⟩ := at_T80 HR0_1.out x11_1 p102 q102
    cases e102
    replace hx102_0 := tH HB hx102_0
    replace hx102_1 := tH HB hx102_1
    replace hx102_2 := tH HB hx102_2
    replace p102 := eq_true p102
    replace q102 := eq_true q102
    go_wp2_with (first | ((with_reducible refine gate_dst (N := 7) rfl ?_); refine tBx 7 80 #[.int .i64 0, .int .i64 0, .int .i64 0] ?_; intro gb103 hg w24 hbox hb; replace HO_5 := Aside0.mk (Kd.R_below (Kd.R_elderB (tR HO_5) gb103 (Nat.le_of_eq hg.symm)) hb); have BK103 := Aside0.mk (hbox); have GW103 := tW HB hg; have GE103 := tW HB hg; replace HB := tA HB hb; have NB101_103 := tNl BK101 hg; have NB103_101 := tNg BK101 hg; replace BK101 := tL BK101 hb; clear hb hbox hg; have hnb25 := NB103_101.out; have hnc25 := NB101_103.out; obtain ⟨hcz26_0, hcz26_1, hcz26_2, hfz26_0, hfz26_1, hfz26_2⟩ := zc3 BK103))
    go_roundg k1
    case measure => have := HK1.out; omega
    case rel => exact ⟨(x5_1), (wrap64 (x11_1 + 1)), tU, H', ⟨by have := HK1.out; omega⟩, ⟨by (with_reducible repeat (first | apply Kd.R_alloc | apply Kd.R_drewN | apply Kd.R_drew)); exact Kd.R_mono (Kd.R_far (p := ⟨gb103, 2, none⟩) (Kd.R_far (p := ⟨gb103, 1, none⟩) (Kd.R_far (p := ⟨gb103, 0, none⟩) (Kd.R_mono HO_5.out (fun k_ hk => (⟨hk, hk.2⟩ : _ ∧ k_ ≠ gb103))) (fun _ hk => hk.2) (.int .i64 ((rd_T80 l0_1 x11_1).f0))) (fun _ hk => hk.2) (.int .i64 ((rd_T80 l0_1 x11_1).f1))) (fun _ hk => hk.2) (.int .i64 ((rd_T80 l0_1 x11_1).f2))) (fun _ hk => trivial)⟩, ⟨by (with_reducible repeat (first | refine blk_drewN ?_ _ | refine blk_drew ?_ | refine blk_alloc ?_ _)); refine blk_far ?_ NB101_103.out _; (with_reducible repeat (first | refine blk_drewN ?_ _ | refine blk_drew ?_ | refine blk_alloc ?_ _)); refine blk_far ?_ NB101_103.out _; (with_reducible repeat (first | refine blk_drewN ?_ _ | refine blk_drew ?_ | refine blk_alloc ?_ _)); refine blk_far ?_ NB101_103.out _; (with_reducible repeat (first | refine blk_drewN ?_ _ | refine blk_drew ?_ | refine blk_alloc ?_ _)); exact BK101.out⟩, ⟨tB⟩⟩
   rw [if_neg c5] at H
   have c5b0 := decide_eq_false c5
   clear c5
   obtain rfl := Option.some.inj H
   go_wp2
   go_ret
   exact ⟨_, tE, by (with_reducible repeat (first | apply Kd.R_alloc | apply Kd.R_drewN | apply Kd.R_drew)); exact HO_5.out, tB⟩
end Go.Proofs.Ytfnjbgggmddgpaa.Q
end
