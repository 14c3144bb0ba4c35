/- Part 1 of a proof: Dm. Words and walks that a program printed for this claim stand here without what the claim does not use. -/
import Derived.Deep.MidRow
import Derived.Laws.StructEq
import Derived.Laws.CopyRow
import Derived.Great.FillDense
import Derived.Great.BuildSlice
import Derived.Test.YtficdonjodadlaaDm0
set_option linter.unusedSimpArgs false
set_option linter.unusedVariables false
section
set_option linter.unusedVariables false
set_option linter.unusedSimpArgs false
namespace Go.Ev
open Go.RowKit
section
variable {C : Cx} {N N' : Nm} {st st' : St} {a : Act} {w w' : World} {o : Oper} {K : Act → World → Prop} {Q : Exit → Act → World → Prop}
theorem wp_value {P : Program} {v : Value} {w' : World} (h : (execOp a.eval o).run P w = .ok (.value v) w') (hk : K (a.put o.dst v) w') : o.wp P a w K Q := by
  unfold Oper.wp; rw [h]; exact hk
theorem wp_skip' {P : Program} {w' : World} (h : (execOp a.eval o).run P w = .ok .skip w') (hk : K (a.put o.dst undef) w') : o.wp P a w K Q := by
  unfold Oper.wp; rw [h]; exact hk
theorem const_slot {sh : Nat → Option Sh} (v : Value) : Slot C N sh w (.v (.a (constAt v))) v := by
  intro hu
  unfold constAt at hu ⊢
  split at hu <;> first | exact ⟨_, rfl, rfl⟩ | cases hu
theorem Rel.get (h : Rel C N st a w) (x : Operand) : Slot C N st.sh w (st.get x) (a.eval x) := by
  cases x with
  | tmp t => exact h.slots t
  | const v => exact const_slot v
  | global g => intro hu; cases hu
  | func f => intro _; exact ⟨_, ⟨rfl, fun k hk => by cases hk⟩, rfl⟩
theorem Rel.value (h : Rel C N st a w) {v : Value} {x : SV} (hr : (execOp a.eval o).run C.P w = .ok (.value v) w) (hx : Slot C N st.sh w x v) (hk : ∀ N' a' w', Rel C N' (st.set o.dst x) a' w' → K a' w') : o.wp C.P a w K Q :=
  wp_value hr (hk N _ _ (h.set hx))
theorem Tab.Ok.und (ok : C.T.Ok C.P) {t : TypeId} (ht : C.T.ty t ≠ .no) : ∃ d, C.P.underlying t = some d ∧ d.isRow = isAgg C.T t := by
  cases h : C.T.ty t with
  | int k => exact ⟨_, ok.int t k h, by simp [isAgg, h, TypeDesc.isRow]⟩
  | bool => exact ⟨_, ok.bool t h, by simp [isAgg, h, TypeDesc.isRow]⟩
  | str => exact ⟨_, ok.str t h, by simp [isAgg, h, TypeDesc.isRow]⟩
  | slice e => exact ⟨_, ok.slice t e h, by simp [isAgg, h, TypeDesc.isRow]⟩
  | agg fs => obtain ⟨Fs, h1, _⟩ := ok.agg t fs h; exact ⟨_, h1, by simp [isAgg, h, TypeDesc.isRow]⟩
  | ptr e => exact ⟨_, ok.ptr t e h, by simp [isAgg, h, TypeDesc.isRow]⟩
  | fn => obtain ⟨x, y, z, h1⟩ := ok.fn t h; exact ⟨_, h1, by simp [isAgg, h, TypeDesc.isRow]⟩
  | no => exact absurd h ht
theorem run_isAgg' (ok : C.T.Ok C.P) {t : TypeId} (ht : C.T.ty t ≠ .no) (w : World) : (Go.isAgg t).run C.P w = .ok (isAgg C.T t) w := by
  obtain ⟨d, h1, h2⟩ := Tab.Ok.und ok ht
  unfold Go.isAgg
  rw [Sem.run_bind, run_underlying h1 w]
  cases d <;> simp_all [TypeDesc.isRow]
theorem run_sizeOf' (ok : C.T.Ok C.P) {t : TypeId} (ht : C.T.ty t ≠ .no) (w : World) : (sizeOf t).run C.P w = .ok (C.T.sz t) w := by
  obtain ⟨i, z, h1, h2, _⟩ := ok.info t ht
  simp [sizeOf, typeInfo, h1, h2]
theorem run_zero' (ok : C.T.Ok C.P) {t : TypeId} (ht : C.T.ty t ≠ .no) (w : World) : ∃ z, (zeroValue t).run C.P w = .ok z w ∧ z.cells.size = C.T.sz t ∧ z = mkV (isAgg C.T t) z.cells.toList ∧ ∀ w E, Rep C.T w E t (C.T.row t).zero z.cells.toList := by
  obtain ⟨i, z, h1, h2, h3, h4, h5, h6, h7, h7', h8⟩ := ok.info t ht
  have hz : ∀ w E, Rep C.T w E t (C.T.row t).zero z.cells.toList := by cases h : C.T.ty t <;> simp_all
  refine ⟨z, by simp [zeroValue, typeInfo, h1, h4], h5, ?_, hz⟩
  cases hb : isAgg C.T t with
  | true => obtain ⟨cs, rfl⟩ := h7 hb; rfl
  | false => rw [h7' hb]; rfl
theorem run_loadVar' (ok : C.T.Ok C.P) {t : TypeId} (ht : C.T.ty t ≠ .no) {b o : Nat} {cs : List Value} (hc : w.rangeAt b o cs) (hl : cs.length = C.T.sz t) : (loadVar t ⟨b, o, none⟩).run C.P w = .ok (mkV (isAgg C.T t) cs) w := by
  unfold loadVar
  rw [Sem.run_bind, run_isAgg' ok ht, Result.andThen_ok]
  cases h : isAgg C.T t with
  | true =>
    simp only [if_true, Sem.run_bind, run_sizeOf' ok ht, Result.andThen_ok]
    rw [← hl, run_loadCells_list (P := C.P) w ⟨b, o, none⟩ cs (fun j v hv => by rw [Addr.add_mid]; exact hc j v hv)]
    rfl
  | false =>
    obtain ⟨i, z, h1, h2, h3, h4, h5, h6, h7⟩ := ok.info t ht
    rw [h6 h] at hl
    match cs, hl with
    | [c], _ =>
      have := hc 0 c rfl
      simp only [Bool.false_eq_true, if_false, run_load, Nat.add_zero] at this ⊢
      rw [this]; rfl
theorem run_storeVar' (ok : C.T.Ok C.P) {t e : TypeId} (ht : C.T.ty t ≠ .no) {b o : Nat} {cur : Array Value} {v : Value} (hb : w.heap[b]? = some (.cells cur e (0, 0))) (hl : v.cells.size = C.T.sz t) (ho : o + C.T.sz t ≤ cur.size) (h1 : ∀ u ∈ v.cells.toList, u.oneCell' = true) :
    (storeVar t ⟨b, o, none⟩ v).run C.P w = .ok () (w.setRow b (splice cur.toList o v.cells.toList).toArray) := by
  unfold storeVar
  rw [Sem.run_bind, run_sizeOf' ok ht, Result.andThen_ok, if_neg (by simp [hl])]
  have h2 := run_storeCells_at C.P b o e v.cells.toList 0 cur w hb (by simp [hl]; omega) h1
  rw [show (do pure PUnit.unit; storeCells ⟨b, o, none⟩ v.cells.toList) = storeCells ⟨b, o, none⟩ v.cells.toList from rfl, h2]
  simp [splice]
theorem slot_single {sh : Nat → Option Sh} {x : At} {v : Value} (h : SlotV C N sh w (.a x) v) (hu : x.isU = false) (hg : x.agg C.T = false) : ∃ cs, RepA C N sh w x cs ∧ v = cs.headD undef := by
  obtain ⟨cs, h1, h2⟩ := h hu
  exact ⟨cs, h1, by rw [h2, hg]; rfl⟩
theorem slot_of {sh : Nat → Option Sh} {t : TypeId} {x : At} {cs : List Value} (h : RepA C N sh w x cs) (ht : x.isU = false → x.tyAt C.T t) : SlotV C N sh w (.a x) (mkV (isAgg C.T t) cs) := by
  intro hu
  exact ⟨cs, h, by rw [tyAt_agg (ht hu) hu]⟩
theorem slot_ofV1 {sh : Nat → Option Sh} {t : TypeId} {c : V1} {cs : List Value} (h : RepV1 C N sh w t c cs) : SlotV C N sh w c (mkV (isAgg C.T t) cs) := by
  cases c with
  | a x => exact slot_of h.1 h.2.1
  | g t' l =>
    obtain ⟨rfl, h2⟩ := h
    refine ⟨cs, h2, ?_⟩
    obtain ⟨fs, h3, _⟩ := h2
    simp [isAgg, h3, mkV]
theorem arr_cells (ok : C.Ok) {k p e : Nat} {l : List IV} (h : RowOk C N st.sh w k (.arr p e l)) : ∃ cf : Nat → List Value, (∀ i, i < l.length → Rep C.T w (C.E N p) e (l.getD i .N) (cf i) ∧ (cf i).length = C.T.sz e) ∧ w.ownsRow 0 e (C.T.sz e) (N.β k) l.length ((List.range l.length).flatMap cf) ∧
    ∀ b, blk (N.β k) = some b → ∀ i, i < l.length → w.rangeAt b (i * C.T.sz e) (cf i) := by
  obtain ⟨q1, q2, cf, q3, q4⟩ := h
  have hl : ∀ i, i < l.length → (cf i).length = C.T.sz e := fun i hi => (q3 i hi).len ok.tab
  refine ⟨cf, fun i hi => ⟨q3 i hi, hl i hi⟩, q4, fun b hb i hi j u hu => ?_⟩
  rcases q4.2 with ⟨e1, e2⟩ | ⟨g, cap, cur, e1, _, hg, hnc, _, hcs, htk⟩
  · rw [e1] at hb; cases hb
  · rw [e1] at hb
    obtain rfl : g = b := by simpa [blk] using hb
    have hjl := (List.getElem?_eq_some_iff.1 hu).1
    rw [hl i hi] at hjl
    have h1 := flat_get hl hi hjl
    rw [← htk, hu, List.getElem?_take] at h1
    split at h1
    · rw [cell_of_row w g _ cur e (0, 0) hg]; simpa using h1
    · cases h1
theorem rangeAt_window {b o o' n : Nat} {cs : List Value} (h : w.rangeAt b o cs) : w.rangeAt b (o + o') ((cs.drop o').take n) := by
  intro j v hj
  rw [window_get] at hj
  split at hj
  · have := h (o' + j) v hj
    rwa [Nat.add_assoc]
  · cases hj
theorem rangeAt_cells {b : Nat} {cs : Array Value} {t : TypeId} {f : Nat × Nat} (h : w.heap[b]? = some (.cells cs t f)) : w.rangeAt b 0 cs.toList := by
  intro j v hj
  rw [Nat.zero_add, cell_of_row w b j cs t f h]
  simpa using hj
theorem load_sound (ok : C.Ok) (h : Rel C N st a w) {t : TypeId} {x : At} {v : V1} {p : Value} (hx : SlotV C N st.sh w (.a x) p) (hs : st.load C.T t x = some v) :
    ∃ val, (Instr.loadAt t p).run C.P w = .ok val w ∧ SlotV C N st.sh w v val := by
  have fin : ∀ {b o : Nat} {cs : List Value}, C.T.ty t ≠ .no → p = .pointer (some ⟨b, o, none⟩) → w.rangeAt b o cs → cs.length = C.T.sz t → SlotV C N st.sh w v (mkV (isAgg C.T t) cs) → ∃ val, (Instr.loadAt t p).run C.P w = .ok val w ∧ SlotV C N st.sh w v val := by
    intro b o cs h1 h2 h3 h4 h5
    refine ⟨_, ?_, h5⟩
    subst h2
    simp only [Instr.loadAt, Instr.sureAddr, Sem.run_bind, Sem.run_pure, Result.andThen_ok]
    exact run_loadVar' ok.tab h1 h3 h4
  cases x with
  | pv q t' u =>
    simp only [St.load] at hs
    split at hs
    · rename_i e; subst e
      cases hs
      obtain ⟨cs, ⟨b, o, ds, h1, h2, h3, h4⟩, h5⟩ := slot_single hx rfl rfl
      rw [h1] at h5
      obtain ⟨k1, k2⟩ := mk1_sound (sh := st.sh) ok h2
      exact fin h2.ty h5 h4 (h2.len ok.tab) (slot_of k1 k2)
    · cases hs
  | ptr k path t' =>
    simp only [St.load] at hs
    split at hs
    · rename_i e; subst e
      obtain ⟨cs, ⟨b, off, s, h1, h2, h3, h4⟩, h5⟩ := slot_single hx rfl rfl
      rw [h4] at h5
      have key : ∀ {q : Nat} {e : TypeId} {u : IV} {ds : List Value} {o : Nat} {base : Nat} {path' : List Nat}, Rep C.T w (C.E N q) e u ds → pathOff C.T e path' = some (o, t) → w.rangeAt b base ds → off = base + o → v = .a (C.T.mk1 q t (atp u path')) → ∃ val, (Instr.loadAt t p).run C.P w = .ok val w ∧ SlotV C N st.sh w v val := by
        intro q e u ds o base path' r1 r2 r3 r4 r5
        have r6 := r1.path ok.tab r2
        obtain ⟨k1, k2⟩ := mk1_sound (sh := st.sh) ok r6
        subst r4
        exact fin r6.ty h5 (rangeAt_window r3) (r6.len ok.tab) (r5 ▸ slot_of k1 k2)
      have box : ∀ {xb : Bool} {bt : TypeId} {own : List Nat} {c : V1}, st.row k = some (.box xb bt own c) → ∃ cs, s = .box bt ∧ w.rangeAt b 0 cs ∧ RepV1 C N st.sh w bt c cs ∧ C.T.ty bt ≠ .no := by
        intro xb bt own c hk
        obtain ⟨b', cs, g1, g2, g3, g4, g5⟩ := h.rows k _ hk
        have : b' = b := by rw [g1] at h3; simpa [blk] using h3
        subst this
        rw [St.sh, hk] at h1
        cases h1
        exact ⟨cs, rfl, by have := rangeAt_cells g2; simpa using this, g3, g4⟩
      split at hs
      · rename_i xb bt own c hk
        obtain ⟨cs, rfl, g1, g2, g3⟩ := box hk
        simp only [PtrOk, pathOff, Option.some.injEq, Prod.mk.injEq] at h2
        obtain ⟨rfl, rfl⟩ := h2
        cases hs
        refine fin g3 h5 g1 ?_ (slot_ofV1 g2)
        cases v with
        | a x => exact g2.2.2.1
        | g t' l => exact g2.2.choose_spec.2.2.1
      · rename_i xb bt own t' l j hk
        obtain ⟨cs, rfl, g1, g2, g3⟩ := box hk
        obtain ⟨rfl, fs, k1, k2, k3, k4, k5⟩ := g2
        simp only [PtrOk, pathOff, k1] at h2
        rw [Option.bind_eq_some_iff] at h2
        obtain ⟨f, hf, h2⟩ := h2
        simp only [Option.map_some, Option.some.injEq, Prod.mk.injEq] at h2
        obtain ⟨rfl, rfl⟩ := h2
        have hj := (List.getElem?_eq_some_iff.1 hf).1
        have e : fs.getD j (0, 0) = f := by simp [List.getD, hf]
        obtain ⟨k6, k7⟩ := k5 j (by omega)
        rw [e] at k6 k7
        cases hs
        have ht := ok.tab.tile t' fs k1 j hj
        rw [e] at ht
        refine fin ht.2.2.2 h5 (by have := rangeAt_window (o' := f.2) (n := C.T.sz f.1) g1; simpa using this) ?_ (slot_of k6 k7)
        rw [List.length_take, List.length_drop]; omega
      · rename_i xb bt own t' l j q _ hk
        obtain ⟨cs, rfl, g1, g2, g3⟩ := box hk
        obtain ⟨rfl, fs, k1, k2, k3, k4, k5⟩ := g2
        simp only [PtrOk, pathOff, k1] at h2
        rw [Option.bind_eq_some_iff] at h2
        obtain ⟨f, hf, h2⟩ := h2
        obtain ⟨⟨o', u⟩, hq, he⟩ := Option.map_eq_some_iff.1 h2
        simp only [Prod.mk.injEq] at he
        obtain ⟨rfl, rfl⟩ := he
        have hj := (List.getElem?_eq_some_iff.1 hf).1
        have e : fs.getD j (0, 0) = f := by simp [List.getD, hf]
        obtain ⟨k6, k7⟩ := k5 j (by omega)
        rw [e] at k6 k7
        split at hs
        · rename_i p' t'' v' hx'
          cases hs
          rw [hx'] at k6 k7
          obtain rfl : t'' = f.1 := k7 rfl
          exact key (base := f.2) k6 hq (by have := rangeAt_window (o' := f.2) (n := C.T.sz f.1) g1; simpa using this) rfl rfl
        · cases hs
      · rename_i xb bt own p' t' v' hk _
        obtain ⟨cs, rfl, g1, g2, g3⟩ := box hk
        obtain ⟨k1, k2, _⟩ := g2
        obtain rfl : t' = bt := k2 rfl
        cases hs
        exact key (base := 0) k1 h2 g1 (by omega) rfl
      · rename_i p' e l i q hk
        rw [Option.bind_eq_some_iff] at hs
        obtain ⟨u, hu, hs⟩ := hs
        cases hs
        obtain ⟨cf, g1, g2, g3⟩ := arr_cells ok (h.rows k _ hk)
        rw [St.sh, hk] at h1
        cases h1
        obtain ⟨i', q', o, e1, h2, h6⟩ := h2
        simp only [List.cons.injEq] at e1
        obtain ⟨rfl, rfl⟩ := e1
        have hi := (List.getElem?_eq_some_iff.1 hu).1
        have e2 : l.getD i .N = u := by simp [List.getD, hu]
        have g4 := (g1 i hi).1
        rw [e2] at g4
        exact key g4 h2 (g3 b h3 i hi) h6 rfl
      · cases hs
    · cases hs
  | _ => simp [St.load] at hs
end
end Go.Ev
end
section
set_option linter.unusedVariables false
set_option linter.unusedSimpArgs false
namespace Go.Ev
open Go.RowKit
section
variable {C : Cx} {N N' : Nm} {st st' : St} {a : Act} {w w' : World} {o : Oper} {K : Act → World → Prop} {Q : Exit → Act → World → Prop}
theorem Cx.E.anti (ok : C.Ok) {p q b : Nat} (h : p ≤ q) (hb : C.E N q b) : C.E N p b := hb.imp (ok.anti p q b h) id
def At.basic (T : Tab) (t : TypeId) : At → Prop | .int k _ => T.ty t = .int k | .bool _ => T.ty t = .bool | .str _ => T.ty t = .str | _ => True
theorem mn_le (p q : Nat) : mn p q ≤ p ∧ mn p q ≤ q := by unfold mn; split <;> omega
theorem splice_window {cs ds : List Value} {o o2 n : Nat} (h : o + ds.length ≤ cs.length) (hd : o2 + n ≤ o ∨ o + ds.length ≤ o2) : ((splice cs o ds).drop o2).take n = (cs.drop o2).take n := by
  apply List.ext_getElem?
  intro i
  rw [window_get, window_get]
  by_cases hi : i < n
  · rw [if_pos hi, if_pos hi, splice_get h, if_neg (by omega)]
  · rw [if_neg hi, if_neg hi]
theorem splice_at {cs ds : List Value} {o : Nat} (h : o + ds.length ≤ cs.length) : ((splice cs o ds).drop o).take ds.length = ds := by
  apply List.ext_getElem?
  intro i
  rw [window_get]
  by_cases hi : i < ds.length
  · rw [if_pos hi, splice_get h, if_pos (by omega)]; congr 1; omega
  · rw [if_neg hi, List.getElem?_eq_none (by omega)]
theorem splice_one {cs ds : List Value} {o : Nat} (h1 : ∀ u ∈ cs, u.oneCell' = true) (h2 : ∀ u ∈ ds, u.oneCell' = true) : ∀ u ∈ splice cs o ds, u.oneCell' = true := by
  intro u hu
  simp only [splice, List.mem_append] at hu
  rcases hu with (hu | hu) | hu
  · exact h1 u (List.mem_of_mem_take hu)
  · exact h2 u hu
  · exact h1 u (List.mem_of_mem_drop hu)
theorem RepG.put (ok : C.Ok) {sh : Nat → Option Sh} {t : TypeId} {l : List At} {cs : List Value} (h : RepG C N sh w t l cs) {j : Nat} {fs : List (TypeId × Nat)} (ht : C.T.ty t = .agg fs) (hj : j < fs.length) {y : At} {ds : List Value}
    (hd : ds.length = C.T.sz (fs.getD j (0, 0)).1) (hy : RepA C N sh w y ds) (ha : y.isU = false → y.tyAt C.T (fs.getD j (0, 0)).1) (h1 : ∀ u ∈ ds, u.oneCell' = true) : RepG C N sh w t (l.set j y) (splice cs (fs.getD j (0, 0)).2 ds) := by
  obtain ⟨fs', g1, g2, g3, g4, g5⟩ := h
  rw [ht] at g1; cases g1
  have tj := ok.tab.tile t fs ht j hj
  have hle : (fs.getD j (0, 0)).2 + ds.length ≤ cs.length := by omega
  refine ⟨fs, ht, by simp [g2], by rw [splice_length hle]; exact g3, splice_one g4 h1, fun i hi => ?_⟩
  rw [List.length_set] at hi
  by_cases e : j = i
  · subst e
    have e3 : (l.set j y).getD j .U = y := by simp [List.getD, hi]
    rw [e3, ← hd, splice_at hle]
    exact ⟨hy, ha⟩
  · have e3 : (l.set j y).getD i .U = l.getD i .U := by simp [List.getD, List.getElem?_set, e]
    rw [e3, splice_window hle]
    · exact g5 i hi
    · have ti := ok.tab.tile t fs ht i (by omega)
      rcases Nat.lt_or_gt_of_ne e with hlt | hlt
      · have := ti.2.2.1 j hlt; right; omega
      · have := tj.2.2.1 i hlt; left; omega
theorem putField_sound (ok : C.Ok) (h : Rel C N st a w) {k j b : Nat} {bt : TypeId} {fs : List (TypeId × Nat)} {y : At} {ds : List Value} (hh : ∃ cs0, w.heap[b]? = some (.cells cs0 bt (0, 0))) (hβ : N.β k = .pointer (some ⟨b, 0, none⟩)) (ht : C.T.ty bt = .agg fs) (hj : j < fs.length)
    (hd : ds.length = C.T.sz (fs.getD j (0, 0)).1) (hy : RepA C N st.sh w y ds) (hu : y.isU = false) (ha : y.tyAt C.T (fs.getD j (0, 0)).1) (hf : y.basic C.T (fs.getD j (0, 0)).1) (h1 : ∀ u ∈ ds, u.oneCell' = true) (hs : st.putField C.T k j y = some st') :
    ∃ cs, w.heap[b]? = some (.cells cs.toArray bt (0, 0)) ∧ cs.length = C.T.sz bt ∧ Rel C N st' a (w.setRow b (splice cs (fs.getD j (0, 0)).2 ds).toArray) := by
  have hex : ∃ xb own c, st.row k = some (.box xb bt own c) := by
    have key : ∀ {xb own bt' c}, st.row k = some (.box xb bt' own c) → ∃ xb own c, st.row k = some (.box xb bt own c) := by
      intro xb own bt' c hk
      obtain ⟨b', cs, g1, g2, _⟩ := h.rows k _ hk
      obtain rfl : b' = b := by rw [hβ] at g1; cases g1; rfl
      obtain ⟨cs0, hh⟩ := hh
      obtain rfl : bt' = bt := by rw [hh] at g2; cases g2; rfl
      exact ⟨_, _, _, hk⟩
    unfold St.putField at hs
    split at hs
    · rename_i hk; exact key hk
    · rename_i hk; exact key hk
    · cases hs
  obtain ⟨xb, own, c, hk⟩ := hex
  obtain ⟨b', cs, g1, g2, g3, g4, g5⟩ := h.rows k _ hk
  obtain rfl : b' = b := by rw [hβ] at g1; cases g1; rfl
  have hcl : cs.length = C.T.sz bt ∧ ∀ u ∈ cs, u.oneCell' = true := by
    cases c with
    | a x => exact g3.2.2
    | g t' l => obtain ⟨fs', _, _, q1, q2, _⟩ := g3.2; exact ⟨q1, q2⟩
  have tj := ok.tab.tile bt fs ht j hj
  have hle : (fs.getD j (0, 0)).2 + ds.length ≤ cs.length := by omega
  refine ⟨cs, g2, hcl.1, ?_⟩
  have hw : ∀ i, blk (N.β k) ≠ some i → (w.setRow b' (splice cs (fs.getD j (0, 0)).2 ds).toArray).heap[i]? = w.heap[i]? := fun i hi => setRow_other w b' i _ (fun e => hi (by rw [hβ, e]; rfl))
  have hb := setRow_heap w b' cs.toArray (splice cs (fs.getD j (0, 0)).2 ds).toArray bt (0, 0) g2
  have hE : ∀ p i, C.E N p i → (w.setRow b' (splice cs (fs.getD j (0, 0)).2 ds).toArray).heap[i]? = w.heap[i]? := fun p i hi => hw i (fun e => h.eown ok (by rw [hk]; rfl) e hi)
  have fin : ∀ c', RepV1 C N st.sh w bt c' (splice cs (fs.getD j (0, 0)).2 ds) → Rel C N (st.putRow k (some (.box xb bt own c'))) a (w.setRow b' (splice cs (fs.getD j (0, 0)).2 ds).toArray) := fun c' hc =>
    h.wr ok hk (r' := .box xb bt own c') rfl hw (by simp [World.setRow]) rfl rfl rfl ⟨b', _, hβ, hb, hc.mono (fun _ _ h => h) hE (fun _ _ => ⟨rfl, rfl⟩), g4, g5⟩
  have hsl : (splice cs (fs.getD j (0, 0)).2 ds).length = C.T.sz bt := by rw [splice_length hle]; exact hcl.1
  have hso := splice_one (o := (fs.getD j (0, 0)).2) hcl.2 h1
  have hpo : pathOff C.T bt [j] = some ((fs.getD j (0, 0)).2, (fs.getD j (0, 0)).1) := by
    simp only [pathOff, ht]
    rw [show fs[j]? = some (fs.getD j (0, 0)) by simp [List.getD, hj]]
    rfl
  unfold St.putField at hs
  rw [hk] at hs
  split at hs
  · rename_i xb' bt' own' p bt2 w0 heq
    cases heq
    obtain rfl : bt2 = bt := g3.2.1 rfl
    have hR : Rep C.T w (C.E N p) bt2 w0 cs := g3.1
    have put : ∀ {q : Nat} {u : IV}, q ≤ p → (∀ b, C.E N p b → C.E N q b) → Rep C.T w (C.E N q) (fs.getD j (0, 0)).1 u ds → RepV1 C N st.sh w bt2 (.a (.iv q bt2 (setf w0 j u))) (splice cs (fs.getD j (0, 0)).2 ds) := by
      intro q u _ hq hr
      have := (hR.mono hq (fun _ _ => rfl)).put ok.tab hpo hr
      exact ⟨this, fun _ => rfl, hsl, hso⟩
    split at hs
    · rename_i q t'' u
      cases hs
      obtain rfl : t'' = (fs.getD j (0, 0)).1 := ha
      have hy' : Rep C.T w (C.E N q) _ u ds := hy
      exact fin _ (put (mn_le p q).1 (fun b hb => Cx.E.anti ok (mn_le p q).1 hb) (hy'.mono (fun b hb => Cx.E.anti ok (mn_le p q).2 hb) (fun _ _ => rfl)))
    · rename_i k' n
      cases hs
      exact fin _ (put (Nat.le_refl _) (fun _ h => h) (by rw [show ds = [.int k' n] from hy]; exact .int hf))
    · rename_i n
      cases hs
      exact fin _ (put (Nat.le_refl _) (fun _ h => h) (by rw [show ds = [.bool n] from hy]; exact .bool hf))
    · rename_i n
      cases hs
      exact fin _ (put (Nat.le_refl _) (fun _ h => h) (by rw [show ds = [.string n] from hy]; exact .str hf))
    · cases hs
      exact fin _ ⟨rfl, (fields_sound ok ht hR).put ok ht hj hd hy (fun _ => ha) h1⟩
    · cases hs
  · rename_i xb' bt' own' bt2 l heq
    cases heq
    cases hs
    obtain ⟨rfl, hg⟩ := g3
    exact fin _ ⟨rfl, hg.put ok ht hj hd hy (fun _ => ha) h1⟩
  · cases hs
theorem iv1_sound {sh : Nat → Option Sh} {t : TypeId} {x : At} {p : Nat} {u : IV} {cs : List Value} (h : RepA C N sh w x cs) (hs : C.T.iv1 t x = some (p, u)) : Rep C.T w (C.E N p) t u cs := by
  unfold Tab.iv1 at hs
  split at hs
  · split at hs
    · rename_i ht
      split at hs
      · rename_i e; subst e; cases hs; rw [show cs = [.int _ _] from h]; exact .int ht
      · cases hs
    · cases hs
  · split at hs
    · rename_i ht; cases hs; rw [show cs = [.bool _] from h]; exact .bool ht
    · cases hs
  · split at hs
    · rename_i ht; cases hs; rw [show cs = [.string _] from h]; exact .str ht
    · cases hs
  · split at hs
    · rename_i e ht; cases hs; rw [show cs = [.slice none 0 0] from h]; exact .nil ht
    · cases hs
  · split at hs
    · rename_i e; subst e; cases hs; exact h
    · cases hs
  · cases hs
theorem freeze_iv (ok : C.Ok) {sh0 : Nat → Option Sh} (h : Rel C N st a w) {t : TypeId} {x y : At} {p : Nat} {u : IV} {cs : List Value} (hx : RepA C N sh0 w x cs) (hs : st.freeze1 C.T t x = some (st', y)) (hi : C.T.iv1 t y = some (p, u)) :
    ∃ N', Rel C N' st' a w ∧ Nm.le C N N' ∧ N'.β = N.β ∧ Rep C.T w (C.E N' p) t u cs := by
  have loose : ∀ {y : At}, (∀ k, ¬ y.uses k) → RepA C N sh0 w y cs → RepA C N st.sh w y cs := fun hu h => h.mono (fun _ _ h => h) (fun _ _ _ => rfl) (fun k hk => absurd hk (hu k))
  have hx' : RepA C N st.sh w x cs := by
    cases x with
    | own k =>
      refine ⟨hx.1, ?_⟩
      simp only [St.freeze1] at hs
      split at hs
      · rename_i e p e' l _ hk; exact ⟨e', by rw [St.sh, hk]; rfl⟩
      · cases hs
    | sub k n => simp [St.freeze1] at hs
    | ptr k q t' => simp only [St.freeze1, Option.some.injEq, Prod.mk.injEq] at hs; obtain ⟨rfl, rfl⟩ := hs; simp [Tab.iv1] at hi
    | fn f caps => simp only [St.freeze1, Option.some.injEq, Prod.mk.injEq] at hs; obtain ⟨rfl, rfl⟩ := hs; simp [Tab.iv1] at hi
    | _ => exact loose (fun k hk => hk) hx
  obtain ⟨N1, k1, k2, k3, _⟩ := freeze1_sound ok h hx' hs
  exact ⟨N1, k1, k3.1, k3.2, iv1_sound k2 hi⟩
theorem frozenL_sound (ok : C.Ok) {sh0 : Nat → Option Sh} : ∀ (fs : List (TypeId × Nat)) (l l' : List At) (win : Nat → List Value) (N : Nm) (st st' : St) (p : Nat) (vs : List IV), Rel C N st a w →
    (∀ i, i < l.length → RepA C N sh0 w (l.getD i .U) (win i)) → St.freezeL C.T st fs l = some (st', l') → C.T.ivL fs l' = some (p, vs) →
    ∃ N', Rel C N' st' a w ∧ Nm.le C N N' ∧ N'.β = N.β ∧ vs.length = fs.length ∧ ∀ i, i < fs.length → Rep C.T w (C.E N' p) (fs.getD i (0, 0)).1 (vs.getD i .N) (win i)
  | [], [], l', win, N, st, st', p, vs, h, hl, hs, hi => by
    simp only [St.freezeL, Option.some.injEq, Prod.mk.injEq] at hs
    obtain ⟨rfl, rfl⟩ := hs
    simp only [Tab.ivL, Option.some.injEq, Prod.mk.injEq] at hi
    obtain ⟨rfl, rfl⟩ := hi
    exact ⟨N, h, Nm.le.refl N, rfl, rfl, fun i hi => by simp at hi⟩
  | [], x :: l, l', win, N, st, st', p, vs, h, hl, hs, hi => by simp [St.freezeL] at hs
  | f :: fs, [], l', win, N, st, st', p, vs, h, hl, hs, hi => by simp [St.freezeL] at hs
  | (t, o) :: fs, x :: l, l', win, N, st, st', p, vs, h, hl, hs, hi => by
    simp only [St.freezeL] at hs
    rw [Option.bind_eq_some_iff] at hs
    obtain ⟨⟨s1, y⟩, h1, hs⟩ := hs
    simp only at hs
    rw [Option.bind_eq_some_iff] at hs
    obtain ⟨⟨s2, ys⟩, h2, hs⟩ := hs
    simp only [Option.some.injEq, Prod.mk.injEq] at hs
    obtain ⟨rfl, rfl⟩ := hs
    simp only [Tab.ivL] at hi
    rw [Option.bind_eq_some_iff] at hi
    obtain ⟨⟨q, u⟩, h3, hi⟩ := hi
    simp only at hi
    rw [Option.bind_eq_some_iff] at hi
    obtain ⟨⟨q2, us⟩, h4, hi⟩ := hi
    simp only [Option.some.injEq, Prod.mk.injEq] at hi
    obtain ⟨rfl, rfl⟩ := hi
    obtain ⟨N1, k1, k2, k3, k4⟩ := freeze_iv ok h (hl 0 (by simp)) h1 h3
    obtain ⟨N2, m1, m2, m3, m4, m5⟩ := frozenL_sound ok fs l ys (fun i => win (i + 1)) N1 s1 s2 q2 us k1 (fun i hi => by
      have := hl (i + 1) (by simp; omega)
      rw [show (x :: l).getD (i + 1) .U = l.getD i .U by simp [List.getD]] at this
      exact this.mono k2.E (fun _ _ _ => rfl) (fun k _ => ⟨by rw [k3], rfl⟩)) h2 h4
    refine ⟨N2, m1, k2.trans m2, m3.trans k3, by simp [m4], fun i hi => ?_⟩
    cases i with
    | zero =>
      show Rep _ _ _ t u (win 0)
      exact k4.mono (fun b hb => Cx.E.anti ok (mn_le q q2).1 (m2.E q b hb)) (fun _ _ => rfl)
    | succ i =>
      have := m5 i (by simp at hi; omega)
      rw [show ((t, o) :: fs).getD (i + 1) (0, 0) = fs.getD i (0, 0) by simp [List.getD], show (u :: us).getD (i + 1) .N = us.getD i .N by simp [List.getD]]
      exact this.mono (fun b hb => Cx.E.anti ok (mn_le q q2).2 hb) (fun _ _ => rfl)
theorem frozen_sound (ok : C.Ok) (h : Rel C N st a w) {t : TypeId} {v : V1} {val : Value} {p : Nat} {u : IV} (hv : SlotV C N st.sh w v val) (hs : St.frozen C.T st t v = some (st', p, u)) :
    ∃ N', Rel C N' st' a w ∧ Nm.le C N N' ∧ N'.β = N.β ∧ Rep C.T w (C.E N' p) t u val.cells.toList := by
  cases v with
  | a x =>
    simp only [St.frozen] at hs
    split at hs
    · rename_i hf
      rw [Option.bind_eq_some_iff] at hs
      obtain ⟨⟨s1, y⟩, h1, hs⟩ := hs
      simp only at hs
      rw [Option.bind_eq_some_iff] at hs
      obtain ⟨⟨q, u'⟩, h2, hs⟩ := hs
      simp only [Option.some.injEq, Prod.mk.injEq] at hs
      obtain ⟨rfl, rfl, rfl⟩ := hs
      exact freeze_iv ok h (slot_cells ok h.slices hf hv) h1 h2
    · cases hs
  | g t' l =>
    simp only [St.frozen] at hs
    split at hs
    · rename_i e; subst e
      split at hs
      · rename_i fs ht
        rw [Option.bind_eq_some_iff] at hs
        obtain ⟨⟨s1, l2⟩, h1, hs⟩ := hs
        simp only at hs
        rw [Option.bind_eq_some_iff] at hs
        obtain ⟨⟨q, vs⟩, h2, hs⟩ := hs
        simp only [Option.some.injEq, Prod.mk.injEq] at hs
        obtain ⟨rfl, rfl, rfl⟩ := hs
        obtain ⟨cs, ⟨fs', g1, g2, g3, g4, g5⟩, hv2⟩ := hv
        rw [ht] at g1; cases g1
        obtain ⟨N1, m1, m2, m3, m4, m5⟩ := frozenL_sound ok (sh0 := st.sh) fs l l2 _ N st s1 q vs h (fun i hi => (g5 i hi).1) h1 h2
        refine ⟨N1, m1, m2, m3, ?_⟩
        rw [hv2]
        exact .agg ht m4 (by simpa [Value.cells] using g3) (by simpa [Value.cells] using g4) (fun j hj => by simpa [Value.cells] using m5 j (by omega))
      · cases hs
    · cases hs
theorem putElem_sound (ok : C.Ok) (h : Rel C N st a w) {k i b q' : Nat} {q : List Nat} {e : TypeId} {o : Nat} {t : TypeId} {u : IV} {ds : List Value} (hh : ∃ cur, w.heap[b]? = some (.cells cur e (0, 0))) (hb : blk (N.β k) = some b) (hp : pathOff C.T e q = some (o, t))
    (hu : Rep C.T w (C.E N q') t u ds) (hs : st.putElem k i q q' u = some st') :
    ∃ cur e', w.heap[b]? = some (.cells cur e' (0, 0)) ∧ i * C.T.sz e + o + C.T.sz t ≤ cur.size ∧ Rel C N st' a (w.setRow b (splice cur.toList (i * C.T.sz e + o) ds).toArray) := by
  unfold St.putElem at hs
  split at hs
  · rename_i p e' l hk
    obtain rfl : e' = e := by
      obtain ⟨_, _, cf, _, q⟩ := h.rows k _ hk
      obtain ⟨cur, hh⟩ := hh
      rcases q.2 with ⟨q, _⟩ | ⟨g, cap, cur2, q, _, hg, _⟩
      · rw [q] at hb; cases hb
      · obtain rfl : g = b := by rw [q] at hb; simpa [blk] using hb
        rw [hh] at hg; cases hg; rfl
    split at hs
    · rename_i hi
      cases hs
      obtain ⟨q1, q2, cf, q3, q4⟩ := h.rows k _ hk
      have hl : ∀ i, i < l.length → (cf i).length = C.T.sz e' := fun i hi => (q3 i hi).len ok.tab
      have hle := pathOff_le ok.tab hp
      have hdl := hu.len ok.tab
      rcases q4.2 with ⟨e1, e2⟩ | ⟨g, cap, cur, e1, _, hg, hnc, hcm, hcs, htk⟩
      · rw [e1] at hb; cases hb
      · obtain rfl : g = b := by rw [e1] at hb; simpa [blk] using hb
        have hil : i * C.T.sz e' + C.T.sz e' ≤ l.length * C.T.sz e' := by
          have := Nat.mul_le_mul_right (C.T.sz e') (show i + 1 ≤ l.length by omega)
          rwa [Nat.succ_mul] at this
        have hcap := Nat.mul_le_mul_right (C.T.sz e') hnc
        have hfit : i * C.T.sz e' + o + ds.length ≤ cur.size := by omega
        refine ⟨cur, e', hg, by omega, ?_⟩
        have hw : ∀ j, blk (N.β k) ≠ some j → (w.setRow g (splice cur.toList (i * C.T.sz e' + o) ds).toArray).heap[j]? = w.heap[j]? := fun j hj => setRow_other w g j _ (fun e => hj (by rw [hb, e]))
        have hE : ∀ p i2, C.E N p i2 → (w.setRow g (splice cur.toList (i * C.T.sz e' + o) ds).toArray).heap[i2]? = w.heap[i2]? := fun p i2 hi2 => hw i2 (fun e => h.eown ok (by rw [hk]; rfl) e hi2)
        refine h.wr ok hk (r' := .arr (mn p q') e' (l.set i (putp (l.getD i .N) q u))) rfl hw (by simp [World.setRow]) rfl rfl rfl ?_
        refine ⟨q1, q2, fun j => if j = i then splice (cf i) o ds else cf j, fun j hj => ?_, ?_⟩
        · rw [List.length_set] at hj
          by_cases ej : j = i
          · subst ej
            show Rep _ _ _ _ _ (if j = j then _ else _)
            rw [if_pos rfl, show (l.set j (putp (l.getD j .N) q u)).getD j .N = putp (l.getD j .N) q u by simp [List.getD, hj]]
            exact (((q3 j hj).mono (fun b hb => Cx.E.anti ok (mn_le p q').1 hb) (fun _ _ => rfl)).put ok.tab hp (hu.mono (fun b hb => Cx.E.anti ok (mn_le p q').2 hb) (fun _ _ => rfl))).mono (fun _ h => h) (hE _)
          · show Rep _ _ _ _ _ (if j = i then _ else _)
            rw [if_neg ej, show (l.set i (putp (l.getD i .N) q u)).getD j .N = l.getD j .N by simp [List.getD, List.getElem?_set, show ¬ i = j from fun h => ej h.symm]]
            exact (q3 j hj).mono (fun b hb => Cx.E.anti ok (mn_le p q').1 hb) (hE _)
        · have hl2 : ∀ j, j < l.length → ((fun j => if j = i then splice (cf i) o ds else cf j) j).length = C.T.sz e' := by
            intro j hj
            simp only
            split
            · rename_i ej; subst ej; rw [splice_length (by rw [hl j hj]; omega)]; exact hl j hj
            · exact hl j hj
          have hsp : (splice cur.toList (i * C.T.sz e' + o) ds).length = cur.size := by rw [splice_length (by simpa using hfit)]; simp
          refine ⟨by rw [List.length_set, flat_length hl2], .inr ⟨g, cap, _, by rw [e1, List.length_set], Nat.zero_le _, setRow_heap w g cur _ e' _ hg, by rw [List.length_set]; exact hnc, hcm, by simp [hsp, hcs], ?_⟩⟩
          rw [List.length_set]
          apply List.ext_getElem?
          intro x
          show (List.take _ (splice cur.toList (i * C.T.sz e' + o) ds))[x]? = _
          by_cases hx : x < l.length * C.T.sz e'
          · have hz : 0 < C.T.sz e' := q1
            have hx1 : x / C.T.sz e' < l.length := (Nat.div_lt_iff_lt_mul hz).2 hx
            have hx2 : x % C.T.sz e' < C.T.sz e' := Nat.mod_lt _ hz
            have hx3 : x = x / C.T.sz e' * C.T.sz e' + x % C.T.sz e' := by rw [Nat.mul_comm]; exact (Nat.div_add_mod x _).symm
            have hold := flat_get hl hx1 hx2
            rw [← htk, ← hx3, List.getElem?_take, if_pos hx] at hold
            have hnew := flat_get hl2 hx1 hx2
            rw [← hx3] at hnew
            rw [hnew, List.getElem?_take, if_pos hx, splice_get (by simpa using hfit)]
            by_cases ej : x / C.T.sz e' = i
            · rw [if_pos ej, splice_get (by rw [hl i hi]; omega)]
              subst ej
              by_cases hc : o ≤ x % C.T.sz e' ∧ x % C.T.sz e' < o + ds.length
              · rw [if_pos hc, if_pos (by omega)]; congr 1; omega
              · rw [if_neg hc, if_neg (by omega)]; exact hold
            · rw [if_neg ej, if_neg, hold]
              rintro ⟨h8, h9⟩
              rcases Nat.lt_or_gt_of_ne ej with hlt | hlt
              · have := Nat.mul_le_mul_right (C.T.sz e') (show x / C.T.sz e' + 1 ≤ i by omega)
                rw [Nat.succ_mul] at this; omega
              · have := Nat.mul_le_mul_right (C.T.sz e') (show i + 1 ≤ x / C.T.sz e' by omega)
                rw [Nat.succ_mul] at this; omega
          · rw [List.getElem?_take, if_neg hx, List.getElem?_eq_none (by rw [flat_length hl2]; omega)]
    · cases hs
  · cases hs
theorem freeze_fit {t : TypeId} {x y : At} (hf : st.fits C.T t x = true) (hs : st.freeze1 C.T t x = some (st', y)) : y.isU = false ∧ y.tyAt C.T t ∧ y.basic C.T t := by
  unfold St.fits at hf
  split at hf
  · rename_i k n k' ht
    simp only [St.freeze1, Option.some.injEq, Prod.mk.injEq] at hs; obtain ⟨rfl, rfl⟩ := hs
    obtain rfl : k = k' := by simpa using hf
    exact ⟨rfl, by simp [At.tyAt, isAgg, ht], ht⟩
  · rename_i ht
    simp only [St.freeze1, Option.some.injEq, Prod.mk.injEq] at hs; obtain ⟨rfl, rfl⟩ := hs
    exact ⟨rfl, by simp [At.tyAt, isAgg, ht], ht⟩
  · rename_i ht
    simp only [St.freeze1, Option.some.injEq, Prod.mk.injEq] at hs; obtain ⟨rfl, rfl⟩ := hs
    exact ⟨rfl, by simp [At.tyAt, isAgg, ht], ht⟩
  · rename_i ht
    simp only [St.freeze1, ht, Option.some.injEq, Prod.mk.injEq] at hs; obtain ⟨rfl, rfl⟩ := hs
    exact ⟨rfl, rfl, trivial⟩
  · rename_i ht
    simp only [St.freeze1, Option.some.injEq, Prod.mk.injEq] at hs; obtain ⟨rfl, rfl⟩ := hs
    exact ⟨rfl, by simp [At.tyAt, isAgg, ht], trivial⟩
  · rename_i ht
    simp only [St.freeze1, Option.some.injEq, Prod.mk.injEq] at hs; obtain ⟨rfl, rfl⟩ := hs
    exact ⟨rfl, by simp [At.tyAt, isAgg, ht], trivial⟩
  · rename_i ht
    simp only [St.freeze1] at hs
    split at hs
    · split at hs
      · simp only [Option.some.injEq, Prod.mk.injEq] at hs; obtain ⟨rfl, rfl⟩ := hs
        exact ⟨rfl, rfl, trivial⟩
      · cases hs
    · cases hs
  · rename_i p t' v
    simp only [St.freeze1, Option.some.injEq, Prod.mk.injEq] at hs; obtain ⟨rfl, rfl⟩ := hs
    exact ⟨rfl, of_decide_eq_true (p := t' = t) hf, trivial⟩
  · cases hf
theorem setBox_fit (ok : C.Ok) (h : Slices N st) {k : Nat} {t : TypeId} {own : List Nat} {v : V1} {val : Value} (hv : SlotV C N st.sh w v val) (hs : St.setBox C.T st k t own v = some st') :
    val.cells.toList.length = C.T.sz t ∧ (∀ u ∈ val.cells.toList, u.oneCell' = true) ∧ C.T.ty t ≠ .no := by
  have key : ∀ {x : At}, SlotV C N st.sh w (.a x) val → st.fits C.T t x = true → val.cells.toList.length = C.T.sz t ∧ (∀ u ∈ val.cells.toList, u.oneCell' = true) ∧ C.T.ty t ≠ .no := by
    intro x hv hf
    obtain ⟨g1, g2, _, _, g3⟩ := fits_cells ok h hf (slot_cells ok h hf hv)
    exact ⟨g1, g2, g3⟩
  have one : ∀ {x : At} {s : St}, st.setBox1 C.T k t x = some s → st.fits C.T t x = true := by
    intro x s h1; unfold St.setBox1 at h1; split at h1; assumption; cases h1
  unfold St.setBox at hs
  split at hs
  · rename_i fs ht
    split at hs
    · exact key hv (one hs)
    · unfold St.setBoxG at hs
      split at hs
      · rename_i hty
        cases v with
        | a x =>
          cases x with
          | iv p t' u => exact key hv (by simpa [St.fits, V1.isTy] using hty)
          | _ => simp [V1.isTy] at hty
        | g t' l =>
          obtain rfl : t' = t := by simpa [V1.isTy] using hty
          obtain ⟨cs, ⟨fs', g1, g2, g3, g4, g5⟩, hv2⟩ := hv
          rw [hv2]
          exact ⟨by simpa [Value.cells] using g3, by simpa [Value.cells] using g4, by simp [ht]⟩
      · cases hs
  · rename_i e ht
    split at hs
    · exact key hv (one hs)
    · split at hs
      · rename_i hf; exact key hv hf
      · cases hs
    · exact key hv (by simp [St.fits, ht])
    · split at hs
      · rename_i he; exact key hv (by simp [St.fits, he.1])
      · cases hs
    · cases hs
  · cases hs
  · split at hs
    · exact key hv (one hs)
    · cases hs
theorem store_sound (ok : C.Ok) (h : Rel C N st a w) {t : TypeId} {x : At} {y : Operand} {v : V1} {p : Value} (hx : SlotV C N st.sh w (.a x) p) (hy : st.get y = .v v) (hs : st.store C.T t x v = some st') :
    ∃ N' w', (Instr.storeAt t p (a.eval y)).run C.P w = .ok () w' ∧ Rel C N' st' a w' := by
  unfold St.store at hs
  split at hs
  · rename_i k path t'
    split at hs
    · rename_i e; subst e
      obtain ⟨cs, ⟨b, off, s, h1, h2, h3, h4⟩, h5⟩ := slot_single hx rfl rfl
      rw [h4] at h5
      have hv : SlotV C N st.sh w v (a.eval y) := by have := h.get y; rw [hy] at this; exact this
      subst h5
      simp only [List.headD_cons, Instr.storeAt, Instr.sureAddr, Sem.run_bind, Sem.run_pure, Result.andThen_ok]
      split at hs
      · rename_i xb bt own c hk
        obtain ⟨b', cs0, g1, g2, g3, g4, g5⟩ := h.rows k _ hk
        have : b' = b := by rw [g1] at h3; simpa [blk] using h3
        subst this
        rw [St.sh, hk] at h1
        cases h1
        simp only [PtrOk, pathOff, Option.some.injEq, Prod.mk.injEq] at h2
        obtain ⟨rfl, rfl⟩ := h2
        have hcl : cs0.length = C.T.sz t := by
          cases c with
          | a x => exact g3.2.2.1
          | g t' l => obtain ⟨fs', _, _, q1, _⟩ := g3.2; exact q1
        have hbl := h.blur ok k
        have hvb : SlotV C N (st.blur k).sh w v (a.eval y) := by
          have := hbl.get y
          have e : (st.blur k).get y = st.get y := by cases y <;> (unfold St.blur; split <;> rfl)
          rw [e, hy] at this; exact this
        obtain ⟨f1, f2, f3⟩ := setBox_fit ok hbl.slices hvb hs
        have hrun := run_storeVar' (C := C) (w := w) ok.tab f3 (o := 0) (v := a.eval y) g2 (by simpa using f1) (by simp [hcl]) f2
        have e2 : splice cs0.toArray.toList 0 (a.eval y).cells.toList = (a.eval y).cells.toList := by
          simp only [splice, List.take_zero, List.nil_append, Nat.zero_add]
          rw [List.drop_eq_nil_of_le (by rw [f1]; simp [hcl]), List.append_nil]
        rw [e2] at hrun
        obtain ⟨k1, k2⟩ := h.poke ok hk g1 (cs := (a.eval y).cells.toList) f1 f2
        have hv2 : SlotV C N (st.blur k).sh (w.setRow b' (a.eval y).cells.toList.toArray) v (a.eval y) := by
          have := k1.get y
          have e : (st.blur k).get y = st.get y := by cases y <;> (unfold St.blur; split <;> rfl)
          rw [e, hy] at this; exact this
        obtain ⟨N2, m1, m2, _⟩ := setBox_sound ok k1 g1 k2 hv2 rfl hs
        exact ⟨N2, _, hrun, m1⟩
      · rename_i xb bt own c j hk
        obtain ⟨b', cs0, g1, g2, g3, g4, g5⟩ := h.rows k _ hk
        have : b' = b := by rw [g1] at h3; simpa [blk] using h3
        subst this
        rw [St.sh, hk] at h1
        cases h1
        replace h2 : pathOff C.T bt [j] = some (off, t) := h2
        simp only [pathOff] at h2
        split at h2
        · rename_i fs hfs
          rw [Option.bind_eq_some_iff] at h2
          obtain ⟨f, hf, h2⟩ := h2
          simp only [Option.map_some, Option.some.injEq, Prod.mk.injEq] at h2
          obtain ⟨rfl, rfl⟩ := h2
          have hj := (List.getElem?_eq_some_iff.1 hf).1
          have e : fs.getD j (0, 0) = f := by simp [List.getD, hf]
          split at hs
          · rename_i x'
            split at hs
            · rename_i hfit
              have hsl := slot_cells ok h.slices hfit hv
              obtain ⟨f1, f2, f3, f4, f5⟩ := fits_cells ok h.slices hfit hsl
              have fin : ∀ {N1 : Nm} {s1 : St} {y' : At}, Rel C N1 s1 a w → N1.β k = N.β k → RepA C N1 s1.sh w y' (a.eval y).cells.toList → y'.isU = false → y'.tyAt C.T f.1 → y'.basic C.T f.1 →
                  s1.putField C.T k j y' = some st' → ∃ N' w', (storeVar f.1 ⟨b', f.2, none⟩ (a.eval y)).run C.P w = .ok () w' ∧ Rel C N' st' a w' := by
                intro N1 s1 y' k1 k2 k3 k4 k5 k6 k7
                obtain ⟨cs1, m1, m2, m3⟩ := putField_sound ok k1 (k := k) (j := j) ⟨_, g2⟩ (by rw [k2]; exact g1) hfs hj (by rw [e]; exact f1) k3 k4 (by rw [e]; exact k5) (by rw [e]; exact k6) f2 k7
                rw [e] at m3
                have tj := ok.tab.tile bt fs hfs j hj
                rw [e] at tj
                exact ⟨N1, _, run_storeVar' ok.tab f5 m1 (by simpa using f1) (by simp [m2]; exact tj.2.1) f2, m3⟩
              have loose : ∀ {N1 : Nm} {s1 : St}, Nm.le C N N1 → (∀ i, ¬ x'.uses i) → RepA C N1 s1.sh w x' (a.eval y).cells.toList := fun hle hu => hsl.mono hle.E (fun _ _ _ => rfl) (fun i hi => absurd hi (hu i))
              split at hs
              · rename_i hown
                split at hs
                · rename_i k0
                  have hex : ∃ e, C.T.ty f.1 = .slice e ∧ ∃ p l, st.row k0 = some (.arr p e l) := by
                    cases hty : C.T.ty f.1 <;> simp only [St.fits, hty] at hfit <;> first | cases hfit | skip
                    cases hr : st.row k0 with
                    | none => rw [hr] at hfit; cases hfit
                    | some r => cases r with
                      | box => rw [hr] at hfit; cases hfit
                      | arr p e' l =>
                        rw [hr] at hfit
                        obtain rfl := of_decide_eq_true hfit
                        exact ⟨_, rfl, p, l, rfl⟩
                  obtain ⟨e9, he9, p9, l9, hr9⟩ := hex
                  have hmv := h.move (k' := k + 1 + j) ok hr9
                  exact fin (y' := .own (k + 1 + j)) hmv (by simp only [Nm.upd]; rw [if_neg (by omega)]) ⟨by simp only [Nm.upd, if_true]; exact hsl.1, e9, by rw [St.sh, moveRow_row hr9]; rfl⟩ rfl (by simp [At.tyAt, isAgg, he9]) trivial hs
                · split at hs
                  · rename_i he
                    obtain ⟨he1, he2⟩ := okE_iff he
                    have hex : ∃ e, C.T.ty f.1 = .slice e := by
                      cases hty : C.T.ty f.1 <;> simp only [St.fits, hty] at hfit <;> first | cases hfit | skip
                      exact ⟨_, rfl⟩
                    obtain ⟨e9, he9⟩ := hex
                    have hno := h.noRow (k := k + 1 + j) ok he1 he2
                    exact fin (y' := .own (k + 1 + j)) hno (by simp only [Nm.upd]; rw [if_neg (by omega)]) ⟨by simp only [Nm.upd, if_true]; exact hsl, _, by rw [St.sh, St.noRow, St.row_put, if_pos rfl]; rfl⟩ rfl (by simp [At.tyAt, isAgg, he9]) trivial hs
                  · cases hs
                · rename_i p' t'
                  split at hs
                  · rename_i e9 he9
                    split at hs
                    · rename_i he
                      obtain ⟨he1, he2⟩ := okE_iff he
                      have hno := h.noRow (k := k + 1 + j) ok he1 he2
                      have hsl' : Rep _ _ _ _ _ _ := hsl
                      obtain rfl : t' = f.1 := f4
                      have hcs : (a.eval y).cells.toList = [.slice none 0 0] := by
                        generalize (a.eval y).cells.toList = zs at hsl'
                        cases hsl' with
                        | nil _ => rfl
                        | fn h9 => rw [he9] at h9; cases h9
                        | ptr h9 => rw [he9] at h9; cases h9
                      exact fin (y' := .own (k + 1 + j)) hno (by simp only [Nm.upd]; rw [if_neg (by omega)]) ⟨by simp only [Nm.upd, if_true]; exact hcs, _, by rw [St.sh, St.noRow, St.row_put, if_pos rfl]; rfl⟩ rfl (by simp [At.tyAt, isAgg, he9]) trivial hs
                    · cases hs
                  · have hkl := h.kill (k + 1 + j)
                    exact fin (y' := .iv p' t' .N) hkl rfl (loose (Nm.le.refl N) (fun i hi => hi)) rfl f4 trivial hs
                · rename_i p' t' v' _
                  have hkl := h.kill (k + 1 + j)
                  exact fin (y' := .iv p' t' v') hkl rfl (loose (Nm.le.refl N) (fun i hi => hi)) rfl f4 trivial hs
                · cases hs
              · rw [Option.bind_eq_some_iff] at hs
                obtain ⟨⟨s1, y'⟩, r1, hs⟩ := hs
                obtain ⟨N1, m1, m2, m3, _⟩ := freeze1_sound ok h hsl r1
                obtain ⟨q1, q2, q3⟩ := freeze_fit hfit r1
                exact fin m1 (by rw [m3.2]) m2 q1 q2 q3 hs
            · cases hs
          · cases hs
        · cases h2
      · rename_i p e l i q hk
        rw [Option.bind_eq_some_iff] at hs
        obtain ⟨⟨s1, q', u⟩, r1, hs⟩ := hs
        obtain ⟨N1, m1, m2, m3, m4⟩ := frozen_sound ok h hv r1
        have hr := h.rows k _ hk
        rw [St.sh, hk] at h1
        cases h1
        obtain ⟨i', q2, o, e1, h2, h6⟩ := h2
        simp only [List.cons.injEq] at e1
        obtain ⟨rfl, rfl⟩ := e1
        obtain ⟨_, _, cf, _, q9⟩ := hr
        have hh : ∃ cur, w.heap[b]? = some (.cells cur e (0, 0)) := by
          rcases q9.2 with ⟨q8, _⟩ | ⟨g, cap, cur2, q8, _, hg, _⟩
          · rw [q8] at h3; cases h3
          · obtain rfl : g = b := by rw [q8] at h3; simpa [blk] using h3
            exact ⟨_, hg⟩
        obtain ⟨cur, e', n1, n2, n3⟩ := putElem_sound ok m1 hh (by rw [m3]; exact h3) h2 m4 hs
        refine ⟨N1, _, ?_, n3⟩
        rw [h6]
        exact run_storeVar' ok.tab m4.ty n1 (by simpa using m4.len ok.tab) n2 m4.one
      · cases hs
    · cases hs
  · cases hs
end
end Go.Ev
end
section
set_option linter.unusedVariables false
set_option linter.unusedSimpArgs false
namespace Go.Ev
open Go.RowKit
section
variable {C : Cx} {N N' : Nm} {st st' : St} {a : Act} {w w' : World} {o : Oper} {K : Act → World → Prop} {Q : Exit → Act → World → Prop} {c : V1} {v : Value}
theorem Rel.alloc (ok : C.Ok) (h : Rel C N st a w) (x : Obj) : Rel C N st a (w.alloc x) := h.grow ok ((Below.refl _ w).alloc (Nat.le_refl _) x)
theorem Rel.fresh (ok : C.Ok) (h : Rel C N st a w) : (C.X w.heap.size ∨ C.w0.heap.size ≤ w.heap.size) ∧ ¬ N.Fz w.heap.size ∧ ∀ j, (st.row j).isSome → blk (N.β j) ≠ some w.heap.size :=
  ⟨.inr h.frm.size, fun hz => absurd (h.frm.fz _ hz).2 (by omega), fun j hj e => absurd (h.frm.own j _ hj e).2.2 (by omega)⟩
theorem SlotV.kill (h : SlotV C N st.sh w c v) (k : Nat) : SlotV C N (st.kill k).sh w (c.map (At.kill k)) v := by
  have L : Lift C N N st.sh (st.kill k).sh w w (fun _ => True) (At.kill k) := Lift.keep (fun _ _ h => h) (fun _ _ _ => rfl) (At.kill_or k) (fun j x hj => ⟨rfl, by rw [St.sh_kill, if_neg (At.kill_uses hj).2]⟩)
  exact L.slotV (fun _ _ => trivial) h
theorem kill_some {k j : Nat} (h : ((st.kill k).row j).isSome) : (st.row j).isSome ∧ j ≠ k := by
  rw [St.row_kill] at h
  split at h
  · cases h
  · rename_i e; exact ⟨by simpa using h, e⟩
theorem newBox_sound (ok : C.Ok) (h : Rel C N st a w) {hh : Hint} {t : TypeId} {v : V1} {val : Value} (hv : SlotV C N st.sh w v val) (hs : st.newBox C.T hh t v = some st') :
    ∃ N', Rel C N' st' a (w.alloc (.cells val.cells t)) ∧ N'.β hh.key = .pointer (some ⟨w.heap.size, 0, none⟩) ∧ st'.sh hh.key = some (.box t) := by
  unfold St.newBox at hs
  have h1 := (h.alloc ok (.cells val.cells t)).kill hh.key
  have hf := St.kill_free st hh.key
  have hv1 : SlotV C N (st.kill hh.key).sh (w.alloc (.cells val.cells t)) (v.map (At.kill hh.key)) val :=
    (hv.kill hh.key).mono (fun _ _ h => h) (fun p b hb => ((Below.refl _ w).alloc (Nat.le_refl _) (.cells val.cells t)).block b (h.elt ok hb)) (fun _ _ => ⟨rfl, rfl⟩)
  have hv2 : SlotV C (N.upd hh.key (.pointer (some ⟨w.heap.size, 0, none⟩))) ((st.kill hh.key).putRow hh.key (some (.box false t hh.own (.a .U)))).sh (w.alloc (.cells val.cells t)) (v.map (At.kill hh.key)) val := by
    refine SlotV.mono (N := N) (N' := N.upd hh.key (.pointer (some ⟨w.heap.size, 0, none⟩))) (sh := (st.kill hh.key).sh) (fun _ _ h => h) (fun _ _ _ => rfl) (fun k hk => ?_) hv1
    obtain ⟨x, hx⟩ := V1.map_uses hk
    have e := (At.kill_uses hx).2
    exact ⟨by simp [Nm.upd, e], by rw [St.sh_put, if_neg e]⟩
  have hr := h.fresh ok
  obtain ⟨f1, f2, f3⟩ := setBox_fit ok (N := N.upd hh.key (.pointer (some ⟨w.heap.size, 0, none⟩))) (fun k p e l hk => by
    rw [St.row_put] at hk
    split at hk
    · cases hk
    · rename_i e1; simp only [Nm.upd, if_neg e1]; exact h1.slices k p e l hk) hv2 hs
  have hb : (w.alloc (.cells val.cells t)).heap[w.heap.size]? = some (.cells val.cells.toList.toArray t (0, 0)) := by rw [heap_alloc_new]
  have h2 := h1.new (k := hh.key) (v := .pointer (some ⟨w.heap.size, 0, none⟩)) (r := .box false t hh.own (.a .U)) ok hf
    ⟨w.heap.size, val.cells.toList, by simp [Nm.upd], hb, ⟨trivial, fun h => (by cases h), f1, f2⟩, f3, fun h => (by cases h)⟩
    (fun b hb2 => by
      obtain rfl : w.heap.size = b := by simpa [blk] using hb2
      exact ⟨hr.1, hr.2.1, by simp, fun j hj => hr.2.2 j (kill_some hj).1⟩)
  obtain ⟨N2, m1, m2, m3, m4⟩ := setBox_sound ok h2 (by simp [Nm.upd]) hb hv2 rfl hs
  exact ⟨N2, m1, by rw [m3]; simp [Nm.upd], m4⟩
theorem placeArr_sound (ok : C.Ok) (h : Rel C N st a w) {hh : Option Hint} {t e p : Nat} {l : List IV} {v : Value} {cf : Nat → List Value} {y : At} (ht : C.T.ty t = .slice e) (he : C.T.okE e = true)
    (hr : ∀ i, i < l.length → Rep C.T w (C.E N p) e (l.getD i .N) (cf i)) (ho : w.ownsRow 0 e (C.T.sz e) v l.length ((List.range l.length).flatMap cf))
    (hb : ∀ b, blk v = some b → (C.X b ∨ C.w0.heap.size ≤ b) ∧ ¬ N.Fz b ∧ b < w.heap.size ∧ ∀ j, (st.row j).isSome → blk (N.β j) ≠ some b) (hs : st.placeArr hh t p e l = (st', y)) :
    ∃ N', Rel C N' st' a w ∧ SlotV C N' st'.sh w (.a y) v := by
  obtain ⟨he1, he2⟩ := okE_iff he
  have hone : ∃ c, mkV false [v] = c ∧ c = v := ⟨v, rfl, rfl⟩
  cases hh with
  | some hh =>
    simp only [St.placeArr, Prod.mk.injEq] at hs
    obtain ⟨rfl, rfl⟩ := hs
    have h1 := h.kill hh.key
    have h2 := h1.new (k := hh.key) (v := v) (r := .arr p e l) ok (St.kill_free st hh.key) ⟨he1, he2, cf, hr, by simpa [Nm.upd] using ho⟩ (fun b hb2 => by
      obtain ⟨x1, x2, x3, x4⟩ := hb b hb2
      exact ⟨x1, x2, x3, fun j hj => x4 j (kill_some hj).1⟩)
    refine ⟨_, h2, fun _ => ⟨[v], ⟨by simp [Nm.upd], e, by rw [St.sh, St.newRow, St.row_put, if_pos rfl]; rfl⟩, rfl⟩⟩
  | none =>
    simp only [St.placeArr, Prod.mk.injEq] at hs
    obtain ⟨rfl, rfl⟩ := hs
    refine ⟨{ N with Fz := fun b => N.Fz b ∨ blk v = some b }, ?_, fun _ => ⟨[v], ?_, by simp [mkV, At.agg, isAgg, ht]⟩⟩
    · have hE : ∀ p b, C.E N p b → C.E { N with Fz := fun b => N.Fz b ∨ blk v = some b } p b := fun p b hb => hb.imp id .inl
      have L : Lift C N { N with Fz := fun b => N.Fz b ∨ blk v = some b } st.sh st.sh w w (fun _ => True) (fun x => x) := Lift.keep hE (fun _ _ _ => rfl) (fun x => .inl rfl) (fun _ _ _ => ⟨rfl, rfl⟩)
      have em : st.env = st.env.map (SV.map fun x => x) := by rw [show SV.map (fun x => x) = id from funext SV.map_id, List.map_id]
      refine h.lift L em (fun _ _ _ => trivial) (fun k r hr => ?_) ?_
      · have := L.row hE (fun _ _ _ => rfl) (k := k) rfl (fun _ _ => rfl) (fun _ _ => trivial) (h.rows k r hr)
        rwa [row_map_id] at this
      · refine { h.frm with own := fun k b h1 h2 => ?_, fz := fun b hz => ?_ }
        · obtain ⟨x, y, z⟩ := h.frm.own k b h1 h2
          refine ⟨x, fun hz => ?_, z⟩
          rcases hz with hz | hz
          · exact y hz
          · exact (hb b hz).2.2.2 k h1 h2
        · rcases hz with hz | hz
          · exact h.frm.fz b hz
          · exact ⟨(hb b hz).1, (hb b hz).2.2.1⟩
    · exact Rep.of_owns ht ok.tab (fun b hb => hb.imp id .inl) hr ho (fun b hb => .inr (.inr hb))
end
end Go.Ev
end
section
set_option linter.unusedVariables false
set_option linter.unusedSimpArgs false
namespace Go.Ev
open Go.RowKit
section
variable {C : Cx} {N N' : Nm} {st st' : St} {a : Act} {w w' : World} {o : Oper} {K : Act → World → Prop} {Q : Exit → Act → World → Prop} {c : V1} {v : Value}
def Sound (C : Cx) (o : Oper) (st st' : St) : Prop :=
  ∀ ⦃N : Nm⦄ ⦃a : Act⦄ ⦃w : World⦄ ⦃K : Act → World → Prop⦄ ⦃Q : Exit → Act → World → Prop⦄, Rel C N st a w → (∀ N' a' w', Rel C N' st' a' w' → K a' w') → o.wp C.P a w K Q
theorem get1_slot (h : Rel C N st a w) {x : Operand} {y : At} (hg : get1 st x = some y) : SlotV C N st.sh w (.a y) (a.eval x) := by
  unfold get1 at hg
  have h1 := h.get x
  split at hg
  · rename_i z hz; cases hg; rw [hz] at h1; exact h1
  · cases hg
theorem getI_val (h : Rel C N st a w) {x : Operand} {k : IntKind} {n : Int} (hg : getI st x = some (k, n)) : a.eval x = .int k n := by
  unfold getI at hg
  have h1 := h.get x
  split at hg
  · rename_i k' n' hz
    cases hg
    rw [hz] at h1
    obtain ⟨cs, h2, h3⟩ := h1 rfl
    rw [h3, show cs = [.int k n] from h2]; rfl
  · cases hg
theorem slot_int {sh : Nat → Option Sh} {k : IntKind} {n : Int} (h : SlotV C N sh w (.a (.int k n)) v) : v = .int k n := by
  obtain ⟨cs, h2, h3⟩ := h rfl
  rw [h3, show cs = [.int k n] from h2]; rfl
theorem slot_bool {sh : Nat → Option Sh} {b : Bool} (h : SlotV C N sh w (.a (.bool b)) v) : v = .bool b := by
  obtain ⟨cs, h2, h3⟩ := h rfl
  rw [h3, show cs = [.bool b] from h2]; rfl
theorem slot_str {sh : Nat → Option Sh} {s : ByteArray} (h : SlotV C N sh w (.a (.str s)) v) : v = .string s := by
  obtain ⟨cs, h2, h3⟩ := h rfl
  rw [h3, show cs = [.string s] from h2]; rfl
theorem slot_nil {sh : Nat → Option Sh} (h : SlotV C N sh w (.a .nil) v) : v = .slice none 0 0 := by
  obtain ⟨cs, h2, h3⟩ := h rfl
  rw [h3, show cs = [.slice none 0 0] from h2]; rfl
theorem slot_own {sh : Nat → Option Sh} {k : Nat} (h : SlotV C N sh w (.a (.own k)) v) : v = N.β k := by
  obtain ⟨cs, h2, h3⟩ := h rfl
  rw [h3, h2.1]; rfl
theorem slot_sub {sh : Nat → Option Sh} {k n : Nat} (h : SlotV C N sh w (.a (.sub k n)) v) : ∃ a len cap, N.β k = .slice a len cap ∧ n ≤ cap ∧ v = .slice a n cap := by
  obtain ⟨cs, ⟨⟨a, len, cap, h2, h4, h5⟩, _⟩, h3⟩ := h rfl
  exact ⟨a, len, cap, h2, h4, by rw [h3, h5]; rfl⟩
theorem slot_iv {sh : Nat → Option Sh} {p t : Nat} {u : IV} (h : SlotV C N sh w (.a (.iv p t u)) v) : ∃ cs, Rep C.T w (C.E N p) t u cs ∧ v = mkV (isAgg C.T t) cs := by
  obtain ⟨cs, h2, h3⟩ := h rfl
  exact ⟨cs, h2, h3⟩
theorem of_int {sh : Nat → Option Sh} {k : IntKind} {n : Int} : Slot C N sh w (.v (.a (.int k n))) (.int k n) := fun _ => ⟨_, rfl, rfl⟩
theorem of_bool {sh : Nat → Option Sh} {b : Bool} : Slot C N sh w (.v (.a (.bool b))) (.bool b) := fun _ => ⟨_, rfl, rfl⟩
theorem of_str {sh : Nat → Option Sh} {s : ByteArray} : Slot C N sh w (.v (.a (.str s))) (.string s) := fun _ => ⟨_, rfl, rfl⟩
theorem of_ptr {sh : Nat → Option Sh} {b off : Nat} {x : At} (hx : x.agg C.T = false) (h : RepA C N sh w x [.pointer (some ⟨b, off, none⟩)]) : Slot C N sh w (.v (.a x)) (.pointer (some ⟨b, off, none⟩)) := fun _ => ⟨_, h, by rw [hx]; rfl⟩
theorem s_move {x : Operand} (ho : o.op = .move x ∨ o.op = .assign x) : Sound C o st (st.set o.dst (st.get x)) := by
  intro N a w K Q h hk
  refine h.value (v := a.eval x) (x := st.get x) ?_ (h.get x) hk
  unfold execOp
  rcases ho with ho | ho <;> simp only [ho] <;> rfl
theorem s_pick {c x y : Operand} {b : Bool} (ho : o.op = .pick c x y) (hc : st.get c = .v (.a (.bool b))) : Sound C o st (st.set o.dst (st.get (if b then x else y))) := by
  intro N a w K Q h hk
  have h1 := h.get c
  rw [hc] at h1
  have h2 := slot_bool h1
  refine h.value (v := a.eval (if b then x else y)) ?_ (h.get _) hk
  unfold execOp
  simp only [ho, h2, asBool, Sem.run_bind, Sem.run_pure, Result.andThen_ok]
  cases b <;> rfl
theorem s_load {t : TypeId} {x : Operand} {y : At} {v : V1} (ok : C.Ok) (ho : o.op = .load t x) (hx : get1 st x = some y) (hs : st.load C.T t y = some v) : Sound C o st (st.set o.dst (.v v)) := by
  intro N a w K Q h hk
  obtain ⟨val, h1, h2⟩ := load_sound ok h (get1_slot h hx) hs
  refine h.value (v := val) (x := .v v) ?_ h2 hk
  unfold execOp
  simp only [ho, Sem.run_bind, Sem.run_pure, Result.andThen_ok, h1]
theorem s_store {t : TypeId} {x y : Operand} {z : At} {v : V1} (ok : C.Ok) (ho : o.op = .store t x y) (hx : get1 st x = some z) (hy : st.get y = .v v) (hs : st.store C.T t z v = some st') : Sound C o st (st'.set o.dst U) := by
  intro N a w K Q h hk
  obtain ⟨N1, w1, h1, h2⟩ := store_sound ok h (get1_slot h hx) hy hs
  refine wp_skip' (w' := w1) ?_ (hk N1 _ _ (h2.set (fun h => (by cases h))))
  unfold execOp
  simp only [ho, Sem.run_bind, Sem.run_pure, Result.andThen_ok, h1]
theorem zeroAt_sound (ok : C.Ok) {sh : Nat → Option Sh} {t : TypeId} {z : IV} {cs : List Value} (h : Rep C.T w (C.E N 2) t z cs) : RepA C N sh w (C.T.zeroAt t z) cs ∧ ((C.T.zeroAt t z).isU = false → (C.T.zeroAt t z).tyAt C.T t) := by
  unfold Tab.zeroAt
  split
  · rename_i ht
    refine ⟨?_, fun _ => by simp [At.tyAt, isAgg, ht]⟩
    cases h with
    | fn _ => rfl
    | _ => simp_all
  · exact mk1_sound ok h
theorem zero1_sound (ok : C.Ok) {sh : Nat → Option Sh} {t : TypeId} (hz : C.T.ty t ≠ .no) {cs : List Value} (h : Rep C.T w (C.E N 2) t (C.T.row t).zero cs) : RepA C N sh w (C.T.zero1 t) cs ∧ ((C.T.zero1 t).isU = false → (C.T.zero1 t).tyAt C.T t) := zeroAt_sound ok h
theorem s_alloc {t : TypeId} {hh : Hint} (ok : C.Ok) (ho : o.op = .alloc t) (hs : st.newBox C.T hh t (.a (C.T.zero1 t)) = some st') (hz : C.T.ty t ≠ .no) : Sound C o st (st'.setA o.dst (.ptr hh.key [] t)) := by
  intro N a w K Q h hk
  obtain ⟨z, h1, h2, h3, h4⟩ := run_zero' ok.tab hz w
  have hv : SlotV C N st.sh w (.a (C.T.zero1 t)) z := by
    rw [h3]
    have h5 := zero1_sound (N := N) (sh := st.sh) ok hz (h4 w _)
    exact slot_of (t := t) h5.1 h5.2
  obtain ⟨N1, m1, m2, m3⟩ := newBox_sound ok h hv hs
  refine wp_value (v := .pointer (some ⟨w.heap.size, 0, none⟩)) (w' := w.alloc (.cells z.cells t)) ?_ (hk N1 _ _ (m1.set (of_ptr rfl ⟨w.heap.size, 0, _, m3, rfl, by rw [m2]; rfl, rfl⟩)))
  unfold execOp
  simp only [ho, Instr.alloc, newVar, newRow, newObj, Sem.run_bind, Sem.run_pure, Result.andThen_ok, h1]
  rfl
theorem s_box {t : TypeId} {x : Operand} {v : V1} {hh : Hint} (ok : C.Ok) (ho : o.op = .box t x) (hx : st.get x = .v v) (hs : st.newBox C.T hh t v = some st') : Sound C o st (st'.setA o.dst (.ptr hh.key [] t)) := by
  intro N a w K Q h hk
  have hv : SlotV C N st.sh w v (a.eval x) := by have := h.get x; rw [hx] at this; exact this
  obtain ⟨N1, m1, m2, m3⟩ := newBox_sound ok h hv hs
  refine wp_value (v := .pointer (some ⟨w.heap.size, 0, none⟩)) (w' := w.alloc (.cells (a.eval x).cells t)) ?_ (hk N1 _ _ (m1.set (of_ptr rfl ⟨w.heap.size, 0, _, m3, rfl, by rw [m2]; rfl, rfl⟩)))
  unfold execOp
  simp only [ho, Instr.box, newVar, newRow, newObj, Sem.run_bind, Sem.run_pure, Result.andThen_ok]
  rfl
theorem s_un {op : UnOp} {t : TypeId} {x : Operand} {y r : At} (ho : o.op = .unOp op t x) (hx : get1 st x = some y) (hs : Tab.un op y = some r) : Sound C o st (st.setA o.dst r) := by
  intro N a w K Q h hk
  have h1 := get1_slot h hx
  unfold Tab.un at hs
  split at hs
  · rename_i b
    cases hs
    have h2 := slot_bool h1
    refine h.value (v := .bool (!b)) ?_ of_bool hk
    unfold execOp
    simp only [ho, h2, Op.unary, Sem.run_bind, Sem.run_pure, Result.andThen_ok]
  · rename_i k n
    cases hs
    have h2 := slot_int h1
    refine h.value (v := .int k (k.wrap (0 - n))) ?_ of_int hk
    unfold execOp
    simp only [ho, h2, Op.unary, Op.intArith, Sem.run_bind, Sem.run_pure, Result.andThen_ok]
  · cases hs
theorem s_convert {s d : TypeId} {x : Operand} {k k' k2 : IntKind} {n : Int} (ok : C.Ok) (ho : o.op = .convert s d x) (hx : st.get x = .v (.a (.int k' n))) (hd : C.T.ty d = .int k) (hsrc : C.T.ty s = .int k2) : Sound C o st (st.setA o.dst (.int k (k.wrap n))) := by
  intro N a w K Q h hk
  have h1 := h.get x
  rw [hx] at h1
  have h2 := slot_int h1
  refine h.value (v := .int k (k.wrap n)) ?_ of_int hk
  unfold execOp
  simp only [ho, h2, convert, Sem.run_bind, run_underlying (ok.tab.int s k2 hsrc), run_underlying (ok.tab.int d k hd), Sem.run_pure, Result.andThen_ok, Conv.intToInt]
theorem s_extract {x : Operand} {j : Nat} {l : List V1} {v : V1} (ho : o.op = .extract x j) (hx : st.get x = .tup l) (hj : l[j]? = some v) : Sound C o st (st.set o.dst (.v v)) := by
  intro N a w K Q h hk
  have h1 := h.get x
  rw [hx] at h1
  obtain ⟨vs, h2, h3, h4⟩ := h1
  have hlt := (List.getElem?_eq_some_iff.1 hj).1
  have h5 := h4 j hlt
  rw [show l.getD j (.a .U) = v by simp [List.getD, hj]] at h5
  have e : vs[j]? = some (vs.getD j undef) := by simp [List.getD, show j < vs.length by omega]
  refine h.value (v := vs.getD j undef) (x := .v v) ?_ h5 hk
  unfold execOp
  simp only [ho, h2, Instr.extract, List.getElem?_toArray, e, Sem.run_bind, Sem.run_pure, Result.andThen_ok]
theorem s_makeFunc {f : FuncId} {first caps : Array Operand} {ks : List Nat} (ho : o.op = .makeFunc (.func f) first caps) (h0 : first.size = 0) (hc : caps.toList.mapM (fun o => match st.get o with | .v (.a (.ptr k [] _)) => some k | _ => none) = some ks) : Sound C o st (st.setA o.dst (.fn f ks)) := by
  intro N a w K Q h hk
  have key : ∀ (l : List Operand) (ks : List Nat), l.mapM (fun o => match st.get o with | .v (.a (.ptr k [] _)) => some k | _ => none) = some ks → l.map a.eval = ks.map N.β ∧ ∀ k ∈ ks, ∃ t, st.sh k = some (.box t) := by
    intro l
    induction l with
    | nil => intro ks hks; simp at hks; subst hks; exact ⟨rfl, fun k hk => by cases hk⟩
    | cons x l ih =>
      intro ks hks
      rw [List.mapM_cons] at hks
      simp only [Option.bind_eq_bind, Option.bind_eq_some_iff, Option.pure_def, Option.some.injEq] at hks
      obtain ⟨k, h1, ks', h2, rfl⟩ := hks
      obtain ⟨i1, i2⟩ := ih ks' h2
      split at h1
      · rename_i k' t' hx
        cases h1
        have h3 := h.get x
        rw [hx] at h3
        obtain ⟨cs, ⟨b, off, s, g1, g2, g3, g4⟩, g5⟩ := h3 rfl
        have hbox : (∃ t, s = .box t) ∧ off = 0 := by
          cases s with
          | box bt => simp only [PtrOk, pathOff, Option.some.injEq, Prod.mk.injEq] at g2; exact ⟨⟨bt, rfl⟩, g2.1.symm⟩
          | arr e => obtain ⟨i, q, o, g6, _⟩ := g2; cases g6
        obtain ⟨⟨bt, rfl⟩, rfl⟩ := hbox
        have hrow : ∃ r, st.row k = some r ∧ r.sh = .box bt := by unfold St.sh at g1; exact Option.map_eq_some_iff.1 g1
        obtain ⟨r, hr1, hr2⟩ := hrow
        have hβ : N.β k = .pointer (some ⟨b, 0, none⟩) := by
          cases r with
          | box xb t own c =>
            obtain ⟨b', cs', q1, _⟩ := h.rows k _ hr1
            rw [q1] at g3 ⊢
            obtain rfl : b' = b := by simpa [blk] using g3
            rfl
          | arr p e l => cases hr2
        refine ⟨by rw [List.map_cons, List.map_cons, i1, g5, g4, hβ]; rfl, fun k2 hk2 => ?_⟩
        rcases List.mem_cons.1 hk2 with rfl | hk2
        · exact ⟨bt, g1⟩
        · exact i2 k2 hk2
      · cases h1
  obtain ⟨k1, k2⟩ := key _ _ hc
  have e1 : first = #[] := Array.eq_empty_of_size_eq_zero h0
  have e2 : caps.map a.eval = (ks.map N.β).toArray := by rw [← k1]; apply Array.ext'; simp
  refine h.value (v := .func (.func f) #[] (ks.map N.β).toArray) (x := .v (.a (.fn f ks))) ?_ (fun _ => ⟨_, ⟨rfl, k2⟩, rfl⟩) hk
  unfold execOp
  simp only [ho, e1, e2, Instr.makeFunc, Sem.run_bind, Sem.run_pure, Result.andThen_ok, List.map_toArray, List.map_nil]
theorem field_und (ok : C.Ok) {s : TypeId} {j : Nat} {tj : TypeId} (hp : C.T.partAt s j = some tj) : ∃ fs Fs f, C.T.ty s = .agg fs ∧ C.P.underlying s = some (.struct Fs) ∧ Fs[j]? = some f ∧ fs[j]? = some (f.type, f.offset) ∧ f.type = tj ∧ fs.getD j (0, 0) = (f.type, f.offset) := by
  unfold Tab.partAt at hp
  split at hp
  · rename_i fs ht
    obtain ⟨Fs, h1, h2⟩ := ok.tab.agg s fs ht
    obtain ⟨q, h3, h4⟩ := Option.map_eq_some_iff.1 hp
    rw [← h2, List.getElem?_map] at h3
    obtain ⟨f, h5, h6⟩ := Option.map_eq_some_iff.1 h3
    refine ⟨fs, Fs, f, ht, h1, by simpa using h5, by rw [← h2, List.getElem?_map, h5]; rfl, by rw [← h4, ← h6], ?_⟩
    simp only [List.getD]
    rw [← h2, List.getElem?_map, h5]; rfl
  · cases hp
theorem run_fieldAt (ok : C.Ok) {s : TypeId} {j : Nat} {tj : TypeId} (hp : C.T.partAt s j = some tj) (b off : Nat) (w : World) : ∃ f : Nat, (∃ fs, C.T.ty s = .agg fs ∧ fs[j]? = some (tj, f)) ∧ (Instr.fieldAt s (.pointer (some ⟨b, off, none⟩)) j).run C.P w = .ok (.pointer (some ⟨b, off + f, none⟩)) w := by
  obtain ⟨fs, Fs, f, h1, h2, h3, h4, h5, h6⟩ := field_und ok hp
  have hj := (List.getElem?_eq_some_iff.1 h4).1
  have tj' := ok.tab.tile s fs h1 j hj
  rw [h6] at tj'
  refine ⟨f.offset, ⟨fs, h1, by rw [h4, h5]⟩, ?_⟩
  have hsz : (sizeOf f.type).run C.P w = .ok (C.T.sz f.type) w := run_sizeOf' ok.tab tj'.2.2.2 w
  have hne : C.T.sz f.type ≠ 0 := by have := tj'.1; simp only at this; omega
  simp only [Instr.fieldAt, Sem.run_bind, run_underlying h2, Result.andThen_ok, h3, Instr.sureAddr, Sem.run_pure, fieldPlace, hsz, if_neg hne, Addr.add_mid]
theorem s_fieldAddr_pv {s : TypeId} {x : Operand} {j p : Nat} {tj : TypeId} {u : IV} (ok : C.Ok) (ho : o.op = .fieldAddr s x j) (hp : C.T.partAt s j = some tj) (hx : get1 st x = some (.pv p s u)) : Sound C o st (st.setA o.dst (.pv p tj (fld u j))) := by
  intro N a w K Q h hk
  obtain ⟨cs, ⟨b, off, ds, h1, h2, h3, h4⟩, h5⟩ := slot_single (get1_slot h hx) rfl rfl
  rw [h1] at h5
  obtain ⟨f, ⟨fs, g1, g2⟩, g3⟩ := run_fieldAt ok hp b off w
  have hpo : pathOff C.T s [j] = some (f, tj) := by simp [pathOff, g1, g2]
  refine h.value (v := .pointer (some ⟨b, off + f, none⟩)) (x := .v (.a (.pv p tj (fld u j)))) ?_ (of_ptr rfl ⟨b, off + f, _, rfl, h2.path ok.tab hpo, h3, fun i v hi => ?_⟩) hk
  · unfold execOp
    simp only [ho, h5, List.headD_cons, Sem.run_bind, Sem.run_pure, Result.andThen_ok, g3]
  · exact rangeAt_window (w := w) (b := b) (o := off) h4 i v hi
theorem pathOff_snoc {T : Tab} {j f : Nat} {fs : List (TypeId × Nat)} {tj : TypeId} : ∀ {path : List Nat} {t o t'}, pathOff T t path = some (o, t') → T.ty t' = .agg fs → fs[j]? = some (tj, f) → pathOff T t (path ++ [j]) = some (o + f, tj)
  | [], t, o, t', h, h1, h2 => by
    simp only [pathOff, Option.some.injEq, Prod.mk.injEq] at h
    obtain ⟨rfl, rfl⟩ := h
    simp [pathOff, h1, h2]
  | i :: p, t, o, t', h, h1, h2 => by
    simp only [pathOff] at h
    split at h
    · rename_i gs hgs
      rw [Option.bind_eq_some_iff] at h
      obtain ⟨g, hg, h⟩ := h
      obtain ⟨⟨o', u⟩, hq, he⟩ := Option.map_eq_some_iff.1 h
      simp only [Prod.mk.injEq] at he
      obtain ⟨rfl, rfl⟩ := he
      have := pathOff_snoc hq h1 h2
      simp [pathOff, hgs, hg, this, Nat.add_assoc]
    · cases h
theorem s_fieldAddr_ptr {s : TypeId} {x : Operand} {j k : Nat} {tj : TypeId} {path : List Nat} (ok : C.Ok) (ho : o.op = .fieldAddr s x j) (hp : C.T.partAt s j = some tj) (hx : get1 st x = some (.ptr k path s)) : Sound C o st (st.setA o.dst (.ptr k (path ++ [j]) tj)) := by
  intro N a w K Q h hk
  obtain ⟨cs, ⟨b, off, sh, h1, h2, h3, h4⟩, h5⟩ := slot_single (get1_slot h hx) rfl rfl
  rw [h4] at h5
  obtain ⟨f, ⟨fs, g1, g2⟩, g3⟩ := run_fieldAt ok hp b off w
  refine h.value (v := .pointer (some ⟨b, off + f, none⟩)) (x := .v (.a (.ptr k (path ++ [j]) tj))) ?_ (of_ptr rfl ⟨b, off + f, sh, h1, ?_, h3, rfl⟩) hk
  · unfold execOp
    simp only [ho, h5, List.headD_cons, Sem.run_bind, Sem.run_pure, Result.andThen_ok, g3]
  · cases sh with
    | box bt => exact pathOff_snoc h2 g1 g2
    | arr e =>
      obtain ⟨i, q, o', e1, e2, e3⟩ := h2
      exact ⟨i, q ++ [j], o' + f, by rw [e1]; rfl, pathOff_snoc e2 g1 g2, by omega⟩
theorem run_part (ok : C.Ok) {t : TypeId} (ht : C.T.ty t ≠ .no) {cs : Array Value} {off : Nat} (hle : off + C.T.sz t ≤ cs.size) (w : World) : (part t cs off).run C.P w = .ok (mkV (isAgg C.T t) ((cs.toList.drop off).take (C.T.sz t))) w := by
  unfold part
  rw [Sem.run_bind, run_isAgg' ok.tab ht, Result.andThen_ok]
  cases h : isAgg C.T t with
  | true =>
    simp only [if_true, Sem.run_bind, run_sizeOf' ok.tab ht, Result.andThen_ok, Sem.run_pure, mkV]
    congr 2
    apply Array.ext'
    simp [Array.toList_extract, List.extract_eq_take_drop]
  | false =>
    obtain ⟨i, z, h1, h2, h3, h4, h5, h6, h7⟩ := ok.tab.info t ht
    have h8 := h6 h
    have hlt : off < cs.size := by omega
    simp only [Bool.false_eq_true, if_false, mkV, h8]
    rw [Array.getElem?_eq_getElem hlt]
    simp only [Sem.run_pure]
    congr 1
    rw [List.headD_eq_head?_getD]
    simp [List.head?_take, List.head?_drop, hlt]
theorem s_field_iv {s : TypeId} {x : Operand} {j p : Nat} {tj : TypeId} {u : IV} (ok : C.Ok) (ho : o.op = .field s x j) (hp : C.T.partAt s j = some tj) (hx : st.get x = .v (.a (.iv p s u))) : Sound C o st (st.setA o.dst (C.T.mk1 p tj (fld u j))) := by
  intro N a w K Q h hk
  have h1 := h.get x
  rw [hx] at h1
  obtain ⟨cs, h2, h3⟩ := slot_iv h1
  obtain ⟨fs, Fs, f, g1, g2, g3, g4, g5, g6⟩ := field_und ok hp
  subst g5
  have hj := (List.getElem?_eq_some_iff.1 g4).1
  have tj' := ok.tab.tile s fs g1 j hj
  rw [g6] at tj'
  have hpo : pathOff C.T s [j] = some (f.offset, f.type) := by simp [pathOff, g1, g4]
  have hr := h2.path ok.tab hpo
  have hm := mk1_sound (sh := st.sh) ok hr
  have hcl := h2.len ok.tab
  simp only at tj'
  refine h.value (v := mkV (isAgg C.T f.type) ((cs.drop f.offset).take (C.T.sz f.type))) (x := .v (.a (C.T.mk1 p f.type (fld u j)))) ?_ ?_ hk
  · have h4 : a.eval x = .agg cs.toArray := by rw [h3]; simp [mkV, isAgg, g1]
    have h5 := run_part ok (t := f.type) tj'.2.2.2 (cs := cs.toArray) (off := f.offset) (by simp; omega) w
    unfold execOp
    simp only [ho, h4, Instr.field, Sem.run_bind, run_underlying g2, Result.andThen_ok, g3, asAgg, Sem.run_pure, h5]
  · exact slot_of hm.1 hm.2
theorem s_field_g {s : TypeId} {x : Operand} {j : Nat} {tj : TypeId} {l : List At} (ok : C.Ok) (ho : o.op = .field s x j) (hp : C.T.partAt s j = some tj) (hx : st.get x = .v (.g s l)) : Sound C o st (st.setA o.dst (l.getD j .U)) := by
  intro N a w K Q h hk
  have h1 := h.get x
  rw [hx] at h1
  obtain ⟨cs, ⟨fs', q1, q2, q3, q4, q5⟩, h3⟩ := h1
  obtain ⟨fs, Fs, f, g1, g2, g3, g4, g5, g6⟩ := field_und ok hp
  rw [g1] at q1; cases q1
  have hj := (List.getElem?_eq_some_iff.1 g4).1
  have tj' := ok.tab.tile s _ g1 j hj
  rw [g6] at tj'
  obtain ⟨q6, q7⟩ := q5 j (by omega)
  rw [g6] at q6 q7
  simp only at tj' q6 q7
  refine h.value (v := mkV (isAgg C.T f.type) ((cs.drop f.offset).take (C.T.sz f.type))) (x := .v (.a (l.getD j .U))) ?_ (slot_of q6 q7) hk
  have h5 := run_part ok (t := f.type) tj'.2.2.2 (cs := cs.toArray) (off := f.offset) (by simp; omega) w
  unfold execOp
  simp only [ho, h3, Instr.field, Sem.run_bind, run_underlying g2, Result.andThen_ok, g3, asAgg, Sem.run_pure, h5]
theorem run_indexAt (ok : C.Ok) {t e : TypeId} (ht : C.T.ty t = .slice e) (he : C.T.ty e ≠ .no) {b off len cap m : Nat} (hm : m < len) (k : IntKind) (w : World) :
    (Instr.indexAt t (.slice (some ⟨b, off, none⟩) len cap) (.int k (m : Int))).run C.P w = .ok (.pointer (some ⟨b, off + m * C.T.sz e, none⟩)) w := by
  have h1 : (0 : Int) ≤ (m : Int) ∧ (m : Int) < (len : Int) := ⟨by omega, by omega⟩
  simp only [Instr.indexAt, asIntOf, Sem.run_bind, Sem.run_pure, Result.andThen_ok, run_underlying (ok.tab.slice t e ht)]
  rw [if_pos h1]
  simp only [Sem.run_bind, run_sizeOf' ok.tab he, Result.andThen_ok, Int.toNat_natCast, Addr.add_mid, Sem.run_pure]
theorem s_index_iv {t e : TypeId} {x i : Operand} {p : Nat} {u v : IV} {k : IntKind} {m : Nat} (ok : C.Ok) (ho : o.op = .indexAddr t x i) (ht : C.T.ty t = .slice e) (hx : get1 st x = some (.iv p t u)) (hi : getI st i = some (k, (m : Int))) (hv : (asL u)[m]? = some v) : Sound C o st (st.setA o.dst (.pv p e v)) := by
  intro N a w K Q h hk
  obtain ⟨cs, h2, h3⟩ := slot_iv (get1_slot h hx)
  have h4 := getI_val h hi
  have hml := (List.getElem?_eq_some_iff.1 hv).1
  cases h2 with
  | slice hty hb hc hl hw hr =>
    rename_i e' l b off cap cf
    rw [ht] at hty; cases hty
    have hm : m < l.length := hml
    have hrm := hr m hm
    rw [show l.getD m .N = v by have : l[m]? = some v := hv; simp [List.getD, this]] at hrm
    refine h.value (v := .pointer (some ⟨b, off + m * C.T.sz e, none⟩)) (x := .v (.a (.pv p e v))) ?_ (of_ptr rfl ⟨b, _, cf m, rfl, hrm, hb, fun j q hj => ?_⟩) hk
    · have h5 := run_indexAt ok ht hrm.ty (b := b) (off := off) (cap := cap) hm k w
      unfold execOp
      simp only [ho, h3, h4, mkV, isAgg, ht, Bool.false_eq_true, if_false, List.headD_cons, Sem.run_bind, Sem.run_pure, Result.andThen_ok, h5]
    · have := hw m j q hm hj
      rwa [← Nat.add_assoc] at this
  | none => simp [asL] at hml
  | nil => simp [asL] at hml
  | _ => simp_all
theorem s_index_own {t e : TypeId} {x i : Operand} {p key len : Nat} {l : List IV} {k : IntKind} {m : Nat} {y : At} (ok : C.Ok) (ho : o.op = .indexAddr t x i) (ht : C.T.ty t = .slice e) (hx : get1 st x = some y) (hy : (y = .own key ∧ len = l.length) ∨ y = .sub key len) (hr : st.row key = some (.arr p e l)) (hm : m < len) (hle : len ≤ l.length) (hi : getI st i = some (k, (m : Int))) : Sound C o st (st.setA o.dst (.ptr key [m] e)) := by
  intro N a w K Q h hk
  have h4 := getI_val h hi
  obtain ⟨q1, q2, cf, q3, q4⟩ := h.rows key _ hr
  have hsl := get1_slot h hx
  rcases q4.2 with ⟨e1, e2⟩ | ⟨g, cap, cur, e1, _, hg, hnc, hcm, hcs, htk⟩
  · omega
  · have hv : ∃ n c, a.eval x = .slice (some ⟨g, 0, none⟩) n c ∧ m < n := by
      rcases hy with ⟨rfl, hl⟩ | rfl
      · exact ⟨_, _, (slot_own hsl).trans e1, by omega⟩
      · obtain ⟨a2, len2, cap2, r1, r2, r3⟩ := slot_sub hsl
        rw [e1] at r1; cases r1
        exact ⟨_, _, r3, hm⟩
    obtain ⟨n, c, hv, hmn⟩ := hv
    have h5 := run_indexAt ok ht q2 (b := g) (off := 0) (cap := c) hmn k w
    refine h.value (v := .pointer (some ⟨g, 0 + m * C.T.sz e, none⟩)) (x := .v (.a (.ptr key [m] e))) ?_ (of_ptr rfl ⟨g, _, .arr e, by rw [St.sh, hr]; rfl, ⟨m, [], 0, rfl, rfl, by omega⟩, by rw [e1]; rfl, rfl⟩) hk
    unfold execOp
    simp only [ho, hv, h4, Sem.run_bind, Sem.run_pure, Result.andThen_ok, h5]
theorem s_index_str {t : TypeId} {x i : Operand} {s : ByteArray} {k : IntKind} {n : Int} {b : UInt8} (ok : C.Ok) (ho : o.op = .index t x i) (ht : C.T.ty t = .str) (hx : st.get x = .v (.a (.str s))) (hi : getI st i = some (k, n)) (hn : 0 ≤ n) (hb : s[n.toNat]? = some b) : Sound C o st (st.setA o.dst (.int .u8 b.toNat)) := by
  intro N a w K Q h hk
  have h1 := h.get x
  rw [hx] at h1
  have h2 := slot_str h1
  have h4 := getI_val h hi
  refine h.value (v := .int .u8 b.toNat) ?_ of_int hk
  unfold execOp
  simp only [ho, h2, h4, Instr.index, asIntOf, Sem.run_bind, Sem.run_pure, Result.andThen_ok, run_underlying (ok.tab.str t ht), if_pos hn, hb]
end
end Go.Ev
end
section
set_option linter.unusedVariables false
set_option linter.unusedSimpArgs false
namespace Go.Ev
open Go.RowKit
section
set_option maxHeartbeats 1000000
variable {C : Cx} {N N' : Nm} {st st' : St} {a : Act} {w w' : World} {o : Oper} {K : Act → World → Prop} {Q : Exit → Act → World → Prop} {c : V1} {v : Value}
theorem s_bin_int {op : BinOp} {t t2 : TypeId} {x y : Operand} {k : IntKind} {m n : Int} {r : At} (ho : o.op = .binOp op t x y t2) (hx : get1 st x = some (.int k m)) (hy : get1 st y = some (.int k n)) (hs : C.T.bin op t (.int k m) (.int k n) = some r) : Sound C o st (st.setA o.dst r) := by
  intro N a w K Q h hk
  have h1 := slot_int (get1_slot h hx)
  have h2 := slot_int (get1_slot h hy)
  have key : ∀ val, (Go.eqGuard op t x y (.int k m) (.int k n)).run C.P w = .ok () w → (Go.binOp op t (.int k m) (.int k n)).run C.P w = .ok val w → Slot C N st.sh w (.v (.a r)) val → o.wp C.P a w K Q := by
    intro val g1 g2 g3
    refine h.value (v := val) (x := .v (.a r)) ?_ g3 hk
    unfold execOp
    simp only [ho, h1, h2, Sem.run_bind, Sem.run_pure, Result.andThen_ok, g1, g2]
  have guard : (Go.eqGuard op t x y (.int k m) (.int k n)).run C.P w = .ok () w := by
    unfold Go.eqGuard
    cases op <;> rfl
  simp only [Tab.bin, if_true] at hs
  have fi : ∀ q, r = .int k q → (Go.binOp op t (.int k m) (.int k n)).run C.P w = .ok (.int k q) w → o.wp C.P a w K Q := fun q e g => by subst e; exact key _ guard g of_int
  have fb : ∀ q, r = .bool q → (Go.binOp op t (.int k m) (.int k n)).run C.P w = .ok (.bool q) w → o.wp C.P a w K Q := fun q e g => by subst e; exact key _ guard g of_bool
  have hb : ∀ (z : Sem Value), (if k ≠ k then Go.stuck "BinOp: operands of different kinds" else z) = z := fun z => if_neg (fun h => h rfl)
  cases op <;> simp only [cmpI, Option.map_some, Option.map_none, Option.some.injEq, reduceCtorEq] at hs
  case add => exact fi _ hs.symm (by show Sem.run _ (if k ≠ k then _ else _) _ = _; rw [hb]; rfl)
  case sub => exact fi _ hs.symm (by show Sem.run _ (if k ≠ k then _ else _) _ = _; rw [hb]; rfl)
  case mul => exact fi _ hs.symm (by show Sem.run _ (if k ≠ k then _ else _) _ = _; rw [hb]; rfl)
  case quo =>
    split at hs
    · cases hs
    · rename_i hn; exact fi _ (Option.some.inj hs).symm (by show Sem.run _ (if k ≠ k then _ else _) _ = _; rw [hb, Op.intDiv, if_neg hn]; rfl)
  case rem =>
    split at hs
    · cases hs
    · rename_i hn; exact fi _ (Option.some.inj hs).symm (by show Sem.run _ (if k ≠ k then _ else _) _ = _; rw [hb, Op.intDiv, if_neg hn]; rfl)
  case eql => exact fb _ hs.symm (by show Sem.run _ (if k ≠ k then _ else _) _ = _; rw [hb]; rfl)
  case neq => exact fb _ hs.symm (by show Sem.run _ (if k ≠ k then _ else _) _ = _; rw [hb]; rfl)
  case lss => exact fb _ hs.symm (by show Sem.run _ (if k ≠ k then _ else _) _ = _; rw [hb]; rfl)
  case leq => exact fb _ hs.symm (by show Sem.run _ (if k ≠ k then _ else _) _ = _; rw [hb]; rfl)
  case gtr => exact fb _ hs.symm (by show Sem.run _ (if k ≠ k then _ else _) _ = _; rw [hb]; rfl)
  case geq => exact fb _ hs.symm (by show Sem.run _ (if k ≠ k then _ else _) _ = _; rw [hb]; rfl)
theorem run_eql {t : TypeId} {x y : Value} {b : Bool} {P : Program} (h : (Op.equalIn (9999 + 1) t x y).run P w = .ok b w) (hi : ∀ k m, x ≠ .int k m) (hs : ∀ s, x ≠ .string s) (hf : ∀ k s, x ≠ .float k s) (hc : ∀ k r i, x ≠ .complex k r i) :
    (Go.binOp .eql t x y).run P w = .ok (.bool b) w ∧ (Go.binOp .neq t x y).run P w = .ok (.bool (!b)) w := by
  have e1 : Go.binOp .eql t x y = (do pure (.bool (← Op.equal t x y))) := by
    unfold Go.binOp
    cases x <;> first | rfl | exact absurd rfl (hi _ _) | exact absurd rfl (hs _) | exact absurd rfl (hf _ _) | exact absurd rfl (hc _ _ _)
  have e2 : Go.binOp .neq t x y = (do pure (.bool (!(← Op.equal t x y)))) := by
    unfold Go.binOp
    cases x <;> first | rfl | exact absurd rfl (hi _ _) | exact absurd rfl (hs _) | exact absurd rfl (hf _ _) | exact absurd rfl (hc _ _ _)
  have e3 : Op.equal t x y = Op.equalIn (9999 + 1) t x y := rfl
  rw [e1, e2, e3]
  simp only [Sem.run_bind, h, Result.andThen_ok, Sem.run_pure, and_self]
theorem s_bin_bool {op : BinOp} {t t2 : TypeId} {x y : Operand} {m n : Bool} {r : At} (ok : C.Ok) (ho : o.op = .binOp op t x y t2) (hx : get1 st x = some (.bool m)) (hy : get1 st y = some (.bool n)) (hs : C.T.bin op t (.bool m) (.bool n) = some r) : Sound C o st (st.setA o.dst r) := by
  intro N a w K Q h hk
  have h1 := slot_bool (get1_slot h hx)
  have h2 := slot_bool (get1_slot h hy)
  have key : ∀ val, (Go.eqGuard op t x y (.bool m) (.bool n)).run C.P w = .ok () w → (Go.binOp op t (.bool m) (.bool n)).run C.P w = .ok val w → Slot C N st.sh w (.v (.a r)) val → o.wp C.P a w K Q := by
    intro val g1 g2 g3
    refine h.value (v := val) (x := .v (.a r)) ?_ g3 hk
    unfold execOp
    simp only [ho, h1, h2, Sem.run_bind, Sem.run_pure, Result.andThen_ok, g1, g2]
  have guard : (Go.eqGuard op t x y (.bool m) (.bool n)).run C.P w = .ok () w := by rw [eqGuard_at_bool]; rfl
  have hq : ∀ ht : C.T.ty t = .bool, _ := fun ht => run_eql (run_equalIn_bool' (P := C.P) w 9999 t m n (ok.tab.bool t ht)) (fun _ _ h => by cases h) (fun _ h => by cases h) (fun _ _ h => by cases h) (fun _ _ _ h => by cases h)
  simp only [Tab.bin] at hs
  split at hs
  · rename_i ht; cases hs; exact key _ guard (hq ht).1 of_bool
  · rename_i ht; cases hs; exact key _ guard (hq ht).2 of_bool
  · cases hs
theorem s_bin_str {op : BinOp} {t t2 : TypeId} {x y : Operand} {m n : ByteArray} {r : At} (ho : o.op = .binOp op t x y t2) (hx : get1 st x = some (.str m)) (hy : get1 st y = some (.str n)) (hs : C.T.bin op t (.str m) (.str n) = some r) : Sound C o st (st.setA o.dst r) := by
  intro N a w K Q h hk
  have h1 := slot_str (get1_slot h hx)
  have h2 := slot_str (get1_slot h hy)
  have key : ∀ val, (Go.eqGuard op t x y (.string m) (.string n)).run C.P w = .ok () w → (Go.binOp op t (.string m) (.string n)).run C.P w = .ok val w → Slot C N st.sh w (.v (.a r)) val → o.wp C.P a w K Q := by
    intro val g1 g2 g3
    refine h.value (v := val) (x := .v (.a r)) ?_ g3 hk
    unfold execOp
    simp only [ho, h1, h2, Sem.run_bind, Sem.run_pure, Result.andThen_ok, g1, g2]
  have guard : (Go.eqGuard op t x y (.string m) (.string n)).run C.P w = .ok () w := by
    unfold Go.eqGuard
    cases op <;> rfl
  simp only [Tab.bin] at hs
  split at hs
  · cases hs
    refine key (.bool (m == n)) guard ?_ of_bool
    show Sem.run C.P (pure (Value.bool (m.toList == n.toList))) w = _
    rw [← beq_toListBytes]; rfl
  · cases hs
    refine key (.bool (!(m == n))) guard ?_ of_bool
    show Sem.run C.P (pure (Value.bool !(m.toList == n.toList))) w = _
    rw [← beq_toListBytes]; rfl
  · cases hs
theorem Rep.int_inv {T : Tab} {E : Nat → Prop} {t : TypeId} {k : IntKind} {v : IV} {cs : List Value} (ht : T.ty t = .int k) (h : Rep T w E t v cs) : ∃ n, v = .I n ∧ cs = [.int k n] := by
  cases h with
  | int h => rw [ht] at h; cases h; exact ⟨_, rfl, rfl⟩
  | bool h => rw [ht] at h; cases h
  | str h => rw [ht] at h; cases h
  | slice h => rw [ht] at h; cases h
  | none h => rw [ht] at h; cases h
  | nil h => rw [ht] at h; cases h
  | agg h => rw [ht] at h; cases h
  | fn h => rw [ht] at h; cases h
  | ptr h => rw [ht] at h; cases h
theorem Rep.bool_inv {T : Tab} {E : Nat → Prop} {t : TypeId} {v : IV} {cs : List Value} (ht : T.ty t = .bool) (h : Rep T w E t v cs) : ∃ n, v = .B n ∧ cs = [.bool n] := by
  cases h with
  | int h => rw [ht] at h; cases h
  | bool h => exact ⟨_, rfl, rfl⟩
  | str h => rw [ht] at h; cases h
  | slice h => rw [ht] at h; cases h
  | none h => rw [ht] at h; cases h
  | nil h => rw [ht] at h; cases h
  | agg h => rw [ht] at h; cases h
  | fn h => rw [ht] at h; cases h
  | ptr h => rw [ht] at h; cases h
theorem Rep.str_inv {T : Tab} {E : Nat → Prop} {t : TypeId} {v : IV} {cs : List Value} (ht : T.ty t = .str) (h : Rep T w E t v cs) : ∃ n, v = .S n ∧ cs = [.string n] := by
  cases h with
  | int h => rw [ht] at h; cases h
  | bool h => rw [ht] at h; cases h
  | str h => exact ⟨_, rfl, rfl⟩
  | slice h => rw [ht] at h; cases h
  | none h => rw [ht] at h; cases h
  | nil h => rw [ht] at h; cases h
  | agg h => rw [ht] at h; cases h
  | fn h => rw [ht] at h; cases h
  | ptr h => rw [ht] at h; cases h
theorem eqF_sound (ok : C.Ok) {cs ds : List Value} {E E' : Nat → Prop} {v u : IV} {FS : List (TypeId × Nat)} {t : TypeId} (ht : C.T.ty t = .agg FS) (hv : Rep C.T w E t v cs) (hu : Rep C.T w E' t u ds) : ∀ (fs : List (TypeId × Nat)) (Fs : List Field) (j : Nat) (b : Bool), FS.drop j = fs → Fs.map (fun f => (f.type, f.offset)) = fs → (∀ f ∈ Fs, f.name ≠ "_") →
    C.T.eqF fs j v u = some b → (Op.eqFields 9999 cs.toArray ds.toArray Fs).run C.P w = .ok b w
  | [], Fs, j, b, hd, hF, hn, hs => by
    have : Fs = [] := by simpa using hF
    subst this
    simp only [Tab.eqF, Option.some.injEq] at hs
    subst hs; rfl
  | (tj, oj) :: fs, Fs, j, b, hd, hF, hn, hs => by
    obtain ⟨f, Fs', rfl, hf, hF'⟩ : ∃ f Fs', Fs = f :: Fs' ∧ (f.type, f.offset) = (tj, oj) ∧ Fs'.map (fun f => (f.type, f.offset)) = fs := by
      cases Fs with
      | nil => simp at hF
      | cons f Fs' => simp only [List.map_cons, List.cons.injEq] at hF; exact ⟨f, Fs', rfl, hF.1, hF.2⟩
    simp only [Prod.mk.injEq] at hf
    obtain ⟨rfl, rfl⟩ := hf
    have hj : FS[j]? = some (f.type, f.offset) := by
      have := congrArg (fun q => q[0]?) hd
      simpa using this
    have hjl := (List.getElem?_eq_some_iff.1 hj).1
    have hjd : FS.getD j (0, 0) = (f.type, f.offset) := by simp [List.getD, hj]
    have tj := ok.tab.tile t FS ht j hjl
    rw [hjd] at tj
    simp only at tj
    have hpo : pathOff C.T t [j] = some (f.offset, f.type) := by simp [pathOff, ht, hj]
    have rv := hv.path ok.tab hpo
    have ru := hu.path ok.tab hpo
    have lv := hv.len ok.tab
    have lu := hu.len ok.tab
    have pv := run_part ok tj.2.2.2 (cs := cs.toArray) (off := f.offset) (by simp; omega) w
    have pu := run_part ok tj.2.2.2 (cs := ds.toArray) (off := f.offset) (by simp; omega) w
    simp only [Tab.eqF] at hs
    rw [Option.bind_eq_some_iff] at hs
    obtain ⟨b1, h1, hs⟩ := hs
    rw [Option.bind_eq_some_iff] at hs
    obtain ⟨b2, h2, hs⟩ := hs
    simp only [Option.some.injEq] at hs
    subst hs
    have ih := eqF_sound ok ht hv hu fs Fs' (j + 1) b2 (by rw [← List.drop_drop, hd]; rfl) hF' (fun g hg => hn g (List.mem_cons_of_mem _ hg)) h2
    have he : (Op.equalIn 9999 f.type (mkV (isAgg C.T f.type) ((cs.drop f.offset).take (C.T.sz f.type))) (mkV (isAgg C.T f.type) ((ds.drop f.offset).take (C.T.sz f.type)))).run C.P w = .ok b1 w := by
      simp only [atp] at rv ru
      generalize (cs.drop f.offset).take (C.T.sz f.type) = wc at rv
      generalize (ds.drop f.offset).take (C.T.sz f.type) = wd at ru
      generalize fld v j = fv at rv h1
      generalize fld u j = fu at ru h1
      split at h1
      · rename_i k ht2
        obtain ⟨m, rfl, rfl⟩ := rv.int_inv ht2
        obtain ⟨n, rfl, rfl⟩ := ru.int_inv ht2
        cases h1
        simp only [isAgg, ht2, mkV, Bool.false_eq_true, if_false, List.headD_cons]
        exact run_equalIn_int (P := C.P) w 9998 f.type k k _ _ (ok.tab.int _ _ ht2)
      · rename_i ht2
        obtain ⟨m, rfl, rfl⟩ := rv.bool_inv ht2
        obtain ⟨n, rfl, rfl⟩ := ru.bool_inv ht2
        cases h1
        simp only [isAgg, ht2, mkV, Bool.false_eq_true, if_false, List.headD_cons]
        exact run_equalIn_bool' (P := C.P) w 9998 f.type _ _ (ok.tab.bool _ ht2)
      · rename_i ht2
        obtain ⟨m, rfl, rfl⟩ := rv.str_inv ht2
        obtain ⟨n, rfl, rfl⟩ := ru.str_inv ht2
        cases h1
        simp only [isAgg, ht2, mkV, Bool.false_eq_true, if_false, List.headD_cons]
        have := run_equalIn_string (P := C.P) w 9998 f.type m n (ok.tab.str _ ht2)
        rw [← beq_toListBytes] at this
        exact this
      · cases h1
    simp only [Op.eqFields]
    rw [if_pos (hn f (List.mem_cons_self))]
    simp only [Sem.run_bind, pv, pu, he, Result.andThen_ok]
    cases b1 with
    | true => simp only [Bool.not_true, Bool.false_eq_true, if_false, Bool.true_and]; exact ih
    | false => simp
theorem s_bin_agg {op : BinOp} {t t2 : TypeId} {x y : Operand} {p q : Nat} {v u : IV} {FS : List (TypeId × Nat)} {b : Bool} (ok : C.Ok) (ho : o.op = .binOp op t x y t2) (hx : get1 st x = some (.iv p t v)) (hy : get1 st y = some (.iv q t u)) (ht : C.T.ty t = .agg FS) (hs : C.T.eqF FS 0 v u = some b) (hop : op = .eql ∨ op = .neq) :
    Sound C o st (st.setA o.dst (.bool (if op = .eql then b else !b))) := by
  intro N a w K Q h hk
  obtain ⟨cs, h1, h2⟩ := slot_iv (get1_slot h hx)
  obtain ⟨ds, h3, h4⟩ := slot_iv (get1_slot h hy)
  have ha : isAgg C.T t = true := by simp [isAgg, ht]
  rw [ha] at h2 h4
  obtain ⟨Fs, g1, g2⟩ := ok.tab.agg t FS ht
  have hpl := ok.tab.plain t FS ht
  have hfo : C.P.fieldsOf t = Fs := by simp [Program.fieldsOf, g1]
  have hE := eqF_sound ok ht h1 h3 FS Fs.toList 0 b rfl g2 (hpl.2.2 Fs g1) hs
  have hG := run_eqGuard_agg (P := C.P) w op t x y cs.toArray ds.toArray hpl.2.1
  have hq := run_equalIn_agg (P := C.P) w 9999 t cs.toArray ds.toArray (by rw [hfo]; exact g1) hpl.1
  rw [hfo, hE] at hq
  refine h.value (v := .bool (if op = .eql then b else !b)) ?_ of_bool hk
  unfold execOp
  rcases hop with rfl | rfl
  · have := run_eql_struct (P := C.P) w t cs.toArray ds.toArray
    rw [hq] at this
    simp only [ho, h2, h4, mkV, if_true, Sem.run_bind, Sem.run_pure, Result.andThen_ok, hG, this]
  · have := run_neq_struct (P := C.P) w t cs.toArray ds.toArray
    rw [hq] at this
    simp only [ho, h2, h4, mkV, if_true, Sem.run_bind, Sem.run_pure, Result.andThen_ok, hG, this]
    simp
theorem s_len {x : Operand} {t : TypeId} {n : Nat} {cl : Call} (ho : o.op = .call cl) (hc : cl.callee = .builtin .len) (ha : cl.args = #[x]) (hat : cl.argTypes = #[t])
    (hr : ∀ N a w, Rel C N st a w → (Builtin.len_ #[t] o.type #[a.eval x]).run C.P w = .ok (.int .i64 (n : Int)) w) : Sound C o st (st.setA o.dst (.int .i64 (n : Int))) := by
  intro N a w K Q h hk
  refine h.value (v := .int .i64 (n : Int)) ?_ of_int hk
  unfold execOp
  simp only [ho, resolve, hc, ha, hat, invoke, builtin, List.map_toArray, List.map_cons, List.map_nil, Sem.run_bind, Sem.run_pure, Result.andThen_ok, hr N a w h]
theorem run_len_slice (ok : C.Ok) {t e : TypeId} (ht : C.T.ty t = .slice e) (ty : TypeId) (a : Option Addr) (n cap : Nat) (w : World) : (Builtin.len_ #[t] ty #[.slice a n cap]).run C.P w = .ok (.int .i64 (n : Int)) w := by
  simp [Builtin.len_, run_underlying (ok.tab.slice t e ht), goInt]
theorem run_len_str (ok : C.Ok) {t : TypeId} (ht : C.T.ty t = .str) (ty : TypeId) (s : ByteArray) (w : World) : (Builtin.len_ #[t] ty #[.string s]).run C.P w = .ok (.int .i64 (s.size : Int)) w := by
  simp [Builtin.len_, run_underlying (ok.tab.str t ht), goInt]
end
end Go.Ev
end
section
set_option linter.unusedVariables false
set_option linter.unusedSimpArgs false
namespace Go.Ev
open Go.RowKit
section
set_option maxHeartbeats 1000000
variable {C : Cx} {N N' : Nm} {st st' : St} {a : Act} {w w' : World} {o : Oper} {K : Act → World → Prop} {Q : Exit → Act → World → Prop} {c : V1} {v : Value}
theorem below_grown (h : w.grownBy w' none) : Below w.heap.size w w' := ⟨h.os, h.tape, h.output, h.size, fun k hk => h.block k hk (by simp)⟩
theorem made_flat (z : Array Value) (n : Nat) (hz : 0 < z.size) : (madeCells z (n * z.size)).toList = (List.range n).flatMap (fun _ => z.toList) := by
  apply List.ext_getElem?
  intro x
  have hl : ∀ i, i < n → ((fun _ => z.toList) i).length = z.size := fun i _ => by simp
  by_cases hx : x < n * z.size
  · have hx1 : x / z.size < n := (Nat.div_lt_iff_lt_mul hz).2 hx
    have hx2 : x % z.size < z.size := Nat.mod_lt _ hz
    have hx3 : x = x / z.size * z.size + x % z.size := by rw [Nat.mul_comm]; exact (Nat.div_add_mod x _).symm
    have h1 := flat_get hl hx1 hx2
    rw [← hx3] at h1
    rw [h1]
    simp [madeCells, hx, hx2]
  · rw [List.getElem?_eq_none (by simp [size_madeCells]; omega), List.getElem?_eq_none (by rw [flat_length hl]; omega)]
theorem room_spec {n bytes : Nat} (h : roomFor n bytes = true) : n * bytes ≤ 140737488355328 ∧ n ≤ maxLen := by
  simp only [roomFor, Bool.and_eq_true, decide_eq_true_eq] at h
  exact ⟨h.1, by unfold maxLen; omega⟩
theorem rep_replicate {E : Nat → Prop} {e m : Nat} {z : IV} {cs : List Value} (h : Rep C.T w E e z cs) : ∀ i, i < (List.replicate m z).length → Rep C.T w E e ((List.replicate m z).getD i .N) ((fun _ => cs) i) := by
  intro i hi
  rw [List.length_replicate] at hi
  simp only [List.getD, List.getElem?_replicate, if_pos hi, Option.getD_some]
  exact h
theorem s_makeSlice {t e : TypeId} {n c : Operand} {kn kc : IntKind} {m mc : Nat} {x : At} (ok : C.Ok) (ho : o.op = .makeSlice t n c) (ht : C.T.ty t = .slice e) (hn : getI st n = some (kn, (m : Int))) (hc : getI st c = some (kc, (mc : Int))) (hm : m = mc ∨ m = 0) (hr : roomFor mc (C.T.row e).bytes = true) (he : C.T.okE e = true) {hh : Option Hint}
    (hs : st.placeArr hh t 2 e (List.replicate m (C.T.row e).zero) = (st', x)) : Sound C o st (st'.setA o.dst x) := by
  intro N a w K Q h hk
  obtain ⟨he1, he2⟩ := okE_iff he
  have h1 := getI_val h hn
  have h2 := getI_val h hc
  obtain ⟨hr1, hr2⟩ := room_spec hr
  obtain ⟨i, z, i1, i2, i3, i4, i5, i6, i7, i7', i8⟩ := ok.tab.info e he2
  have hz : ∀ w E, Rep C.T w E e (C.T.row e).zero z.cells.toList := by cases h : C.T.ty e <;> simp_all
  have fr := h.fresh ok
  have fin : ∀ w', (Instr.makeSlice t (.int kn (m : Int)) (.int kc (mc : Int))).run C.P w = .ok (.slice (some ⟨w.heap.size, 0, none⟩) m mc) w' → w'.ownsRow 0 e (C.T.sz e) (.slice (some ⟨w.heap.size, 0, none⟩) m mc) m ((List.range m).flatMap (fun _ => z.cells.toList)) → w.grownBy w' none → o.wp C.P a w K Q := by
    intro w' g1 g2 g3
    have hb := below_grown g3
    have hR := h.grow ok hb
    have hlt : w.heap.size < w'.heap.size := by
      rcases g2.2 with ⟨q, _⟩ | ⟨g, cap, cur, q, _, hg, _⟩
      · cases q
      · cases q; exact (Array.getElem?_eq_some_iff.1 hg).1
    obtain ⟨N1, m1, m2⟩ := placeArr_sound (v := .slice (some ⟨w.heap.size, 0, none⟩) m mc) (cf := fun _ => z.cells.toList) ok hR ht he (rep_replicate (hz w' _)) (by rw [List.length_replicate]; exact g2)
      (fun b hb2 => by
        obtain rfl : w.heap.size = b := by simpa [blk] using hb2
        exact ⟨fr.1, fr.2.1, hlt, fr.2.2⟩) hs
    refine wp_value (v := .slice (some ⟨w.heap.size, 0, none⟩) m mc) (w' := w') ?_ (hk N1 _ _ (m1.set (x := .v (.a x)) m2))
    unfold execOp
    simp only [ho, h1, h2, Sem.run_bind, Sem.run_pure, Result.andThen_ok, g1]
  by_cases hmm : m = mc
  · subst hmm
    obtain ⟨w', g1, g2, g3⟩ := run_make_full (P := C.P) w 0 t e i z (C.T.sz e) (ok.tab.slice t e ht) i1 i4 i2 kn kc m (by rw [i3, Nat.mul_comm]; omega) hr2 (Nat.zero_le _)
    exact fin w' g1 (by
      have := made_flat z.cells m (by rw [i5]; exact he1)
      rw [i5] at this
      rw [← this]; exact g2) g3
  · obtain rfl : m = 0 := hm.resolve_left hmm
    obtain ⟨w', g1, g2, g3⟩ := run_make_own (P := C.P) w 0 t e i z (C.T.sz e) (ok.tab.slice t e ht) i1 i4 i2 kn kc mc (by rw [i3, Nat.mul_comm]; omega) hr2 (Nat.zero_le _)
    exact fin w' g1 g2 g3
theorem elems_sound (ok : C.Ok) (h : Rel C N st a w) {e q : Nat} {b : At} {news : List IV} {val : Value} (he2 : C.T.ty e ≠ .no) (hv : SlotV C N st.sh w (.a b) val) (hs : st.elems C.T e b = some (q, news)) :
    ∃ ad c, ∃ cf : Nat → List Value, val = .slice ad news.length c ∧ (∀ i, i < news.length → Rep C.T w (C.E N q) e (news.getD i .N) (cf i)) ∧ (ad = none → news = [] ∧ c = 0) ∧ ∀ x, ad = some x → ∀ j u, ((List.range news.length).flatMap cf)[j]? = some u → w.cell? (x.add j) = some u := by
  have fl : ∀ {n o g : Nat} {cf : Nat → List Value}, 0 < C.T.sz e → (∀ i, i < n → (cf i).length = C.T.sz e) → (∀ i, i < n → w.rangeAt g (o + i * C.T.sz e) (cf i)) → ∀ j u, ((List.range n).flatMap cf)[j]? = some u → w.cell? ((⟨g, o, none⟩ : Addr).add j) = some u := by
    intro n o g cf hz hl hw j u hj
    rw [Addr.add_mid]
    have hjl := (List.getElem?_eq_some_iff.1 hj).1
    rw [flat_length hl] at hjl
    have hx1 : j / C.T.sz e < n := (Nat.div_lt_iff_lt_mul hz).2 hjl
    have hx2 : j % C.T.sz e < C.T.sz e := Nat.mod_lt _ hz
    have hx3 : j = j / C.T.sz e * C.T.sz e + j % C.T.sz e := by rw [Nat.mul_comm]; exact (Nat.div_add_mod j _).symm
    have h1 := flat_get hl hx1 hx2
    rw [← hx3, hj] at h1
    have := hw _ hx1 _ u h1.symm
    rwa [Nat.add_assoc, ← hx3] at this
  cases b with
  | iv p t v =>
    simp only [St.elems] at hs
    split at hs
    · rename_i e' ht
      split at hs
      · rename_i ee; subst ee
        cases hs
        obtain ⟨cs, h2, h3⟩ := slot_iv hv
        cases h2 with
        | slice hty hb hc hl hw hr =>
          rename_i e' l b off cap cf
          rw [ht] at hty; cases hty
          refine ⟨some ⟨b, off, none⟩, cap, cf, by rw [h3]; simp [mkV, isAgg, ht, asL], hr, (fun h => by cases h), fun x hx => ?_⟩
          cases hx
          intro j u hj
          replace hj : ((List.range l.length).flatMap cf)[j]? = some u := hj
          have hz : 0 < C.T.sz e := by
            rcases Nat.eq_zero_or_pos (C.T.sz e) with hz | hz
            · have hjl := (List.getElem?_eq_some_iff.1 hj).1
              rw [flat_length hl, hz] at hjl; simp at hjl
            · exact hz
          exact fl hz hl (fun i hi j2 u2 hj2 => by rw [Nat.add_assoc]; exact hw i j2 u2 hi hj2) j u hj
        | none hty hn =>
          rename_i e' ad cap
          refine ⟨ad, cap, fun _ => [], by rw [h3]; simp [mkV, isAgg, ht, asL], fun i hi => by simp [asL] at hi, fun hx => ⟨rfl, hn hx⟩, fun x hx j u hj => by simp [asL] at hj⟩
        | nil _ => exact ⟨none, 0, fun _ => [], by rw [h3]; simp [mkV, isAgg, ht, asL], fun i hi => by simp [asL] at hi, fun _ => ⟨rfl, rfl⟩, fun x hx => by cases hx⟩
        | int h9 => rw [ht] at h9; cases h9
        | bool h9 => rw [ht] at h9; cases h9
        | str h9 => rw [ht] at h9; cases h9
        | agg h9 => rw [ht] at h9; cases h9
        | fn h9 => rw [ht] at h9; cases h9
        | ptr h9 => rw [ht] at h9; cases h9
      · cases hs
    · cases hs
  | own k =>
    simp only [St.elems] at hs
    split at hs
    · rename_i p e' l hk
      split at hs
      · rename_i ee; subst ee
        cases hs
        have hz := (h.rows k _ hk).1
        obtain ⟨cf, g1, g2, g3⟩ := arr_cells ok (h.rows k _ hk)
        have hval := slot_own hv
        rcases g2.2 with ⟨e1, e2⟩ | ⟨g, cap, cur, e1, _, hg, hnc, _, hcs, htk⟩
        · obtain rfl := List.eq_nil_of_length_eq_zero e2
          exact ⟨none, 0, cf, by rw [hval, e1]; rfl, fun i hi => by simp at hi, fun _ => ⟨rfl, rfl⟩, fun x hx => by cases hx⟩
        · refine ⟨some ⟨g, 0, none⟩, cap, cf, by rw [hval, e1], fun i hi => (g1 i hi).1, (fun h => by cases h), fun x hx => ?_⟩
          cases hx
          exact fl hz (fun i hi => (g1 i hi).2) (fun i hi => by rw [Nat.zero_add]; exact g3 g (by rw [e1]; rfl) i hi)
      · cases hs
    · cases hs
  | sub k n =>
    simp only [St.elems] at hs
    split at hs
    · rename_i p e' l hk
      split at hs
      · rename_i ee; subst ee
        split at hs
        · rename_i hn
          cases hs
          have hz := (h.rows k _ hk).1
          obtain ⟨cf, g1, g2, g3⟩ := arr_cells ok (h.rows k _ hk)
          obtain ⟨a2, len2, cap2, r1, r2, r3⟩ := slot_sub hv
          have hlen : (l.take n).length = n := by rw [List.length_take]; omega
          rcases g2.2 with ⟨e1, e2⟩ | ⟨g, cap, cur, e1, _, hg, hnc, _, hcs, htk⟩
          · obtain rfl := List.eq_nil_of_length_eq_zero e2
            rw [e1] at r1; cases r1
            obtain rfl : n = 0 := by simpa using hn
            exact ⟨none, 0, cf, by rw [r3]; rfl, fun i hi => by simp at hi, fun _ => ⟨rfl, rfl⟩, fun x hx => by cases hx⟩
          · rw [e1] at r1; cases r1
            rw [hlen]
            refine ⟨some ⟨g, 0, none⟩, _, cf, r3, fun i hi => ?_, (fun h => by cases h), fun x hx => ?_⟩
            · rw [show (l.take n).getD i .N = l.getD i .N by simp [List.getD, List.getElem?_take, hi]]
              exact (g1 i (by omega)).1
            · cases hx
              exact fl hz (fun i hi => (g1 i (by omega)).2) (fun i hi => by rw [Nat.zero_add]; exact g3 g (by rw [e1]; rfl) i (by omega))
        · cases hs
      · cases hs
    · cases hs
  | nil =>
    simp only [St.elems] at hs
    cases hs
    exact ⟨none, 0, fun _ => [], by rw [slot_nil hv]; rfl, fun i hi => by simp at hi, fun _ => ⟨rfl, rfl⟩, fun x hx => by cases hx⟩
  | _ => simp [St.elems] at hs
theorem blk_own {v : Value} (h : v.ownBlock = none ∨ ∃ a n c, v = .slice a n c) : blk v = v.ownBlock ∨ v.ownBlock = none := by
  cases v with
  | slice a n c => cases a <;> exact .inl rfl
  | _ => exact .inr rfl
theorem owns_blk {e n : Nat} {v : Value} {xs : List Value} {sz : Nat} (h : w.ownsRow 0 e sz v n xs) : blk v = v.ownBlock ∧ ∀ b, blk v = some b → b < w.heap.size := by
  rcases h.2 with ⟨rfl, _⟩ | ⟨g, cap, cur, rfl, _, hg, _⟩
  · exact ⟨rfl, fun b hb => by cases hb⟩
  · exact ⟨rfl, fun b hb => by cases hb; exact (Array.getElem?_eq_some_iff.1 hg).1⟩
theorem run_append' (ok : C.Ok) {t e : TypeId} (ht : C.T.ty t = .slice e) (he : C.T.okE e = true) (ty : TypeId) {v : Value} {n : Nat} {xs : List Value} (hown : w.ownsRow 0 e (C.T.sz e) v n xs) {ad : Option Addr} {m c : Nat} {news : List Value} (hl : news.length = m * C.T.sz e)
    (h0 : ad = none → m = 0 ∧ c = 0) (hnews : ∀ x, ad = some x → ∀ j u, news[j]? = some u → w.cell? (x.add j) = some u) (h1 : ∀ u ∈ news, u.oneCell' = true) (hr : roomFor (n + m) (C.T.row e).bytes = true) :
    ∃ v' w', (Builtin.append_ #[t, t] ty #[v, .slice ad m c]).run C.P w = .ok v' w' ∧ w'.ownsRow 0 e (C.T.sz e) v' (n + m) (xs ++ news) ∧ w.grownBy w' v.ownBlock ∧ (v'.ownBlock = v.ownBlock ∨ v'.ownBlock = some w.heap.size) := by
  obtain ⟨he1, he2⟩ := okE_iff he
  obtain ⟨hr1, hr2⟩ := room_spec hr
  obtain ⟨i, z, i1, i2, i3, i4, i5, _⟩ := ok.tab.info e he2
  have hu := ok.tab.slice t e ht
  cases ad with
  | none =>
    obtain ⟨rfl, rfl⟩ := h0 rfl
    have hn : news = [] := List.eq_nil_of_length_eq_zero (by simpa using hl)
    subst hn
    exact ⟨v, w, run_append_owned_none (P := C.P) w 0 t ty e i _ hu i1 v n xs hown, by simpa using hown, ⟨rfl, rfl, rfl, Nat.le_refl _, fun _ _ _ => rfl⟩, .inl rfl⟩
  | some ad =>
    have hnw := hnews ad rfl
    obtain ⟨v', w', g1, g2, g3, g4⟩ := run_append_own (P := C.P) w 0 t ty e i z (C.T.sz e) (C.T.row e).bytes hu i1 i4 i2 i3 i5 he1 v n xs hown ad m c news hl hnw h1 hr2 hr1 (Nat.zero_le _)
    refine ⟨v', w', g1, g2, g3, ?_⟩
    have h63 : n + m ≤ 9223372036854775807 := by unfold maxLen at hr2; omega
    rcases hown.2 with ⟨rfl, rfl⟩ | ⟨g, cap, cur, rfl, _, hg, hnc, hcm, hcs, htk⟩
    · by_cases hm : m = 0
      · left; rw [g4.2 ⟨rfl, hm⟩]
      · right
        have := run_append_nil (P := C.P) w t ty e i z hu i1 i4 ad m c news (by rw [i2]; exact hl) hnw (by omega) (by omega) (by rw [i3]; simp only [Nat.zero_add] at hr1; omega)
        rw [g1] at this
        cases this; rfl
    · by_cases hroom : n + m ≤ cap
      · left
        obtain ⟨w2, q1, _⟩ := run_append_fits (P := C.P) w 0 t ty e i (C.T.sz e) hu i1 i2 g n cap xs hown ad m c news hl hnw h1 hroom
        rw [g1] at q1
        cases q1; rfl
      · right
        have holds : ∀ j u, xs[j]? = some u → w.cell? ((⟨g, 0, none⟩ : Addr).add j) = some u := hown.cells (g := g) rfl
        have := run_append_grow (P := C.P) w t ty e i z hu i1 i4 ⟨g, 0, none⟩ n cap xs (by rw [i2]; exact hown.1) holds ad m c news (by rw [i2]; exact hl) hnw (by omega) (by omega) (growslice_fits (by omega) (by rw [i3]; exact hr1))
        rw [g1] at this
        cases this; rfl
theorem Rel.grown (ok : C.Ok) (h : Rel C N st a w) {k : Nat} (hk : (st.row k).isSome) (hg : w.grownBy w' (blk (N.β k))) : Rel C N (st.kill k) a w' := by
  have h1 := h.kill k
  have hE : ∀ p b, C.E N p b → w'.heap[b]? = w.heap[b]? := fun p b hb => hg.block b (h.elt ok hb) (fun e => h.eown ok hk e.symm hb)
  have L : Lift C N N (st.kill k).sh (st.kill k).sh w w' (fun _ => True) (fun x => x) := Lift.keep (fun _ _ h => h) hE (fun x => .inl rfl) (fun _ _ _ => ⟨rfl, rfl⟩)
  have em : (st.kill k).env = (st.kill k).env.map (SV.map fun x => x) := by rw [show SV.map (fun x => x) = id from funext SV.map_id, List.map_id]
  have hne : ∀ j b, ((st.kill k).row j).isSome → blk (N.β j) = some b → some b ≠ blk (N.β k) := fun j b hj hb e => (kill_some hj).2 (h.frm.sep j k b (kill_some hj).1 hk hb e.symm)
  refine h1.lift L em (fun _ _ _ => trivial) (fun j r hr => ?_) ?_
  · have := L.row (fun _ _ h => h) hE (k := j) rfl (fun b hb => hg.block b (h1.frm.own j b (by rw [hr]; rfl) hb).2.2 (hne j b (by rw [hr]; rfl) hb)) (fun _ _ => trivial) (h1.rows j r hr)
    rwa [row_map_id] at this
  · exact { own := fun j b q1 q2 => by obtain ⟨x, y, z⟩ := h1.frm.own j b q1 q2; exact ⟨x, y, Nat.lt_of_lt_of_le z hg.size⟩
            sep := h1.frm.sep
            fz := fun b hb => ⟨(h1.frm.fz b hb).1, Nat.lt_of_lt_of_le (h1.frm.fz b hb).2 hg.size⟩
            frame := fun b q1 q2 => by
              rw [hg.block b (Nat.lt_of_lt_of_le q1 h.frm.size) (fun e => by
                obtain ⟨x, _, _⟩ := h.frm.own k b hk e.symm
                rcases x with x | x
                · exact q2 x
                · omega)]
              exact h.frm.frame b q1 q2
            os := hg.os.trans h.frm.os
            tape := hg.tape.trans h.frm.tape
            output := hg.output.trans h.frm.output
            size := Nat.le_trans h.frm.size hg.size }
theorem exec_append {s x : Operand} {t : TypeId} {cl : Call} {v' : Value} {P : Program} (ho : o.op = .call cl) (hc : cl.callee = .builtin .append) (ha : cl.args = #[s, x]) (hat : cl.argTypes = #[t, t]) (hr : (Builtin.append_ #[t, t] o.type #[a.eval s, a.eval x]).run P w = .ok v' w') : (execOp a.eval o).run P w = .ok (.value v') w' := by
  unfold execOp
  simp only [ho, resolve, hc, ha, hat, invoke, builtin, List.map_toArray, List.map_cons, List.map_nil, Sem.run_bind, Sem.run_pure, Result.andThen_ok, hr]
theorem append_list {l m : List IV} {cf cg : Nat → List Value} {p q e : Nat} {E1 E2 E3 : Nat → Prop} (h1 : ∀ i, i < l.length → Rep C.T w E1 e (l.getD i .N) (cf i)) (h2 : ∀ i, i < m.length → Rep C.T w E2 e (m.getD i .N) (cg i)) (hE1 : ∀ b, E1 b → E3 b) (hE2 : ∀ b, E2 b → E3 b) :
    (∀ i, i < (l ++ m).length → Rep C.T w E3 e ((l ++ m).getD i .N) ((fun i => if i < l.length then cf i else cg (i - l.length)) i)) ∧ (List.range (l ++ m).length).flatMap (fun i => if i < l.length then cf i else cg (i - l.length)) = (List.range l.length).flatMap cf ++ (List.range m.length).flatMap cg := by
  constructor
  · intro i hi
    rw [List.length_append] at hi
    show Rep C.T w E3 e ((l ++ m).getD i .N) (if i < l.length then cf i else cg (i - l.length))
    by_cases hl : i < l.length
    · rw [if_pos hl, show (l ++ m).getD i .N = l.getD i .N by simp only [List.getD]; rw [List.getElem?_append_left hl]]
      exact (h1 i hl).mono hE1 (fun _ _ => rfl)
    · rw [if_neg hl, show (l ++ m).getD i .N = m.getD (i - l.length) .N by simp only [List.getD]; rw [List.getElem?_append_right (by omega)]]
      exact (h2 _ (by omega)).mono hE2 (fun _ _ => rfl)
  · rw [List.length_append, List.range_add, List.flatMap_append, List.flatMap_map]
    congr 1
    · have : ∀ n, n ≤ l.length → (List.range n).flatMap (fun i => if i < l.length then cf i else cg (i - l.length)) = (List.range n).flatMap cf := by
        intro n
        induction n with
        | zero => intro _; rfl
        | succ n ih => intro hn; rw [List.range_succ, List.flatMap_append, List.flatMap_append, ih (by omega)]; simp [show n < l.length by omega]
      exact this _ (Nat.le_refl _)
    · have : ∀ n, (List.range n).flatMap (fun x => if l.length + x < l.length then cf (l.length + x) else cg (l.length + x - l.length)) = (List.range n).flatMap cg := by
        intro n
        induction n with
        | zero => rfl
        | succ n ih => rw [List.range_succ, List.flatMap_append, List.flatMap_append, ih]; simp [show ¬ l.length + n < l.length by omega]
      exact this _
theorem slot_asNil {sh : Nat → Option Sh} {t e : TypeId} {y : At} {v : Value} (ht : C.T.ty t = .slice e) (h : SlotV C N sh w (.a y) v) (hy : y.asNil t = .nil) : v = .slice none 0 0 := by
  cases y with
  | nil => exact slot_nil h
  | iv p t' u =>
    cases u with
    | N =>
      simp only [At.asNil] at hy
      split at hy
      · rename_i e1; subst e1
        obtain ⟨cs, h2, h3⟩ := slot_iv h
        cases h2 with
        | nil _ => rw [h3]; simp [mkV, isAgg, ht]
        | fn h' => rw [ht] at h'; cases h'
        | ptr h' => rw [ht] at h'; cases h'
      · cases hy
    | _ => cases hy
  | _ => cases hy
theorem asNil_own {t k : Nat} {y : At} (hy : y.asNil t = .own k) : y = .own k := by
  cases y with
  | own j => exact hy
  | iv p t' u =>
    cases u with
    | N =>
      simp only [At.asNil] at hy
      split at hy <;> cases hy
    | _ => cases hy
  | _ => cases hy
theorem s_append {s x : Operand} {t e q : TypeId} {cl : Call} {y b z : At} {news : List IV} {hh : Option Hint} (ok : C.Ok) (ho : o.op = .call cl) (hc : cl.callee = .builtin .append) (ha : cl.args = #[s, x]) (hat : cl.argTypes = #[t, t]) (ht : C.T.ty t = .slice e) (hs : get1 st s = some y) (hx : get1 st x = some b) (hel : st.elems C.T e b = some (q, news))
    (hcase : (y.asNil t = .nil ∧ roomFor news.length (C.T.row e).bytes = true ∧ C.T.okE e = true ∧ st.placeArr hh t q e news = (st', z)) ∨
      ∃ k p l, y = .own k ∧ st.row k = some (.arr p e l) ∧ roomFor (l.length + news.length) (C.T.row e).bytes = true ∧ C.T.okE e = true ∧ (st.kill k).placeArr hh t (mn p q) e (l ++ news) = (st', z)) : Sound C o st (st'.setA o.dst z) := by
  intro N a w K Q h hk
  have he : C.T.okE e = true := by rcases hcase with ⟨_, _, h, _⟩ | ⟨_, _, _, _, _, _, h, _⟩ <;> exact h
  obtain ⟨he1, he2⟩ := okE_iff he
  obtain ⟨ad, c, cf, g1, g2, g3, g4⟩ := elems_sound ok h he2 (get1_slot h hx) hel
  have hlc : ∀ i, i < news.length → (cf i).length = C.T.sz e := fun i hi => (g2 i hi).len ok.tab
  have h1c : ∀ u ∈ (List.range news.length).flatMap cf, u.oneCell' = true := by
    intro u hu
    obtain ⟨i, hi, hu⟩ := List.mem_flatMap.1 hu
    exact (g2 i (by simpa using hi)).one u hu
  have fr := h.fresh ok
  have hsl := get1_slot h hs
  rcases hcase with ⟨hyn, hr, _, hp⟩ | ⟨k, p, l, rfl, hkr, hr, _, hp⟩
  · obtain ⟨v', w', r1, r2, r3, r4⟩ := run_append' ok ht he o.type (World.ownsRow_nil w 0 e (C.T.sz e)) (ad := ad) (m := news.length) (c := c) (news := (List.range news.length).flatMap cf) (flat_length hlc) (fun hn => by obtain ⟨q1, q2⟩ := g3 hn; exact ⟨by rw [q1]; rfl, q2⟩) g4 h1c (by simpa using hr)
    have hb := below_grown r3
    have hR := h.grow ok hb
    obtain ⟨N1, m1, m2⟩ := placeArr_sound (v := v') (cf := cf) ok hR ht he (fun i hi => (g2 i hi).mono (fun _ h => h) (fun b hb2 => hb.block b (h.elt ok hb2))) (by simpa using r2)
      (fun b hb2 => by
        obtain ⟨o1, o2⟩ := owns_blk r2
        rw [o1] at hb2
        rcases r4 with r4 | r4
        · rw [r4] at hb2; cases hb2
        · rw [r4] at hb2; cases hb2
          exact ⟨fr.1, fr.2.1, o2 _ (o1.trans r4), fr.2.2⟩) hp
    refine wp_value (v := v') (w' := w') (exec_append ho hc ha hat ?_) (hk N1 _ _ (m1.set (x := .v (.a z)) m2))
    rw [slot_asNil ht hsl hyn, g1]; exact r1
  · obtain ⟨q1, q2, cg, q3, q4⟩ := h.rows k _ hkr
    obtain ⟨v', w', r1, r2, r3, r4⟩ := run_append' ok ht he o.type q4 (ad := ad) (m := news.length) (c := c) (news := (List.range news.length).flatMap cf) (flat_length hlc) (fun hn => by obtain ⟨q1, q2⟩ := g3 hn; exact ⟨by rw [q1]; rfl, q2⟩) g4 h1c hr
    obtain ⟨o3, o4⟩ := owns_blk q4
    rw [← o3] at r3 r4
    have hR := h.grown ok (by rw [hkr]; rfl) r3
    have hE : ∀ p b, C.E N p b → w'.heap[b]? = w.heap[b]? := fun p b hb => r3.block b (h.elt ok hb) (fun e => h.eown ok (by rw [hkr]; rfl) e.symm hb)
    obtain ⟨s1, s2⟩ := append_list (C := C) (w := w') (p := p) (q := q) (fun i hi => (q3 i hi).mono (fun _ h => h) (hE p)) (fun i hi => (g2 i hi).mono (fun _ h => h) (hE q)) (fun b hb => Cx.E.anti ok (mn_le p q).1 hb) (fun b hb => Cx.E.anti ok (mn_le p q).2 hb)
    obtain ⟨N1, m1, m2⟩ := placeArr_sound (v := v') (p := mn p q) ok hR ht he s1 (by rw [s2, List.length_append]; exact r2)
      (fun b hb2 => by
        obtain ⟨o1, o2⟩ := owns_blk r2
        have hlt := o2 b hb2
        rw [o1] at hb2
        rcases r4 with r4 | r4
        · rw [r4] at hb2
          obtain ⟨x1, x2, x3⟩ := h.frm.own k b (by rw [hkr]; rfl) hb2
          exact ⟨x1, x2, hlt, fun j hj e => (kill_some hj).2 (h.frm.sep j k b (kill_some hj).1 (by rw [hkr]; rfl) e hb2)⟩
        · rw [r4] at hb2; cases hb2
          exact ⟨fr.1, fr.2.1, hlt, fun j hj => fr.2.2 j (kill_some hj).1⟩) hp
    refine wp_value (v := v') (w' := w') (exec_append ho hc ha hat ?_) (hk N1 _ _ (m1.set (x := .v (.a z)) m2))
    rw [slot_own hsl, g1]; exact r1
theorem run_copy_gen {P : Program} (w : World) (dT sT ty elem : TypeId) (sz N : Nat) (D S : Option Addr) (dl dc sl sc : Nat) (cs : List Value) (hu : P.underlying dT = some (.slice elem)) (hs : (P.info? elem).map (·.size) = some sz)
    (hn : N = Nat.min sl dl) (hcs : cs.length = N * sz) (hsrc : 0 < N → ∃ a, S = some a ∧ ∀ j v, cs[j]? = some v → w.cell? (a.add j) = some v) (w1 : World)
    (hst : 0 < N → ∃ a, D = some a ∧ (storeCells a cs).run P w = .ok () w1) (h0 : N = 0 → w1 = w) :
    (Builtin.copy_ #[dT, sT] ty #[.slice D dl dc, .slice S sl sc]).run P w = .ok (goInt N) w1 := by
  cases hq : P.info? elem with
  | none => simp [hq] at hs
  | some i =>
    have hi : i.size = sz := by simpa [hq] using hs
    rcases Nat.eq_zero_or_pos N with hz | hp
    · have hcs0 : cs = [] := List.eq_nil_of_length_eq_zero (by rw [hcs, hz]; simp)
      rw [h0 hz]
      cases S with
      | none =>
        cases D <;> simp [Builtin.copy_, run_underlying hu, Builtin.lenOf, Builtin.firstCells, sizeOf, typeInfo, hq, hi, ← hn, hz, loadCells, loadCellsFrom, storeCells]
      | some a =>
        cases D <;> simp [Builtin.copy_, run_underlying hu, Builtin.lenOf, Builtin.firstCells, sizeOf, typeInfo, hq, hi, ← hn, hz, loadCells, loadCellsFrom, storeCells]
    · obtain ⟨a, rfl, hc⟩ := hsrc hp
      obtain ⟨b, rfl, hs2⟩ := hst hp
      have hl := run_loadCells_list (P := P) w a cs hc
      rw [hcs] at hl
      simp [Builtin.copy_, run_underlying hu, Builtin.lenOf, Builtin.firstCells, sizeOf, typeInfo, hq, hi, ← hn, hl, hs2]
theorem exec_copy {s x : Operand} {t : TypeId} {cl : Call} {v' : Value} {P : Program} (ho : o.op = .call cl) (hc : cl.callee = .builtin .copy) (ha : cl.args = #[s, x]) (hat : cl.argTypes = #[t, t]) (hr : (Builtin.copy_ #[t, t] o.type #[a.eval s, a.eval x]).run P w = .ok v' w') : (execOp a.eval o).run P w = .ok (.value v') w' := by
  unfold execOp
  simp only [ho, resolve, hc, ha, hat, invoke, builtin, List.map_toArray, List.map_cons, List.map_nil, Sem.run_bind, Sem.run_pure, Result.andThen_ok, hr]
theorem s_copy {d s : Operand} {t e q k p : Nat} {cl : Call} {v : IV} {l : List IV} (ok : C.Ok) (ho : o.op = .call cl) (hc : cl.callee = .builtin .copy) (ha : cl.args = #[d, s]) (hat : cl.argTypes = #[t, t]) (ht : C.T.ty t = .slice e) (hd : get1 st d = some (.own k)) (hs : get1 st s = some (.iv q t v)) (hkr : st.row k = some (.arr p e l)) (hl : (asL v).length = l.length) (he : C.T.okE e = true) :
    Sound C o st ((st.putRow k (some (.arr (mn p q) e (asL v)))).setA o.dst (.int .i64 l.length)) := by
  intro N a w K Q h hk
  obtain ⟨he1, he2⟩ := okE_iff he
  obtain ⟨ad, c, cf, g1, g2, g3, g4⟩ := elems_sound ok h he2 (get1_slot h hs) (news := asL v) (q := q) (by simp [St.elems, ht])
  obtain ⟨q1, q2, cg, q3, q4⟩ := h.rows k _ hkr
  have hsl := slot_own (get1_slot h hd)
  have hlc : ∀ i, i < (asL v).length → (cf i).length = C.T.sz e := fun i hi => (g2 i hi).len ok.tab
  have h1c : ∀ u ∈ (List.range (asL v).length).flatMap cf, u.oneCell' = true := by
    intro u hu
    obtain ⟨i, hi, hu⟩ := List.mem_flatMap.1 hu
    exact (g2 i (by simpa using hi)).one u hu
  obtain ⟨i, z, i1, i2, i3, i4, i5, _⟩ := ok.tab.info e he2
  have hu := ok.tab.slice t e ht
  have key : ∃ w', (Builtin.copy_ #[t, t] o.type #[N.β k, .slice ad (asL v).length c]).run C.P w = .ok (goInt l.length) w' ∧ Rel C N (st.putRow k (some (.arr (mn p q) e (asL v)))) a w' := by
    have hfl : ((List.range (asL v).length).flatMap cf).length = l.length * C.T.sz e := by rw [flat_length hlc, hl]
    rcases q4.2 with ⟨e1, e2⟩ | ⟨g, cap, cur, e1, _, hg, hnc, hcm, hcs, htk⟩
    · have hv : asL v = [] := List.eq_nil_of_length_eq_zero (hl.trans e2)
      refine ⟨w, ?_, ?_⟩
      · rw [e1, e2]
        exact run_copy_gen w t t o.type e (C.T.sz e) 0 none ad 0 0 _ c [] hu (by rw [i1]; simp [i2]) (by simp) (by simp) (fun h => absurd h (by omega)) w (fun h => absurd h (by omega)) (fun _ => rfl)
      · refine h.wr ok hkr (r' := .arr (mn p q) e (asL v)) rfl (fun _ _ => rfl) rfl rfl rfl rfl ⟨q1, q2, cf, fun i hi => ?_, ?_⟩
        · rw [hv] at hi; exact absurd hi (by simp)
        · rw [hv]; exact ⟨by simp, .inl ⟨e1, rfl⟩⟩
    · have hb : blk (N.β k) = some g := by rw [e1]; rfl
      have hcap := Nat.mul_le_mul_right (C.T.sz e) hnc
      have hst := run_storeCells_at C.P g 0 e ((List.range (asL v).length).flatMap cf) 0 cur w hg (by omega) h1c
      have hw : ∀ j, blk (N.β k) ≠ some j → (w.setRow g (splice cur.toList 0 ((List.range (asL v).length).flatMap cf)).toArray).heap[j]? = w.heap[j]? := fun j hj => setRow_other w g j _ (fun e => hj (by rw [hb, e]))
      have hE : ∀ p i2, C.E N p i2 → (w.setRow g (splice cur.toList 0 ((List.range (asL v).length).flatMap cf)).toArray).heap[i2]? = w.heap[i2]? := fun p i2 hi2 => hw i2 (fun e => h.eown ok (by rw [hkr]; rfl) e hi2)
      refine ⟨w.setRow g (splice cur.toList 0 ((List.range (asL v).length).flatMap cf)).toArray, ?_, ?_⟩
      · rw [e1]
        refine run_copy_gen w t t o.type e (C.T.sz e) l.length (some ⟨g, 0, none⟩) ad l.length cap (asL v).length c _ hu (by rw [i1]; simp [i2]) (by simp [hl]) hfl (fun hp => ?_) _ (fun hp => ⟨_, rfl, ?_⟩) (fun hz => ?_)
        · cases ad with
          | none => have := (g3 rfl).1; rw [← hl, this] at hp; exact absurd hp (by simp)
          | some x => exact ⟨x, rfl, g4 x rfl⟩
        · simpa [splice] using hst
        · have : (List.range (asL v).length).flatMap cf = [] := List.eq_nil_of_length_eq_zero (by rw [hfl, hz, Nat.zero_mul])
          rw [this]
          simpa [splice] using setRow_self w g cur e (0, 0) hg
      · refine h.wr ok hkr (r' := .arr (mn p q) e (asL v)) rfl hw (by simp [World.setRow]) rfl rfl rfl ⟨q1, q2, cf, fun j hj => ?_, ?_⟩
        · exact (g2 j hj).mono (fun b hb => Cx.E.anti ok (mn_le p q).2 hb) (hE _)
        · have hsp : (splice cur.toList 0 ((List.range (asL v).length).flatMap cf)).length = cur.size := by rw [splice_length (by simp only [Array.length_toList]; omega)]; simp
          refine ⟨by rw [hfl, hl], .inr ⟨g, cap, _, by rw [e1, hl], Nat.zero_le _, setRow_heap w g cur _ e _ hg, by rw [hl]; exact hnc, hcm, by simp [hsp, hcs], ?_⟩⟩
          simp only [splice, List.take_zero, List.nil_append]
          rw [hl] at hfl ⊢
          exact List.take_left' hfl
  obtain ⟨w', r1, r2⟩ := key
  refine wp_value (v := goInt l.length) (w' := w') (exec_copy ho hc ha hat ?_) (hk N _ _ (r2.set (x := .v (.a (.int .i64 l.length))) of_int))
  rw [hsl, g1]; exact r1
end
end Go.Ev
end
section
set_option linter.unusedVariables false
set_option linter.unusedSimpArgs false
namespace Go.Ev
open Go.RowKit
section
set_option maxHeartbeats 1000000
variable {C : Cx} {N N' : Nm} {st st' : St} {a : Act} {w w' : World} {o : Oper} {K : Act → World → Prop} {Q : Exit → Act → World → Prop} {c : V1} {v : Value}
theorem natI_some {n : Int} {m : Nat} (h : natI n = some m) : n = (m : Int) := by
  unfold natI at h
  split at h
  · cases h; omega
  · cases h
theorem run_bound {k : IntKind} {m y : Nat} (h : m ≤ y) (code : BoundsCode) (P : Program) (w : World) : (Instr.sliceBound (.int k (m : Int)) y code).run P w = .ok m w := by
  simp only [Instr.sliceBound, asIntOf, Sem.run_bind, Sem.run_pure, Result.andThen_ok]
  rw [if_pos ⟨by omega, by omega⟩]
  simp
theorem run_bounds (h : Rel C N st a w) {isSlice : Bool} {len cap l hi : Nat} {low high : Option Operand} (h1 : bnd st high len = some hi) (h2 : bnd st low 0 = some l) (h3 : hi ≤ cap) (h4 : l ≤ hi) :
    (Instr.sliceBounds isSlice len cap (low.map a.eval) (high.map a.eval) none).run C.P w = .ok (l, hi, cap) w := by
  have key : ∀ {b : Option Operand} {d n : Nat}, bnd st b d = some n → (b = none ∧ n = d) ∨ ∃ x k, b = some x ∧ a.eval x = .int k (n : Int) := by
    intro b d n hb
    cases b with
    | none => simp only [bnd, Option.some.injEq] at hb; exact .inl ⟨rfl, hb.symm⟩
    | some x =>
      simp only [bnd] at hb
      rw [Option.bind_eq_some_iff] at hb
      obtain ⟨⟨k, m⟩, g1, g2⟩ := hb
      have e := natI_some g2
      subst e
      exact .inr ⟨x, k, rfl, getI_val h g1⟩
  unfold Instr.sliceBounds
  rcases key h1 with ⟨rfl, e0⟩ | ⟨x, k, rfl, e⟩ <;> rcases key h2 with ⟨rfl, e1⟩ | ⟨y, k2, rfl, e2⟩
  · subst e0; subst e1
    simp only [Option.map_none, Sem.run_bind, Sem.run_pure, Result.andThen_ok]
  · subst e0
    simp only [Option.map_some, Option.map_none, e2, Sem.run_bind, Sem.run_pure, Result.andThen_ok, run_bound h4]
  · subst e1
    simp only [Option.map_some, Option.map_none, e, Sem.run_bind, Sem.run_pure, Result.andThen_ok, run_bound h3]
  · simp only [Option.map_some, Option.map_none, e, e2, Sem.run_bind, Sem.run_pure, Result.andThen_ok, run_bound h3, run_bound h4]
theorem addr_add_zero (a : Option Addr) : a.map (·.add 0) = a := by cases a <;> simp [Addr.add]
theorem run_sliceAt (ok : C.Ok) (h : Rel C N st a w) {t e : TypeId} (ht : C.T.ty t = .slice e) (he : C.T.ty e ≠ .no) {ad : Option Addr} {len cap l hi : Nat} {low high : Option Operand} (h1 : bnd st high len = some hi) (h2 : bnd st low 0 = some l) (h3 : hi ≤ cap) (h4 : l ≤ hi) :
    (Instr.sliceAt t (.slice ad len cap) (low.map a.eval) (high.map a.eval) none).run C.P w = .ok (.slice (if cap = l then ad else ad.map (·.add (l * C.T.sz e))) (hi - l) (cap - l)) w := by
  have hu := ok.tab.slice t e ht
  simp only [Instr.sliceAt, Instr.slice, Sem.run_bind, run_underlying hu, Result.andThen_ok, run_bounds h h1 h2 h3 h4, run_sizeOf' ok.tab he, Sem.run_pure]
theorem exec_slice {t : TypeId} {x : Operand} {lo hi : Option Operand} {val : Value} {P : Program} (ho : o.op = .slice t x lo hi none) (hr : (Instr.sliceAt t (a.eval x) (lo.map a.eval) (hi.map a.eval) none).run P w = .ok val w) : (execOp a.eval o).run P w = .ok (.value val) w := by
  unfold execOp
  simp only [ho, Option.map_none, Sem.run_bind, hr, Result.andThen_ok, Sem.run_pure]
theorem cut_length {l : List IV} {lo hi : Nat} (h1 : hi ≤ l.length) : (cut l lo hi).length = hi - lo := by simp only [cut, List.length_drop, List.length_take]; omega
theorem cut_get {l : List IV} {lo hi i : Nat} (h : i < hi - lo) : (cut l lo hi).getD i .N = l.getD (lo + i) .N := by
  simp only [List.getD, cut, List.getElem?_drop, List.getElem?_take]
  rw [if_pos (by omega)]
theorem s_slice_iv {t e : TypeId} {x : Operand} {lo hi : Option Operand} {p l m : Nat} {u : IV} (ok : C.Ok) (ho : o.op = .slice t x lo hi none) (ht : C.T.ty t = .slice e) (hx : st.get x = .v (.a (.iv p t u))) (h1 : bnd st hi (asL u).length = some m) (h2 : bnd st lo 0 = some l) (h3 : l ≤ m) (h4 : m ≤ (asL u).length) (hee : C.T.ty e ≠ .no) :
    Sound C o st (st.setA o.dst (.iv p t (.L (cut (asL u) l m)))) := by
  intro N a w K Q h hk
  have hsl := h.get x
  rw [hx] at hsl
  obtain ⟨cs, g1, g2⟩ := slot_iv hsl
  have fin : ∀ {ad : Option Addr} {len cap : Nat}, a.eval x = .slice ad len cap → len = (asL u).length → len ≤ cap → Rep C.T w (C.E N p) t (.L (cut (asL u) l m)) [.slice (if cap = l then ad else ad.map (·.add (l * C.T.sz e))) (m - l) (cap - l)] → o.wp C.P a w K Q := by
    intro ad len cap q1 q2 q3 q4
    subst q2
    refine h.value (v := .slice (if cap = l then ad else ad.map (·.add (l * C.T.sz e))) (m - l) (cap - l)) (x := .v (.a (.iv p t (.L (cut (asL u) l m))))) (exec_slice ho ?_) (fun _ => ⟨_, q4, by simp [mkV, At.agg, isAgg, ht]⟩) hk
    rw [q1]
    exact run_sliceAt ok h ht hee h1 h2 (by omega) h3
  have hcl := cut_length (l := asL u) (lo := l) h4
  have empty : ∀ {ad : Option Addr} {cap : Nat}, m - l = 0 → (ad = none → cap = 0) → Rep C.T w (C.E N p) t (.L (cut (asL u) l m)) [.slice (if cap = l then ad else ad.map (·.add (l * C.T.sz e))) (m - l) (cap - l)] := by
    intro ad cap q1 q3
    rw [q1] at hcl ⊢
    rw [List.eq_nil_of_length_eq_zero hcl]
    refine .none ht (fun hx => ?_)
    · split at hx
      · omega
      · have : ad = none := by cases ad <;> simp at hx ⊢
        have := q3 this; omega
  cases g1 with
  | slice hty hb hc hl hw hr =>
    rename_i e' ls b off cap cf
    rw [ht] at hty; cases hty
    have hv : a.eval x = .slice (some ⟨b, off, none⟩) ls.length cap := by rw [g2]; simp [mkV, isAgg, ht]
    refine fin hv rfl hc ?_
    by_cases hz : m - l = 0
    · exact empty hz (fun h => by cases h)
    · have hm : m ≤ ls.length := h4
      rw [if_neg (by omega)]
      simp only [Option.map_some, Addr.add_mid]
      rw [← hcl]
      refine .slice (cf := fun i => cf (l + i)) ht hb (by rw [hcl]; omega) (fun i hi => hl _ (by rw [hcl] at hi; omega)) (fun i j q hi hj => ?_) (fun i hi => ?_)
      · rw [hcl] at hi
        have := hw (l + i) j q (by omega) hj
        rwa [Nat.add_mul, show off + (l * C.T.sz e + i * C.T.sz e + j) = off + l * C.T.sz e + (i * C.T.sz e + j) by omega] at this
      · rw [hcl] at hi
        rw [cut_get hi]
        exact hr (l + i) (by omega)
  | none hty hn =>
    rename_i e' ad cap
    have h4' : m = 0 := by simpa [asL] using h4
    have hv : a.eval x = .slice ad 0 cap := by rw [g2]; simp [mkV, isAgg, ht]
    exact fin hv rfl (Nat.zero_le _) (empty (by omega) hn)
  | nil hty =>
    have h4' : m = 0 := by simpa [asL] using h4
    have hv : a.eval x = .slice none 0 0 := by rw [g2]; simp [mkV, isAgg, ht]
    exact fin hv rfl (Nat.zero_le _) (empty (by omega) (fun _ => rfl))
  | int h9 => rw [ht] at h9; cases h9
  | bool h9 => rw [ht] at h9; cases h9
  | str h9 => rw [ht] at h9; cases h9
  | agg h9 => rw [ht] at h9; cases h9
  | fn h9 => rw [ht] at h9; cases h9
  | ptr h9 => rw [ht] at h9; cases h9
theorem s_slice_own {t e : TypeId} {x : Operand} {lo hi : Option Operand} {p k m : Nat} {l : List IV} (ok : C.Ok) (ho : o.op = .slice t x lo hi none) (ht : C.T.ty t = .slice e) (hx : st.get x = .v (.a (.own k))) (hr : st.row k = some (.arr p e l)) (h1 : bnd st hi l.length = some m) (h2 : bnd st lo 0 = some 0) (h4 : m ≤ l.length) :
    Sound C o st (st.setA o.dst (.sub k m)) := by
  intro N a w K Q h hk
  have hsl := h.get x
  rw [hx] at hsl
  obtain ⟨q1, q2, cf, q3, q4⟩ := h.rows k _ hr
  have hv : ∃ ad cap, N.β k = .slice ad l.length cap ∧ l.length ≤ cap := by
    rcases q4.2 with ⟨e1, e2⟩ | ⟨g, cap, cur, e1, _, _, hnc, _⟩
    · exact ⟨none, 0, by rw [e1, e2], by omega⟩
    · exact ⟨_, cap, e1, hnc⟩
  obtain ⟨ad, cap, hv, hle⟩ := hv
  have h5 := run_sliceAt ok h ht q2 (ad := ad) (len := l.length) (cap := cap) h1 h2 (by omega) (Nat.zero_le _)
  have e1 : (if cap = 0 then ad else ad.map (·.add (0 * C.T.sz e))) = ad := by rw [Nat.zero_mul, addr_add_zero]; split <;> rfl
  rw [e1, Nat.sub_zero, Nat.sub_zero] at h5
  refine h.value (v := .slice ad m cap) (x := .v (.a (.sub k m))) (exec_slice ho ?_) (fun _ => ⟨_, ⟨⟨ad, l.length, cap, hv, by omega, rfl⟩, e, by rw [St.sh, hr]; rfl⟩, rfl⟩) hk
  rw [slot_own hsl, hv]; exact h5
theorem s_slice_str {t : TypeId} {x : Operand} {lo hi : Option Operand} {l m : Nat} {s : ByteArray} (ok : C.Ok) (ho : o.op = .slice t x lo hi none) (ht : C.T.ty t = .str) (hx : st.get x = .v (.a (.str s))) (h1 : bnd st hi s.size = some m) (h2 : bnd st lo 0 = some l) (h3 : l ≤ m) (h4 : m ≤ s.size) :
    Sound C o st (st.setA o.dst (.str (s.extract l m))) := by
  intro N a w K Q h hk
  have hsl := h.get x
  rw [hx] at hsl
  refine h.value (v := .string (s.extract l m)) (exec_slice ho ?_) of_str hk
  rw [slot_str hsl]
  have hu := ok.tab.str t ht
  simp only [Instr.sliceAt, Instr.slice, Sem.run_bind, run_underlying hu, Result.andThen_ok, run_bounds h h1 h2 h4 h3, Sem.run_pure, Option.isSome_none, Bool.false_eq_true, if_false]
end
end Go.Ev
end
section
set_option linter.unusedVariables false
set_option linter.unusedSimpArgs false
namespace Go.Ev
open Go.RowKit
section
set_option maxHeartbeats 1000000
variable {C : Cx} {N N' : Nm} {st st' : St} {a : Act} {w w' : World} {o : Oper} {K : Act → World → Prop} {Q : Exit → Act → World → Prop} {c : V1} {v : Value}
theorem nodup_cons {k : Nat} {l : List Nat} (h : nodup (k :: l) = true) : k ∉ l ∧ nodup l = true := by
  simp only [nodup, Bool.and_eq_true, Bool.not_eq_true', List.contains_eq_mem, decide_eq_false_iff_not] at h
  exact h
theorem lookup_mem {i : Nat} {x : Operand} : ∀ {L : List (Nat × Operand)}, nodup (L.map (·.1)) = true → (i, x) ∈ L → L.lookup i = some x
  | [], _, h => by cases h
  | (j, y) :: L, hn, hm => by
    obtain ⟨n1, n2⟩ := nodup_cons hn
    rcases List.mem_cons.1 hm with h | hm
    · cases h; simp [List.lookup_cons]
    · have : i ≠ j := fun e => n1 (by rw [← e]; exact List.mem_map.2 ⟨(i, x), hm, rfl⟩)
      rw [List.lookup_cons, beq_eq_false_iff_ne.2 this]
      exact lookup_mem n2 hm
theorem fill_windows (off sz : Nat → Nat) (n total : Nat) (hsep : ∀ i j, i < j → j < n → off i + sz i ≤ off j) (hle : ∀ j, j < n → off j + sz j ≤ total) (place : Nat → Option (Nat × Nat)) (hp : ∀ i, i < n → place i = some (off i, sz i)) :
    ∀ (L : List (Nat × Value)) (cells : Array Value), cells.size = total → nodup (L.map (·.1)) = true → (∀ x ∈ L, x.1 < n ∧ x.2.cells.size = sz x.1) →
    ∃ r, Instr.fill place cells L = some r ∧ r.size = total ∧ (∀ u ∈ r.toList, u ∈ cells.toList ∨ ∃ x ∈ L, u ∈ x.2.cells.toList) ∧ ∀ j, j < n → (r.toList.drop (off j)).take (sz j) = match L.lookup j with | some v => v.cells.toList | none => (cells.toList.drop (off j)).take (sz j) := by
  intro L
  induction L with
  | nil => intro cells hs _ _; exact ⟨cells, rfl, hs, fun u hu => .inl hu, fun j _ => rfl⟩
  | cons x L ih =>
    obtain ⟨i, v⟩ := x
    intro cells hs hn hx
    obtain ⟨hi, hv⟩ := hx (i, v) (by simp)
    simp only at hi hv
    obtain ⟨hn1, hn2⟩ := nodup_cons hn
    have hle' := hle i hi
    obtain ⟨g1, g2⟩ := Go.Great.foldl_set (off i) v.cells.toList 0 cells
    have hspl : ((v.cells.toList.zipIdx 0).foldl (fun cs (x : Value × Nat) => cs.setIfInBounds (off i + x.2) x.1) cells).toList = splice cells.toList (off i) v.cells.toList := by
      apply List.ext_getElem?
      intro k
      rw [splice_get (by simp; omega), Array.getElem?_toList, g2 k]
      simp only [Nat.add_zero, Array.length_toList, Array.getElem?_toList]
      by_cases h1 : off i ≤ k ∧ k < off i + v.cells.size
      · rw [if_pos ⟨h1.1, h1.2, by omega⟩, if_pos h1]
      · rw [if_neg (fun h => h1 ⟨h.1, h.2.1⟩), if_neg h1]
    obtain ⟨r, hr, r1, r2, r3⟩ := ih _ (g1.trans hs) hn2 (fun x hx' => hx x (by simp [hx']))
    refine ⟨r, ?_, r1, fun u hu => ?_, fun j hj => ?_⟩
    · unfold Instr.fill
      simp only [hp i hi, hv]
      rw [if_neg (by simp; omega), ← hr]
      congr 1
      rw [← Array.foldl_toList, Array.toList_zipIdx]
    · rcases r2 u hu with h | ⟨x, h1, h2⟩
      · rw [hspl] at h
        simp only [splice, List.mem_append] at h
        rcases h with (h | h) | h
        · exact .inl (List.mem_of_mem_take h)
        · exact .inr ⟨(i, v), by simp, h⟩
        · exact .inl (List.mem_of_mem_drop h)
      · exact .inr ⟨x, by simp [h1], h2⟩
    · rw [r3 j hj, hspl]
      by_cases e : j = i
      · subst e
        have : L.lookup j = none := by
          rw [List.lookup_eq_none_iff]
          intro p hp
          have : j ≠ p.1 := fun e => hn1 (by rw [e]; exact List.mem_map.2 ⟨p, hp, rfl⟩)
          simp [this]
        rw [this]
        simp only [List.lookup_cons, beq_self_eq_true]
        have h5 := splice_at (cs := cells.toList) (ds := v.cells.toList) (o := off j) (by simp; omega)
        simp only [Array.length_toList, hv] at h5
        exact h5
      · simp only [List.lookup_cons, beq_eq_false_iff_ne.2 e]
        cases L.lookup j with
        | some v => rfl
        | none =>
          simp only
          refine splice_window (by simp; omega) ?_
          simp only [Array.length_toList, hv]
          rcases Nat.lt_or_gt_of_ne e with h | h
          · exact .inl (hsep j i h hi)
          · exact .inr (hsep i j h hj)
theorem ivL_get {T : Tab} : ∀ {fs : List (TypeId × Nat)} {l : List At} {p : Nat} {vs : List IV}, T.ivL fs l = some (p, vs) → vs.length = fs.length ∧ l.length = fs.length ∧ ∀ j, j < fs.length → ∃ q, p ≤ q ∧ T.iv1 (fs.getD j (0, 0)).1 (l.getD j .U) = some (q, vs.getD j .N)
  | [], [], p, vs, h => by simp only [Tab.ivL, Option.some.injEq, Prod.mk.injEq] at h; obtain ⟨_, rfl⟩ := h; exact ⟨rfl, rfl, fun j hj => by simp at hj⟩
  | [], _ :: _, p, vs, h => by simp [Tab.ivL] at h
  | _ :: _, [], p, vs, h => by simp [Tab.ivL] at h
  | (t, o) :: fs, x :: l, p, vs, h => by
    simp only [Tab.ivL] at h
    rw [Option.bind_eq_some_iff] at h
    obtain ⟨⟨q, v⟩, h1, h⟩ := h
    simp only at h
    rw [Option.bind_eq_some_iff] at h
    obtain ⟨⟨q2, vs2⟩, h2, h⟩ := h
    simp only [Option.some.injEq, Prod.mk.injEq] at h
    obtain ⟨rfl, rfl⟩ := h
    obtain ⟨g1, g2, g3⟩ := ivL_get h2
    refine ⟨by simp [g1], by simp [g2], fun j hj => ?_⟩
    cases j with
    | zero => exact ⟨q, (mn_le q q2).1, by simpa [List.getD] using h1⟩
    | succ j =>
      obtain ⟨q', h3, h4⟩ := g3 j (by simpa using hj)
      exact ⟨q', Nat.le_trans (mn_le q q2).2 h3, by simpa [List.getD] using h4⟩
theorem ivL_sound (ok : C.Ok) {sh : Nat → Option Sh} {t p : Nat} {fs : List (TypeId × Nat)} {l : List At} {vs : List IV} {cs : List Value} (ht : C.T.ty t = .agg fs) (h : RepG C N sh w t l cs) (hs : C.T.ivL fs l = some (p, vs)) : Rep C.T w (C.E N p) t (.A vs) cs := by
  obtain ⟨fs', g1, g2, g3, g4, g5⟩ := h
  rw [ht] at g1; cases g1
  obtain ⟨h1, h2, h3⟩ := ivL_get hs
  refine .agg ht h1 g3 g4 (fun j hj => ?_)
  obtain ⟨q, h4, h5⟩ := h3 j (by omega)
  exact (iv1_sound (g5 j (by omega)).1 h5).mono (fun b hb => Cx.E.anti ok h4 hb) (fun _ _ => rfl)
theorem lookup_map_snd {α β : Type} (f : α → β) (j : Nat) : ∀ (l : List (Nat × α)), (l.map fun p => (p.1, f p.2)).lookup j = (l.lookup j).map f
  | [] => rfl
  | (i, x) :: l => by
    simp only [List.map_cons, List.lookup_cons]
    cases j == i with
    | true => rfl
    | false => exact lookup_map_snd f j l
theorem build_get {T : Tab} {z : IV} {parts : List (Nat × Operand)} : ∀ {fs : List (TypeId × Nat)} {j0 : Nat} {l : List At}, T.build st z fs j0 parts = some l → l.length = fs.length ∧ ∀ j, j < fs.length → st.fits T (fs.getD j (0, 0)).1 (l.getD j .U) = true ∧
      (match parts.lookup (j0 + j) with
        | some o => st.get o = .v (.a (l.getD j .U)) ∨ ∃ t' l' p u, st.get o = .v (.g t' l') ∧ T.ivV (fs.getD j (0, 0)).1 (.g t' l') = some (p, u) ∧ l.getD j .U = .iv p (fs.getD j (0, 0)).1 u
        | none => l.getD j .U = T.zeroAt (fs.getD j (0, 0)).1 (fld z (j0 + j)))
  | [], j0, l, h => by simp only [Tab.build, Option.some.injEq] at h; subst h; exact ⟨rfl, fun j hj => by simp at hj⟩
  | (t, off) :: fs, j0, l, h => by
    simp only [Tab.build] at h
    rw [Option.bind_eq_some_iff] at h
    obtain ⟨x, h1, h⟩ := h
    split at h
    · rename_i hf
      rw [Option.bind_eq_some_iff] at h
      obtain ⟨l2, h2, h⟩ := h
      simp only [Option.some.injEq] at h
      subst h
      obtain ⟨g1, g2⟩ := build_get h2
      refine ⟨by simp [g1], fun j hj => ?_⟩
      cases j with
      | zero =>
        refine ⟨by simpa [List.getD] using hf, ?_⟩
        simp only [Nat.add_zero, List.getD, List.getElem?_cons_zero, Option.getD_some]
        split at h1
        · rename_i o ho
          rw [ho]
          simp only
          split at h1
          · rename_i y hy; cases h1; exact .inl hy
          · rename_i t' l' hy
            rw [Option.bind_eq_some_iff] at h1
            obtain ⟨⟨p, u⟩, h3, h1⟩ := h1
            simp only [Option.some.injEq] at h1
            subst h1
            exact .inr ⟨t', l', p, u, hy, h3, rfl⟩
          · cases h1
        · rename_i ho
          rw [ho]
          simp only [Option.some.injEq] at h1
          exact h1.symm
      | succ j =>
        have := g2 j (by simpa using hj)
        rw [show j0 + 1 + j = j0 + (j + 1) by omega] at this
        simpa [List.getD] using this
    · cases h
theorem s_build {t : TypeId} {parts : Array (Nat × Operand)} {fs : List (TypeId × Nat)} {l : List At} (ok : C.Ok) (ho : o.op = .build t parts) (ht : C.T.ty t = .agg fs) (h1 : ∀ p ∈ parts.toList, p.1 < fs.length) (h2 : nodup (parts.toList.map (·.1)) = true) (hb : C.T.build st (C.T.row t).zero fs 0 parts.toList = some l) :
    Sound C o st (st.set o.dst (.v (.g t l))) ∧ ∀ p vs, C.T.ivL fs l = some (p, vs) → Sound C o st (st.setA o.dst (.iv p t (.A vs))) := by
  have key : ∀ {N : Nm} {a : Act} {w : World}, Rel C N st a w → ∃ cs, (execOp a.eval o).run C.P w = .ok (.value (.agg cs.toArray)) w ∧ RepG C N st.sh w t l cs := by
    intro N a w h
    obtain ⟨Fs, u1, u2⟩ := ok.tab.agg t fs ht
    obtain ⟨g1, g2⟩ := build_get hb
    obtain ⟨it, z, i1, i2, i3, i4, z2, i6, i7, i7', i8⟩ := ok.tab.info t (by rw [ht]; simp)
    have hz : Rep C.T w (C.E N 2) t (C.T.row t).zero z.cells.toList := by rw [ht] at i8; exact i8 w _
    have hzl := hz.len ok.tab
    have tl := fun j hj => ok.tab.tile t fs ht j hj
    have fpart : ∀ j o, j < fs.length → parts.toList.lookup j = some o → RepA C N st.sh w (l.getD j .U) (a.eval o).cells.toList := by
      intro j o hj hlo
      obtain ⟨f1, f2⟩ := g2 j hj
      rw [Nat.zero_add, hlo] at f2
      simp only at f2
      rcases f2 with f2 | ⟨t', l', p, u, q1, q2, q3⟩
      · have hsl := h.get o
        rw [f2] at hsl
        exact slot_cells ok h.slices f1 hsl
      · have hsl := h.get o
        rw [q1] at hsl
        obtain ⟨cs, hg, hv⟩ := hsl
        rw [q3, hv]
        simp only [Tab.ivV] at q2
        split at q2
        · rename_i e
          split at q2
          · rename_i gs hgs
            rw [Option.bind_eq_some_iff] at q2
            obtain ⟨⟨p', vs⟩, q4, q2⟩ := q2
            simp only [Option.some.injEq, Prod.mk.injEq] at q2
            obtain ⟨rfl, rfl⟩ := q2
            rw [← e] at hg
            exact ivL_sound ok hgs hg q4
          · cases q2
        · cases q2
    have hfc : ∀ j x ds, j < fs.length → x = l.getD j .U → RepA C N st.sh w x ds → ds.length = C.T.sz (fs.getD j (0, 0)).1 ∧ (∀ u ∈ ds, u.oneCell' = true) ∧ (x.isU = false → x.tyAt C.T (fs.getD j (0, 0)).1) := by
      intro j x ds hj hx hr
      subst hx
      obtain ⟨f1, f2, f3, f4, f5⟩ := fits_cells ok h.slices (g2 j hj).1 hr
      exact ⟨f1, f2, fun _ => f4⟩
    have hpart : ∀ p ∈ parts.toList, p.1 < fs.length ∧ RepA C N st.sh w (l.getD p.1 .U) (a.eval p.2).cells.toList := by
      intro p hp
      exact ⟨h1 p hp, fpart p.1 p.2 (h1 p hp) (lookup_mem h2 hp)⟩
    obtain ⟨r, r0, r1, r2, r3⟩ := fill_windows (fun j => (fs.getD j (0, 0)).2) (fun j => C.T.sz (fs.getD j (0, 0)).1) fs.length (C.T.sz t) (fun i j hij hj => (tl j hj).2.2.1 i hij) (fun j hj => (tl j hj).2.1)
      ((fs.map fun f => (f.2, C.T.sz f.1)).toArray[·]?) (fun i hi => by simp [List.getD, hi]) (parts.toList.map fun p => (p.1, a.eval p.2)) z.cells z2 (by rw [List.map_map]; exact h2)
      (fun x hx => by
        obtain ⟨p, hp, rfl⟩ := List.mem_map.1 hx
        obtain ⟨hp1, hp2⟩ := hpart p hp
        refine ⟨hp1, ?_⟩
        have := (hfc p.1 _ _ hp1 rfl hp2).1
        simpa using this)
    have hwin : ∀ j, j < fs.length → RepA C N st.sh w (l.getD j .U) ((r.toList.drop (fs.getD j (0, 0)).2).take (C.T.sz (fs.getD j (0, 0)).1)) := by
      intro j hj
      have h4 := r3 j hj
      rw [h4, lookup_map_snd]
      cases hlo : parts.toList.lookup j with
      | some o => exact fpart j o hj hlo
      | none =>
        have f2 := (g2 j hj).2
        rw [Nat.zero_add, hlo] at f2
        simp only at f2
        simp only [Option.map_none]
        rw [f2]
        refine (zeroAt_sound ok ?_).1
        have hpo : pathOff C.T t [j] = some ((fs.getD j (0, 0)).2, (fs.getD j (0, 0)).1) := by simp [pathOff, ht, hj, List.getD]
        exact hz.path ok.tab hpo
    refine ⟨r.toList, ?_, fs, ht, g1, by simpa using r1, fun u hu => ?_, fun j hj => ⟨hwin j (by omega), (hfc j _ _ (by omega) rfl (hwin j (by omega))).2.2⟩⟩
    · have hpl : Fs.toList.mapM (fun f => (C.P.info? f.type).map fun i => (f.offset, i.size)) = some (fs.map fun f => (f.2, C.T.sz f.1)) := by
        have hne : ∀ f ∈ Fs.toList, C.T.ty f.type ≠ .no := by
          intro f hf
          obtain ⟨j, hj, e⟩ := List.getElem_of_mem hf
          have hj2 : j < fs.length := by rw [← u2]; simpa using hj
          have := (tl j hj2).2.2.2
          rw [show fs.getD j (0, 0) = (f.type, f.offset) by rw [← u2]; simp only [List.getD, List.getElem?_map, List.getElem?_eq_getElem hj, e]; rfl] at this
          exact this
        rw [← u2]
        clear u2 u1
        revert hne
        generalize Fs.toList = L
        intro hne
        induction L with
        | nil => rfl
        | cons f L ih =>
          obtain ⟨i, _, e1, e2, _⟩ := ok.tab.info f.type (hne f (by simp))
          rw [List.mapM_cons, ih (fun g hg => hne g (by simp [hg])), e1]
          simp [e2]
      have hbt : C.P.built t (parts.toList.map fun p => (p.1, a.eval p.2)) = some r := by
        unfold Program.built
        simp only [i1, u1, i4, hpl]
        exact r0
      have := run_build w t (parts.map fun (i, x) => (i, a.eval x)) r (by rw [Array.toList_map]; exact hbt)
      unfold execOp
      simp only [ho, this, Sem.run_bind, Sem.run_pure, Result.andThen_ok]
    · rcases r2 u hu with h5 | ⟨x, h5, h6⟩
      · exact hz.one u h5
      · obtain ⟨p, hp, rfl⟩ := List.mem_map.1 h5
        obtain ⟨hp1, hp2⟩ := hpart p hp
        exact (hfc p.1 _ _ hp1 rfl hp2).2.1 u h6
  refine ⟨?_, fun p vs hvs => ?_⟩
  · intro N a w K Q h hk
    obtain ⟨cs, k1, k2⟩ := key h
    exact h.value k1 (x := .v (.g t l)) ⟨cs, k2, rfl⟩ hk
  · intro N a w K Q h hk
    obtain ⟨cs, k1, k2⟩ := key h
    exact h.value k1 (x := .v (.a (.iv p t (.A vs)))) (fun _ => ⟨cs, ivL_sound ok ht k2 hvs, by simp [mkV, At.agg, isAgg, ht]⟩) hk
end
end Go.Ev
end
section
set_option linter.unusedVariables false
set_option linter.unusedSimpArgs false
namespace Go.Ev
open Go.RowKit
section
set_option maxHeartbeats 1000000
variable {C : Cx} {N N' : Nm} {st st' : St} {a : Act} {w w' : World} {o : Oper} {K : Act → World → Prop} {Q : Exit → Act → World → Prop} {c : V1} {v : Value}
theorem lits_sound (ok : C.Ok) {e : TypeId} : ∀ (L : List (Nat × Operand)) (j : Nat) (N : Nm) (st st' : St) (p : Nat) (vs : List IV), Rel C N st a w → C.T.lits e st L j = some (st', p, vs) →
    ∃ N', Rel C N' st' a w ∧ Nm.le C N N' ∧ vs.length = L.length ∧ L.map (·.1) = (List.range L.length).map (j + ·) ∧ ∀ i, i < L.length → Rep C.T w (C.E N' p) e (vs.getD i .N) (a.eval (L.getD i (0, .const undef)).2).cells.toList
  | [], j, N, st, st', p, vs, h, hs => by
    simp only [Tab.lits, Option.some.injEq, Prod.mk.injEq] at hs
    obtain ⟨rfl, rfl, rfl⟩ := hs
    exact ⟨N, h, Nm.le.refl N, rfl, rfl, fun i hi => by simp at hi⟩
  | (i, o) :: L, j, N, st, st', p, vs, h, hs => by
    simp only [Tab.lits] at hs
    split at hs
    · rename_i e1
      subst e1
      split at hs
      · rename_i x hx
        rw [Option.bind_eq_some_iff] at hs
        obtain ⟨⟨s1, p1, v1⟩, h1, hs⟩ := hs
        simp only at hs
        rw [Option.bind_eq_some_iff] at hs
        obtain ⟨⟨s2, p2, vs2⟩, h2, hs⟩ := hs
        simp only [Option.some.injEq, Prod.mk.injEq] at hs
        obtain ⟨rfl, rfl, rfl⟩ := hs
        have hsl := h.get o
        rw [hx] at hsl
        obtain ⟨N1, k1, k2, k3, k4⟩ := frozen_sound ok h hsl h1
        obtain ⟨N2, m1, m2, m3, m4, m5⟩ := lits_sound ok L (i + 1) N1 s1 s2 p2 vs2 k1 h2
        refine ⟨N2, m1, k2.trans m2, by simp [m3], ?_, fun n hn => ?_⟩
        · rw [List.map_cons, m4, List.length_cons, List.range_succ_eq_map, List.map_cons, List.map_map, Nat.add_zero]
          congr 1
          apply List.map_congr_left
          intro x _
          simp only [Function.comp]; omega
        · cases n with
          | zero =>
            simp only [List.getD, List.getElem?_cons_zero, Option.getD_some]
            exact k4.mono (fun b hb => Cx.E.anti ok (mn_le p1 p2).1 (m2.E _ b hb)) (fun _ _ => rfl)
          | succ n =>
            have := m5 n (by simpa using hn)
            simp only [List.getD, List.getElem?_cons_succ] at this ⊢
            exact this.mono (fun b hb => Cx.E.anti ok (mn_le p1 p2).2 hb) (fun _ _ => rfl)
      · cases hs
    · cases hs
theorem zipIdx_parts : ∀ (L : List (Nat × Operand)) (j : Nat), L.map (·.1) = (List.range L.length).map (j + ·) → (L.map fun p => (p.1, a.eval p.2)) = ((L.map fun p => a.eval p.2).zipIdx j).map fun x => (x.2, x.1)
  | [], j, _ => rfl
  | (i, o) :: L, j, h => by
    rw [List.length_cons, List.range_succ_eq_map, List.map_cons, List.map_cons, List.map_map, Nat.add_zero, List.cons.injEq] at h
    obtain ⟨rfl, h⟩ := h
    rw [List.map_cons, List.map_cons, List.zipIdx_cons, List.map_cons, zipIdx_parts L (i + 1) (by
      rw [h]
      apply List.map_congr_left
      intro x _
      simp only [Function.comp]; omega)]
theorem s_buildSlice {t e len : Nat} {parts : Array (Nat × Operand)} {st1 : St} {p : Nat} {vs : List IV} {hh : Option Hint} {x : At} (ok : C.Ok) (ho : o.op = .buildSlice t len parts) (ht : C.T.ty t = .slice e) (he : C.T.okE e = true) (hl : C.T.lits e st parts.toList 0 = some (st1, p, vs)) (hn : vs.length = len)
    (hr : len * C.T.sz e ≤ 16777216) (hs : st1.placeArr hh t p e vs = (st', x)) : Sound C o st (st'.setA o.dst x) := by
  intro N a w K Q h hk
  obtain ⟨he1, he2⟩ := okE_iff he
  obtain ⟨N1, k1, k2, k3, k4, k5⟩ := lits_sound ok _ _ _ _ _ _ _ h hl
  obtain ⟨i, z, i1, i2, i3, i4, i5, i6⟩ := ok.tab.info e he2
  have hpl : parts.size = len := by rw [← hn, k3]; simp
  have hlen : ∀ n, n < len → (a.eval (parts.toList.getD n (0, .const undef)).2).cells.toList.length = C.T.sz e := fun n hn2 => (k5 n (by rw [← k3, hn]; exact hn2)).len ok.tab
  have hvs : ∀ v ∈ parts.toList.map (fun p => a.eval p.2), v.cells.size = C.T.sz e := by
    intro v hv
    obtain ⟨q, hq, rfl⟩ := List.mem_map.1 hv
    obtain ⟨n, hn2, e1⟩ := List.getElem_of_mem hq
    have := hlen n (by rw [← hpl]; simpa using hn2)
    simp only [List.getD, List.getElem?_eq_getElem hn2, e1, Option.getD_some] at this
    simpa using this
  have key : ∀ z0 : Array Value, z0.size = len * C.T.sz e → ∃ r : Array Value, Instr.fill (fun i => some (i * C.T.sz e, C.T.sz e)) z0 (parts.toList.map fun p => (p.1, a.eval p.2)) = some r ∧ r.toList = (List.range len).flatMap (fun n => (a.eval (parts.toList.getD n (0, .const undef)).2).cells.toList) := by
    intro z0 hz0
    obtain ⟨r, r1, r2, r3⟩ := Go.Great.fill_dense he1 (parts.toList.map fun p => a.eval p.2) 0 z0 hvs (by rw [hz0]; simp [hpl])
    refine ⟨r, by rw [zipIdx_parts _ 0 k4]; exact r1, ?_⟩
    apply List.ext_getElem?
    intro y
    rw [Array.getElem?_toList, r3 y]
    simp only [Nat.zero_mul, Nat.zero_le, true_and, Nat.zero_add, List.length_map, Array.length_toList, hpl, Nat.sub_zero]
    by_cases hy : y < len * C.T.sz e
    · rw [if_pos hy]
      have hx1 : y / C.T.sz e < len := (Nat.div_lt_iff_lt_mul he1).2 hy
      have hx2 : y % C.T.sz e < C.T.sz e := Nat.mod_lt _ he1
      have hx3 : y = y / C.T.sz e * C.T.sz e + y % C.T.sz e := by rw [Nat.mul_comm]; exact (Nat.div_add_mod y _).symm
      have h1 := flat_get (cf := fun n => (a.eval (parts.toList.getD n (0, .const undef)).2).cells.toList) hlen hx1 hx2
      rw [← hx3] at h1
      rw [h1]
      have : y / C.T.sz e < parts.size := by omega
      simp [List.getD, this]
    · rw [if_neg hy, List.getElem?_eq_none (by rw [flat_length hlen]; omega), Array.getElem?_eq_none (by omega)]
  have run : ∃ r : Array Value, (execOp a.eval o).run C.P w = .ok (.value (.slice (some ⟨w.heap.size, 0, none⟩) len len)) (w.alloc (.cells r e)) ∧ r.toList = (List.range len).flatMap (fun n => (a.eval (parts.toList.getD n (0, .const undef)).2).cells.toList) := by
    by_cases h0 : len * C.T.sz e = 0
    · obtain ⟨r, r1, r2⟩ := key #[] (by simp [h0])
      refine ⟨r, ?_, r2⟩
      have hb : (Instr.buildSlice t len (parts.map fun (i, x) => (i, a.eval x))).run C.P w = .ok (.slice (some ⟨w.heap.size, 0, none⟩) len len) (w.alloc (.cells r e)) := by
        simp [Instr.buildSlice, run_underlying (ok.tab.slice t e ht), run_sizeOf' ok.tab he2, h0, newRow]
        rw [show Array.map (fun x => (default : Value)) (Array.range 0) = #[] from Array.eq_empty_of_size_eq_zero (by simp)]
        have : Instr.fill (fun i => some (i * C.T.sz e, C.T.sz e)) #[] (parts.toList.map fun x => (x.fst, a.eval x.snd)) = some r := r1
        rw [this]
        simp
      unfold execOp
      simp only [ho, hb, Sem.run_bind, Sem.run_pure, Result.andThen_ok]
    · obtain ⟨r, r1, r2⟩ := key ((Array.range (len * C.T.sz e)).map (z.cells[· % z.cells.size]!)) (by simp)
      refine ⟨r, ?_, r2⟩
      have hb := run_buildSlice (P := C.P) w t e len (parts.map fun (i, x) => (i, a.eval x)) r i z (ok.tab.slice t e ht) i1 i4 (by rw [i2]; omega) (by rw [i2]; exact h0) (by rw [i2, Array.toList_map]; exact r1)
      unfold execOp
      simp only [ho, hb, Sem.run_bind, Sem.run_pure, Result.andThen_ok]
  obtain ⟨r, r1, r2⟩ := run
  have fr := k1.fresh ok
  have hR := k1.alloc ok (.cells r e)
  have hlenr : r.size = len * C.T.sz e := by
    have := congrArg List.length r2
    rw [flat_length hlen] at this
    simpa using this
  have hmax : len ≤ maxLen := by
    have := Nat.le_trans (Nat.le_mul_of_pos_right len he1) hr
    unfold maxLen; omega
  have hrep : ∀ n, n < vs.length → Rep C.T (w.alloc (.cells r e)) (C.E N1 p) e (vs.getD n .N) ((fun n => (a.eval (parts.toList.getD n (0, .const undef)).2).cells.toList) n) := by
    intro n hn2
    exact (k5 n (by rw [← k3]; exact hn2)).mono (fun _ h => h) (fun b hb => ((Below.refl _ w).alloc (Nat.le_refl _) (.cells r e)).block b (k1.elt ok hb))
  obtain ⟨N2, m1, m2⟩ := placeArr_sound (v := .slice (some ⟨w.heap.size, 0, none⟩) len len) (cf := fun n => (a.eval (parts.toList.getD n (0, .const undef)).2).cells.toList) ok hR ht he hrep
    (by
      rw [hn]
      refine ⟨flat_length hlen, .inr ⟨w.heap.size, len, r, rfl, Nat.zero_le _, by rw [heap_alloc_new], Nat.le_refl _, hmax, hlenr, ?_⟩⟩
      rw [List.take_of_length_le (by rw [Array.length_toList]; omega), r2])
    (fun b hb2 => by
      obtain rfl : w.heap.size = b := by simpa [blk] using hb2
      exact ⟨fr.1, fr.2.1, by simp, fr.2.2⟩) hs
  exact wp_value r1 (hk N2 _ _ (m1.set (x := .v (.a x)) m2))
theorem exec_assign {x : Operand} {P : Program} (ho : o.op = .assign x) : (execOp a.eval o).run P w = .ok (.value (a.eval x)) w := by
  unfold execOp
  simp only [ho]; rfl
theorem s_assign_own {x : Operand} {k k' p e : Nat} {l : List IV} (ok : C.Ok) (ho : o.op = .assign x) (hx : st.get x = .v (.a (.own k))) (hr : st.row k = some (.arr p e l)) : Sound C o st ((st.moveRow k k').setA o.dst (.own k')) := by
  intro N a w K Q h hk
  have hsl := h.get x
  rw [hx] at hsl
  have h1 := h.move (k' := k') ok hr
  refine wp_value (exec_assign ho) (hk _ _ _ (h1.set (x := .v (.a (.own k'))) (fun _ => ⟨[a.eval x], ⟨?_, e, ?_⟩, rfl⟩)))
  · rw [slot_own hsl]; simp [Nm.upd]
  · rw [St.sh, moveRow_row hr]; rfl
theorem s_assign_nil {x : Operand} {k' e : Nat} (ok : C.Ok) (ho : o.op = .assign x) (hx : st.get x = .v (.a .nil)) (he : C.T.okE e = true) : Sound C o st ((st.noRow k' e).setA o.dst (.own k')) := by
  intro N a w K Q h hk
  obtain ⟨he1, he2⟩ := okE_iff he
  have hsl := h.get x
  rw [hx] at hsl
  have h1 := h.noRow (k := k') ok he1 he2
  refine wp_value (exec_assign ho) (hk _ _ _ (h1.set (x := .v (.a (.own k'))) (fun _ => ⟨[a.eval x], ⟨?_, e, ?_⟩, rfl⟩)))
  · rw [slot_nil hsl]; simp [Nm.upd]
  · rw [St.sh, St.noRow, St.row_put, if_pos rfl]; rfl
theorem s_assign_sub {x : Operand} {k k' n p e : Nat} {l : List IV} (ok : C.Ok) (ho : o.op = .assign x) (hx : st.get x = .v (.a (.sub k n))) (hr : st.row k = some (.arr p e l)) (hn : n ≤ l.length) : Sound C o st (((st.kill k).newRow k' (.arr p e (l.take n))).setA o.dst (.own k')) := by
  intro N a w K Q h hk
  have hsl := h.get x
  rw [hx] at hsl
  obtain ⟨a2, len2, cap2, r1, r2, r3⟩ := slot_sub hsl
  obtain ⟨q1, q2, cf, q3, q4⟩ := h.rows k _ hr
  have h1 := (h.kill k).kill k'
  have hlt : (l.take n).length = n := by rw [List.length_take]; omega
  have h2 := h1.new (k := k') (v := .slice a2 n cap2) (r := .arr p e (l.take n)) ok (St.kill_free _ k') ⟨q1, q2, cf, fun i hi => by
      rw [hlt] at hi
      rw [show (l.take n).getD i .N = l.getD i .N by simp [List.getD, List.getElem?_take, hi]]
      exact q3 i (by omega), by
      rw [hlt]
      simp only [Nm.upd, if_true]
      have hlen : ∀ i, i < n → (cf i).length = C.T.sz e := fun i hi => (q3 i (by omega)).len ok.tab
      refine ⟨flat_length hlen, ?_⟩
      rcases q4.2 with ⟨e1, e2⟩ | ⟨g, cap, cur, e1, e2, hg, hnc, hcm, hcs, htk⟩
      · rw [e1] at r1; cases r1
        exact .inl ⟨by rw [show n = 0 by omega], by omega⟩
      · rw [e1] at r1; cases r1
        refine .inr ⟨g, _, cur, rfl, e2, hg, by omega, hcm, hcs, ?_⟩
        have h5 : n * C.T.sz e ≤ l.length * C.T.sz e := Nat.mul_le_mul_right _ hn
        rw [show cur.toList.take (n * C.T.sz e) = (cur.toList.take (l.length * C.T.sz e)).take (n * C.T.sz e) by rw [List.take_take, Nat.min_eq_left h5], htk]
        rw [show l.length = n + (l.length - n) by omega, List.range_add, List.flatMap_append, List.take_left' (flat_length hlen)]⟩
    (fun b hb => by
      have hb2 : blk (N.β k) = some b := by
        rw [r1]
        cases a2 with
        | none => simp [blk] at hb
        | some y => simpa [blk] using hb
      obtain ⟨x1, x2, x3⟩ := h.frm.own k b (by rw [hr]; rfl) hb2
      exact ⟨x1, x2, x3, fun j hj e => (kill_some (kill_some hj).1).2 (h.frm.sep j k b (kill_some (kill_some hj).1).1 (by rw [hr]; rfl) e hb2)⟩)
  refine wp_value (exec_assign ho) (hk _ _ _ (h2.set (x := .v (.a (.own k'))) (fun _ => ⟨[a.eval x], ⟨?_, e, ?_⟩, rfl⟩)))
  · rw [r3]; simp [Nm.upd]
  · rw [St.sh, St.row_put, if_pos rfl]; rfl
end
end Go.Ev
end
