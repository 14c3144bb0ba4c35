/- Part 8 of a proof: Db. Words and walks that a program printed for this claim stand here without what the claim does not use. -/
import Derived.Outline
import Derived.Test.YtfnjbgggmddgpaaDb2
import Derived.Test.YtfnjbgggmddgpaaDb3
import Derived.Test.YtfnjbgggmddgpaaDb6
import Derived.Test.YtfnjbgggmddgpaaDb7
section
set_option linter.unusedVariables false
set_option linter.unusedSimpArgs false
namespace Go.Proofs.Ytfnjbgggmddgpaa.Q
open Go.RowKit Go.Proofs.Fn Go.Proofs.YtfnjbgggmddgpaaW.PrintWords Go.Proofs.Gr
def E (T : List (List S80)) (i j : Nat) : Prop := ∃ e ∈ T.getD i [], e.f2 = (j : Int)
def D (xs : List Int) : Nat → Int := fun i => xs.getD i 0
structure OkT (n : Nat) (T : List (List S80)) : Prop where
  len : T.length = n
  small : n ≤ 1000000
  rows : ∀ i, i < n → (T.getD i []).length ≤ 1000000
  tgt : ∀ i, i < n → ∀ e ∈ T.getD i [], 0 ≤ e.f2 ∧ e.f2 < (n : Int)
theorem rdD {xs : List Int} {i : Nat} : rd xs (i : Int) = D xs i := by simp [rd, D]
theorem D_set {xs : List Int} {r : Nat} {v : Int} (h : r < xs.length) : ∀ i, i < xs.length → D (xs.set r v) i = upd (D xs) r v i := by
  intro i hi
  simp only [D, upd, List.getD_eq_getElem?_getD, List.getElem?_set]
  grind
theorem rdmap {T : List (List S80)} {s : Nat} : rd_L66 (T.map (List.map pr)) (s : Int) = (T.getD s []).map pr := by
  simp only [rd_L66, Int.toNat_natCast, List.getD_eq_getElem?_getD, List.getElem?_map]
  cases T[s]? <;> rfl
theorem rd66map {l : List S80} {q : Nat} : rd_T66 (l.map pr) (q : Int) = pr (rd_T80 l (q : Int)) := by
  simp only [rd_T66, rd_T80, Int.toNat_natCast, List.getD_eq_getElem?_getD, List.getElem?_map]
  cases l[q]? <;> rfl
structure Bk (n : Nat) (T : List (List S80)) (s q : Nat) (B : List (List Int)) : Prop where
  len : B.length = n
  small : ∀ j, (B.getD j []).length ≤ s * 1000000 + q
  only : ∀ j, j < n → ∀ r ∈ B.getD j [], ∃ i : Nat, i < n ∧ r = (i : Int) ∧ E T i j
  all : ∀ i j, i < s → j < n → E T i j → (i : Int) ∈ B.getD j []
  cur : ∀ e ∈ (T.getD s []).take q, (s : Int) ∈ B.getD e.f2.toNat []
theorem Bk.push {n : Nat} {T : List (List S80)} {s q : Nat} {B : List (List Int)} (hT : OkT n T) (h : Bk n T s q B) (hs : s < n) (hq : q < (T.getD s []).length) (t : Nat) (ht : (rd_T80 (T.getD s []) (q : Int)).f2 = (t : Int)) : Bk n T s (q + 1) (B.set t (B.getD t [] ++ [(s : Int)])) := by
  have he : rd_T80 (T.getD s []) (q : Int) ∈ T.getD s [] := by rw [rd80 hq]; exact List.getElem_mem _
  have htn : t < n := by have := (hT.tgt s hs _ he).2; omega
  have g : ∀ j, (B.set t (B.getD t [] ++ [(s : Int)])).getD j [] = if j = t then B.getD t [] ++ [(s : Int)] else B.getD j [] := by
    intro j
    have := h.len
    simp only [List.getD_eq_getElem?_getD, List.getElem?_set]
    grind
  refine ⟨by simpa using h.len, fun j => ?_, fun j hj r hr => ?_, fun i j hi hj hE => ?_, fun e hm => ?_⟩
  · rw [g]; have := h.small j; split
    · subst j; rw [List.length_append, List.length_singleton]; omega
    · omega
  · rw [g] at hr
    split at hr
    · subst j
      rcases List.mem_append.1 hr with hr | hr
      · exact h.only t hj r hr
      · exact ⟨s, hs, List.mem_singleton.1 hr, _, he, ht⟩
    · exact h.only j hj r hr
  · rw [g]; have := h.all i j hi hj hE; split
    · subst j; exact List.mem_append_left _ this
    · exact this
  · rw [g]
    have e1 : (T.getD s []).take (q + 1) = (T.getD s []).take q ++ [(T.getD s [])[q]] := by rw [List.take_succ_eq_append_getElem hq]
    rw [e1] at hm
    rcases List.mem_append.1 hm with hm | hm
    · have := h.cur e hm
      split
      · rename_i c; rw [c] at this; exact List.mem_append_left _ this
      · exact this
    · obtain rfl := List.mem_singleton.1 hm
      rw [← rd80 hq, ht, Int.toNat_natCast, if_pos rfl]
      simp
theorem Bk.next {n : Nat} {T : List (List S80)} {s q : Nat} {B : List (List Int)} (hT : OkT n T) (h : Bk n T s q B) (hs : s < n) (hq : q = (T.getD s []).length) : Bk n T (s + 1) 0 B := by
  subst hq
  refine ⟨h.len, fun j => ?_, h.only, fun i j hi hj hE => ?_, by simp⟩
  · have a := h.small j
    have b := hT.rows s hs
    rw [Nat.succ_mul]
    exact Nat.le_trans a (Nat.add_le_add_left b _)
  · by_cases e : i = s
    · subst e
      obtain ⟨e, he, ht⟩ := hE
      have := h.cur e (by rw [List.take_length]; exact he)
      rw [ht, Int.toNat_natCast] at this; exact this
    · exact h.all i j (by omega) hj hE
theorem dist_l1 {n : Nat} {T : List (List S80)} (hT : OkT n T) (φ : Int → Option Bool) (P : List Int → Prop) (s : Nat) (hs : s < n)
    (next : ∀ B, Bk n T (s + 1) 0 B → ∃ d, P d ∧ Evn (fun k => witness_distances.l0 k (T.map (List.map pr)) φ B (T.map (List.map pr)) (n : Int) ((s + 1 : Nat) : Int)) d) :
    ∀ (m q : Nat) (B : List (List Int)), q + m = (T.getD s []).length → Bk n T s q B →
    ∃ d, P d ∧ Evn (fun k => witness_distances.l1 k (T.map (List.map pr)) φ B (s : Int) (T.map (List.map pr)) (n : Int) (s : Int) ((T.getD s []).map pr) ((T.getD s []).length : Int) (q : Int)) d := by
  have hsm := hT.small
  have hrow := hT.rows s hs
  intro m
  induction m with
  | zero =>
    intro q B hq hB
    obtain ⟨d, hP, hd⟩ := next B (hB.next hT hs (by omega))
    refine ⟨d, hP, Evn.succ ?_⟩
    simp only [witness_distances.l1, wrap_succ (show s < 9223372036854775807 by omega)]
    (first | refine Evn.pos (by first | assumption | omega | (simp; done) | (simp; omega)) ?_ | refine Evn.neg (by first | assumption | omega | (simp; done) | (simp; omega)) ?_)
    exact hd
  | succ m ih =>
    intro q B hq hB
    have hq2 : q < (T.getD s []).length := by omega
    have he : rd_T80 (T.getD s []) (q : Int) ∈ T.getD s [] := by rw [rd80 hq2]; exact List.getElem_mem _
    have htg := hT.tgt s hs _ he
    obtain ⟨t, ht⟩ : ∃ t : Nat, (rd_T80 (T.getD s []) (q : Int)).f2 = (t : Int) := ⟨_, (Int.toNat_of_nonneg htg.1).symm⟩
    obtain ⟨d, hP, hd⟩ := ih (q + 1) _ (by omega) (hB.push hT hs hq2 t ht)
    have ht2 : (rd_T66 ((T.getD s []).map pr) (q : Int)).f1 = (t : Int) := by rw [rd66map]; exact ht
    have hl := hB.len
    have hsB := hB.small t
    have htn : t < n := by omega
    refine ⟨d, hP, Evn.succ ?_⟩
    simp only [witness_distances.l1, ht2, rd_L3, Int.toNat_natCast, wrap_succ (show q < 9223372036854775807 by omega)]
    have h3 : s * 1000000 + q < 17592186044416 := by have : s * 1000000 ≤ 1000000 * 1000000 := Nat.mul_le_mul_right _ (by omega); omega
    (first | refine Evn.pos (by first | assumption | omega | (simp; done) | (simp; omega)) ?_ | refine Evn.neg (by first | assumption | omega | (simp; done) | (simp; omega)) ?_); (first | refine Evn.pos (by first | assumption | omega | (simp; done) | (simp; omega)) ?_ | refine Evn.neg (by first | assumption | omega | (simp; done) | (simp; omega)) ?_)
    refine Evn.pos (by simp only [List.length_map]; omega) ?_
    (first | refine Evn.pos (by first | assumption | omega | (simp; done) | (simp; omega)) ?_ | refine Evn.neg (by first | assumption | omega | (simp; done) | (simp; omega)) ?_); (first | refine Evn.pos (by first | assumption | omega | (simp; done) | (simp; omega)) ?_ | refine Evn.neg (by first | assumption | omega | (simp; done) | (simp; omega)) ?_); (first | refine Evn.pos (by first | assumption | omega | (simp; done) | (simp; omega)) ?_ | refine Evn.neg (by first | assumption | omega | (simp; done) | (simp; omega)) ?_)
    exact hd
theorem dist_l0 {n : Nat} {T : List (List S80)} (hT : OkT n T) (φ : Int → Option Bool) (P : List Int → Prop)
    (next : ∀ B, Bk n T n 0 B → ∃ d, P d ∧ Evn (fun k => witness_distances.l2 k φ B (List.replicate n 0) [] (n : Int) 0) d) :
    ∀ (m s : Nat) (B : List (List Int)), s + m = n → Bk n T s 0 B →
    ∃ d, P d ∧ Evn (fun k => witness_distances.l0 k (T.map (List.map pr)) φ B (T.map (List.map pr)) (n : Int) (s : Int)) d := by
  have hsm := hT.small
  have hln := hT.len
  intro m
  induction m with
  | zero =>
    intro s B hs hB
    obtain rfl : s = n := by omega
    obtain ⟨d, hP, hd⟩ := next B hB
    refine ⟨d, hP, Evn.succ ?_⟩
    simp only [witness_distances.l0, List.length_map, hln, Int.toNat_natCast]
    (first | refine Evn.pos (by first | assumption | omega | (simp; done) | (simp; omega)) ?_ | refine Evn.neg (by first | assumption | omega | (simp; done) | (simp; omega)) ?_); (first | refine Evn.pos (by first | assumption | omega | (simp; done) | (simp; omega)) ?_ | refine Evn.neg (by first | assumption | omega | (simp; done) | (simp; omega)) ?_); (first | refine Evn.pos (by first | assumption | omega | (simp; done) | (simp; omega)) ?_ | refine Evn.neg (by first | assumption | omega | (simp; done) | (simp; omega)) ?_)
    exact hd
  | succ m ih =>
    intro s B hs hB
    obtain ⟨d, hP, hd⟩ := dist_l1 hT φ P s (by omega) (fun B' hB' => ih (s + 1) B' (by omega) hB') _ 0 B (by rw [Nat.zero_add]) hB
    refine ⟨d, hP, Evn.succ ?_⟩
    simp only [witness_distances.l0, List.length_map, hln, rdmap]
    (first | refine Evn.pos (by first | assumption | omega | (simp; done) | (simp; omega)) ?_ | refine Evn.neg (by first | assumption | omega | (simp; done) | (simp; omega)) ?_); (first | refine Evn.pos (by first | assumption | omega | (simp; done) | (simp; omega)) ?_ | refine Evn.neg (by first | assumption | omega | (simp; done) | (simp; omega)) ?_); (first | refine Evn.pos (by first | assumption | omega | (simp; done) | (simp; omega)) ?_ | refine Evn.neg (by first | assumption | omega | (simp; done) | (simp; omega)) ?_)
    exact hd
def ini (g : Nat → Bool) (i : Nat) : Int := if g i = true then 0 else -1
theorem dist_l2 {n : Nat} (hn : n ≤ 1000000) (φ : Int → Option Bool) (g : Nat → Bool) (hg : ∀ i, i < n → φ (i : Int) = some (g i)) (B : List (List Int)) (P : List Int → Prop)
    (next : ∃ d, P d ∧ Evn (fun k => witness_distances.l3 k B ((List.range n).map (ini g)) (((List.range n).filter g).map (Nat.cast : Nat → Int))) d) :
    ∀ (m i : Nat), i + m = n → ∃ d, P d ∧ Evn (fun k => witness_distances.l2 k φ B ((List.range i).map (ini g) ++ List.replicate m 0) (((List.range i).filter g).map (Nat.cast : Nat → Int)) (n : Int) (i : Int)) d := by
  intro m
  induction m with
  | zero =>
    intro i hi
    obtain rfl : i = n := by omega
    obtain ⟨d, hP, hd⟩ := next
    refine ⟨d, hP, Evn.succ ?_⟩
    simp only [witness_distances.l2]
    (first | refine Evn.pos (by first | assumption | omega | (simp; done) | (simp; omega)) ?_ | refine Evn.neg (by first | assumption | omega | (simp; done) | (simp; omega)) ?_)
    simpa using hd
  | succ m ih =>
    intro i hi
    obtain ⟨d, hP, hd⟩ := ih (i + 1) (by omega)
    refine ⟨d, hP, Evn.succ ?_⟩
    have hs : ∀ v : Int, ((List.range i).map (ini g) ++ List.replicate (m + 1) 0).set i v = (List.range i).map (ini g) ++ v :: List.replicate m 0 := by
      intro v
      rw [List.set_append_right _ _ (by simp)]
      simp [List.replicate_succ]
    have hs2 : ∀ v u : Int, ((List.range i).map (ini g) ++ u :: List.replicate m 0).set i v = (List.range i).map (ini g) ++ v :: List.replicate m 0 := by
      intro v u
      rw [List.set_append_right _ _ (by simp)]
      simp
    simp only [witness_distances.l2, Int.toNat_natCast, hs, hs2, hg i (by omega), Option.bind_some, wrap_succ (show i < 9223372036854775807 by omega)]
    rw [List.range_succ, List.map_append, List.filter_append, List.map_append] at hd
    simp only [List.map_cons, List.map_nil, List.append_assoc, List.singleton_append, List.filter_cons, List.filter_nil] at hd
    (first | refine Evn.pos (by first | assumption | omega | (simp; done) | (simp; omega)) ?_ | refine Evn.neg (by first | assumption | omega | (simp; done) | (simp; omega)) ?_); (first | refine Evn.pos (by first | assumption | omega | (simp; done) | (simp; omega)) ?_ | refine Evn.neg (by first | assumption | omega | (simp; done) | (simp; omega)) ?_)
    refine Evn.pos (by simp; omega) ?_
    by_cases c : g i = true
    · refine Evn.pos c ?_
      have hl := List.length_filter_le g (List.range i)
      rw [List.length_range] at hl
      refine Evn.pos (by rw [List.length_map]; omega) ?_
      simpa [ini, c] using hd
    · refine Evn.neg c ?_
      simpa [ini, c] using hd
theorem neg_le (n : Nat) (d : Nat → Int) : neg n d ≤ n := by
  induction n with
  | zero => simp [neg]
  | succ n ih => simp only [neg]; split <;> omega
abbrev QI (q : List Nat) : List Int := q.map (Nat.cast : Nat → Int)
theorem dist_l4 {n : Nat} {T : List (List S80)} (hn : n ≤ 1000000) {B : List (List Int)} (hB : Bk n T n 0 B) (g : Nat → Bool) (P : List Int → Prop) (N s : Nat) (hs : s < n)
    (next : ∀ (q : List Nat) (d : List Int), d.length = n → Bfs n (E T) (fun i => g i = true) (D d) q s [] (D d s) → 0 ≤ D d s → (∀ i, i < n → D d i + neg n (D d) ≤ n) → q.length + neg n (D d) = N → ∃ r, P r ∧ Evn (fun k => witness_distances.l3 k B d (QI q)) r) :
    ∀ (m p : Nat) (q : List Nat) (d : List Int), p + m = (B.getD s []).length → d.length = n → Bfs n (E T) (fun i => g i = true) (D d) q s (((B.getD s []).drop p).map Int.toNat) (D d s) → 0 ≤ D d s → (∀ i, i < n → D d i + neg n (D d) ≤ n) → q.length + neg n (D d) = N → N ≤ 2000000 →
    ∃ r, P r ∧ Evn (fun k => witness_distances.l4 k B d (QI q) (s : Int) (B.getD s []) ((B.getD s []).length : Int) (p : Int)) r := by
  have hsB := hB.small s
  have h3 : n * 1000000 + 0 < 17592186044416 := by have : n * 1000000 ≤ 1000000 * 1000000 := Nat.mul_le_mul_right _ (by omega); omega
  intro m
  induction m with
  | zero =>
    intro p q d hp hd hb h0 hm hN hN2
    rw [List.drop_of_length_le (by omega)] at hb
    obtain ⟨r, hP, hr⟩ := next q d hd hb h0 hm hN
    refine ⟨r, hP, Evn.succ ?_⟩
    simp only [witness_distances.l4]
    (first | refine Evn.pos (by first | assumption | omega | (simp; done) | (simp; omega)) ?_ | refine Evn.neg (by first | assumption | omega | (simp; done) | (simp; omega)) ?_)
    exact hr
  | succ m ih =>
    intro p q d hp hd hb h0 hm hN hN2
    have hpl : p < (B.getD s []).length := by omega
    rw [List.drop_eq_getElem_cons hpl, List.map_cons] at hb
    obtain ⟨i, hi, hri, hE⟩ := hB.only s hs _ (List.getElem_mem hpl)
    have hrd : rd (B.getD s []) (p : Int) = (i : Int) := by
      rw [← hri]; show (B.getD s []).getD ((p : Int).toNat) 0 = _
      rw [Int.toNat_natCast, List.getD_eq_getElem?_getD, List.getElem?_eq_getElem hpl]; rfl
    rw [hri, Int.toNat_natCast] at hb
    by_cases c : D d i < 0
    · have hmi := hm s hs
      have hnu : neg n (upd (D d) i (D d s + 1)) + 1 = neg n (D d) := neg_upd hi c (by omega)
      have hset : ∀ x, x < n → upd (D d) i (D d s + 1) x = D (d.set i (D d s + 1)) x := fun x hx => (D_set (by omega) x (by omega)).symm
      have hneg : neg n (D (d.set i (D d s + 1))) = neg n (upd (D d) i (D d s + 1)) := (neg_congr hset).symm
      have hb2 := (hb.new hs h0 hE hi c).congr hset
      rw [hset s hs] at hb2
      obtain ⟨r, hP, hr⟩ := ih (p + 1) (q ++ [i]) (d.set i (D d s + 1)) (by omega) (by simpa using hd) hb2 (by
        rw [← hset s hs]; show 0 ≤ if s = i then _ else _
        split <;> omega) (fun x hx => by
        rw [hneg, ← hset x hx]
        have := hm x hx
        have hu : upd (D d) i (D d s + 1) x = if x = i then D d s + 1 else D d x := rfl
        rw [hu]; split <;> omega) (by rw [hneg]; simp; omega) hN2
      refine ⟨r, hP, Evn.succ ?_⟩
      simp only [witness_distances.l4, hrd, rdD, Int.toNat_natCast, wrap_succ (show p < 9223372036854775807 by omega), hd]
      have hw : wrap64 (D d s + 1) = D d s + 1 := by unfold wrap64; omega
      rw [hw]
      iterate 8 (first | refine Evn.pos (by first | assumption | omega | (simp; done) | (simp; omega)) ?_ | refine Evn.neg (by first | assumption | omega | (simp; done) | (simp; omega)) ?_)
      refine Evn.pos (by simp [QI]; omega) ?_
      simpa [QI] using hr
    · have hb2 := hb.old hi (by omega)
      obtain ⟨r, hP, hr⟩ := ih (p + 1) q d (by omega) hd hb2 h0 hm hN hN2
      refine ⟨r, hP, Evn.succ ?_⟩
      simp only [witness_distances.l4, hrd, rdD, Int.toNat_natCast, wrap_succ (show p < 9223372036854775807 by omega), hd]
      iterate 6 (first | refine Evn.pos (by first | assumption | omega | (simp; done) | (simp; omega)) ?_ | refine Evn.neg (by first | assumption | omega | (simp; done) | (simp; omega)) ?_)
      exact hr
theorem dist_l3 {n : Nat} {T : List (List S80)} (hn : n ≤ 1000000) {B : List (List Int)} (hB : Bk n T n 0 B) (g : Nat → Bool) :
    ∀ (N : Nat) (q : List Nat) (d : List Int) (s0 : Nat) (v : Int), d.length = n → Bfs n (E T) (fun i => g i = true) (D d) q s0 [] v → (∀ i, i < n → D d i + neg n (D d) ≤ n) → q.length + neg n (D d) = N → N ≤ 2000000 →
    ∃ r, (r.length = n ∧ Lab n (E T) (fun i => g i = true) (D r) ∧ ∀ i, i < n → D r i ≤ n) ∧ Evn (fun k => witness_distances.l3 k B d (QI q)) r := by
  intro N
  induction N with
  | zero =>
    intro q d s0 v hd hb hm hN hN2
    obtain rfl : q = [] := List.length_eq_zero_iff.1 (by omega)
    refine ⟨d, ⟨hd, hb.lab, fun i hi => by have := hm i hi; omega⟩, Evn.succ ?_⟩
    simp only [witness_distances.l3, QI, List.map_nil]
    (first | refine Evn.pos (by first | assumption | omega | (simp; done) | (simp; omega)) ?_ | refine Evn.neg (by first | assumption | omega | (simp; done) | (simp; omega)) ?_)
    exact Evn.const _
  | succ N ih =>
    intro q d s0 v hd hb hm hN hN2
    cases q with
    | nil =>
      refine ⟨d, ⟨hd, hb.lab, fun i hi => by have := hm i hi; omega⟩, Evn.succ ?_⟩
      simp only [witness_distances.l3, QI, List.map_nil]
      (first | refine Evn.pos (by first | assumption | omega | (simp; done) | (simp; omega)) ?_ | refine Evn.neg (by first | assumption | omega | (simp; done) | (simp; omega)) ?_)
      exact Evn.const _
    | cons s q =>
      have hs := hb.qlt s List.mem_cons_self
      have hb2 := hb.pop ((B.getD s []).map Int.toNat) (fun i hi hE => by
        have := hB.all i s hi hs.1 hE
        exact List.mem_map.2 ⟨_, this, by simp⟩)
      obtain ⟨r, hP, hr⟩ := dist_l4 hn hB g _ N s hs.1 (fun q d hd hb h0 hm hN => ih q d s _ hd hb hm hN (by omega)) _ 0 q d (by rw [Nat.zero_add]) hd (by simpa using hb2) hs.2.1 hm (by simp at hN; omega) (by omega)
      refine ⟨r, hP, Evn.succ ?_⟩
      have hl := hB.len
      have e1 : rd (QI (s :: q)) 0 = (s : Int) := by simp [rd, QI]
      have e2 : (QI (s :: q)).drop (1 : Int).toNat = QI q := by simp [QI]
      have e3 : rd_L3 B (s : Int) = B.getD s [] := by simp [rd_L3]
      have e4 : (QI (s :: q)).length = q.length + 1 := by simp [QI]
      simp only [witness_distances.l3, e1, e2, e3, e4]
      iterate 5 (first | refine Evn.pos (by first | assumption | omega | (simp; done) | (simp; omega)) ?_ | refine Evn.neg (by first | assumption | omega | (simp; done) | (simp; omega)) ?_)
      exact hr
theorem ini_range (g : Nat → Bool) (n : Nat) : ∀ i, i < n → D ((List.range n).map (ini g)) i = ini g i := by
  intro i hi
  simp [D, hi]
theorem distances_ev {n : Nat} {T : List (List S80)} (hT : OkT n T) (φ : Int → Option Bool) (g : Nat → Bool) (hg : ∀ i, i < n → φ (i : Int) = some (g i)) :
    ∃ r, (r.length = n ∧ Lab n (E T) (fun i => g i = true) (D r) ∧ ∀ i, i < n → D r i ≤ n) ∧ Evn (fun k => witness_distances.f k (T.map (List.map pr)) φ) r := by
  have hsm := hT.small
  have hln := hT.len
  have hb0 : ∀ i, i < n → D ((List.range n).map (ini g)) i = ini g i := ini_range g n
  obtain ⟨r, hP, hr⟩ := dist_l0 hT φ (fun r => r.length = n ∧ Lab n (E T) (fun i => g i = true) (D r) ∧ ∀ i, i < n → D r i ≤ n) (fun B hB => by
    have := dist_l2 hsm φ g hg B (fun r => r.length = n ∧ Lab n (E T) (fun i => g i = true) (D r) ∧ ∀ i, i < n → D r i ≤ n) (by
      refine dist_l3 hsm hB g _ ((List.range n).filter g) ((List.range n).map (ini g)) 0 0 (by simp) ?_ ?_ rfl ?_
      · refine Bfs.congr (out := ini g) ?_ (fun i hi => (hb0 i hi).symm)
        refine ⟨fun i hi => ?_, fun i hi => ?_, fun i hi h => ?_, fun i j hi hj hE h hq => ?_, fun x hx => ?_, fun i hi => ?_, ?_⟩
        · unfold ini; split <;> omega
        · unfold ini; split <;> simp_all
        · unfold ini at h; split at h <;> omega
        · exfalso
          refine hq (List.mem_filter.2 ⟨List.mem_range.2 hj, ?_⟩)
          unfold ini at h; split at h
          · assumption
          · omega
        · have := List.mem_filter.1 hx
          refine ⟨List.mem_range.1 this.1, ?_⟩
          unfold ini; rw [if_pos this.2]; omega
        · unfold ini; split <;> omega
        · refine List.Pairwise.imp_of_mem ?_ ((List.pairwise_lt_range (n := n)).filter g)
          intro a b ha hb _
          simp only [ini, (List.mem_filter.1 ha).2, (List.mem_filter.1 hb).2, if_true]; omega
      · intro i hi
        rw [hb0 i hi]
        have := neg_le n (D ((List.range n).map (ini g)))
        have hu : ini g i = if g i = true then 0 else -1 := rfl
        rw [hu]; split <;> omega
      · have := neg_le n (D ((List.range n).map (ini g)))
        have h2 := List.length_filter_le g (List.range n)
        rw [List.length_range] at h2
        omega) n 0 (by omega)
    simpa using this) n 0 (List.replicate n []) (by omega) ⟨by simp, fun j => by
      simp only [List.getD_eq_getElem?_getD, List.getElem?_replicate]; split <;> simp, fun j hj r hr => by
      simp [List.getElem?_replicate, hj] at hr, fun i j hi => by omega, by simp⟩
  refine ⟨r, hP, ?_⟩
  simp only [witness_distances.f, List.length_map, hln, Int.toNat_natCast]
  (first | refine Evn.pos (by first | assumption | omega | (simp; done) | (simp; omega)) ?_ | refine Evn.neg (by first | assumption | omega | (simp; done) | (simp; omega)) ?_); (first | refine Evn.pos (by first | assumption | omega | (simp; done) | (simp; omega)) ?_ | refine Evn.neg (by first | assumption | omega | (simp; done) | (simp; omega)) ?_)
  exact hr
structure Rd (n : Nat) (T : List (List S80)) (g : Nat → Bool) (k : Nat) (i p : Nat) (d : List Int) : Prop where
  len : d.length = n
  lo : ∀ a, a < n → -1 ≤ D d a ∧ D d a ≤ k + 1
  old : ∀ a, i < a → a < n → D d a ≤ k + 1
  zero : ∀ a, a < n → (D d a = 0 ↔ g a = true)
  step : ∀ a, a < n → 0 < D d a → ∃ b, b < n ∧ E T a b ∧ D d b = D d a - 1
  edge : ∀ a b, a < n → b < n → E T a b → 0 ≤ D d b → D d b < k → 0 ≤ D d a ∧ D d a ≤ D d b + 1
  now : ∀ a b, a < i → a < n → b < n → E T a b → D d b = k → 0 ≤ D d a
  cur : ∀ e ∈ (T.getD i []).take p, D d e.f2.toNat = k → 0 ≤ D d i
theorem Rd.set {n : Nat} {T : List (List S80)} {g : Nat → Bool} {k i p : Nat} {d : List Int} (hT : OkT n T) (h : Rd n T g k i p d) (hi : i < n) (hn : D d i < 0) (t : Nat) (ht : t < n) (hE : E T i t) (hk : D d t = k) : Rd n T g k i (p + 1) (d.set i ((k : Int) + 1)) := by
  have hl := h.len
  have u : ∀ x, x < n → D (d.set i ((k : Int) + 1)) x = if x = i then (k : Int) + 1 else D d x := fun x hx => D_set (by omega) x (by omega)
  have uo : ∀ x, x < n → x ≠ i → D (d.set i ((k : Int) + 1)) x = D d x := fun x hx hne => by rw [u x hx, if_neg hne]
  have ui : D (d.set i ((k : Int) + 1)) i = (k : Int) + 1 := by rw [u i hi, if_pos rfl]
  refine ⟨by simpa using hl, fun a ha => ?_, fun a h1 ha => ?_, fun a ha => ?_, fun a ha hp => ?_, fun a b ha hb hE2 h0 hk2 => ?_, fun a b hai ha hb hE2 hk2 => ?_, fun e he hk2 => ?_⟩
  · have := h.lo a ha; rw [u a ha]; split <;> omega
  · rw [uo a ha (by omega)]; exact h.old a h1 ha
  · by_cases e : a = i
    · subst e; rw [ui]
      have := h.zero a ha
      constructor
      · intro c; omega
      · intro c; have := this.2 c; omega
    · rw [uo a ha e]; exact h.zero a ha
  · by_cases e : a = i
    · subst e
      refine ⟨t, ht, hE, ?_⟩
      rw [ui, uo t ht (fun c => by subst c; omega)]; omega
    · rw [uo a ha e] at hp ⊢
      obtain ⟨b, hb, h1, h2⟩ := h.step a ha hp
      exact ⟨b, hb, h1, by rw [uo b hb (fun c => by subst c; omega)]; exact h2⟩
  · by_cases e : b = i
    · subst e; rw [ui] at hk2; omega
    · rw [uo b hb e] at h0 hk2 ⊢
      have := h.edge a b ha hb hE2 h0 hk2
      by_cases e2 : a = i
      · subst e2; omega
      · rw [uo a ha e2]; exact this
  · by_cases e : b = i
    · subst e; rw [ui] at hk2; omega
    · rw [uo b hb e] at hk2
      rw [uo a ha (by omega)]
      exact h.now a b hai ha hb hE2 hk2
  · rw [ui]; omega
theorem Rd.keep {n : Nat} {T : List (List S80)} {g : Nat → Bool} {k i p : Nat} {d : List Int} (h : Rd n T g k i p d) (hp : p < (T.getD i []).length) (hn : D d ((T.getD i [])[p]).f2.toNat = k → 0 ≤ D d i) : Rd n T g k i (p + 1) d := by
  refine ⟨h.len, h.lo, h.old, h.zero, h.step, h.edge, h.now, fun e he => ?_⟩
  rw [List.take_succ_eq_append_getElem hp] at he
  rcases List.mem_append.1 he with he | he
  · exact h.cur e he
  · obtain rfl := List.mem_singleton.1 he; exact hn
theorem Rd.next {n : Nat} {T : List (List S80)} {g : Nat → Bool} {k i p : Nat} {d : List Int} (h : Rd n T g k i p d) (hp : p = (T.getD i []).length) : Rd n T g k (i + 1) 0 d := by
  refine ⟨h.len, h.lo, fun a ha => h.old a (by omega), h.zero, h.step, h.edge, fun a b hai ha hb hE hk => ?_, by simp⟩
  by_cases e : a = i
  · subst e
    obtain ⟨e, he, ht⟩ := hE
    refine h.cur e (by rw [hp, List.take_length]; exact he) ?_
    rw [ht, Int.toNat_natCast]; exact hk
  · exact h.now a b (by omega) ha hb hE hk
theorem Rd.round {n : Nat} {T : List (List S80)} {g : Nat → Bool} {k p : Nat} {d : List Int} (h : Rd n T g k n p d) : Rd n T g (k + 1) 0 0 d := by
  refine ⟨h.len, fun a ha => ?_, fun a h1 ha => ?_, h.zero, h.step, fun a b ha hb hE h0 hk => ?_, fun a b h1 => by omega, by simp⟩
  · have := h.lo a ha; omega
  · have := h.lo a ha; omega
  · by_cases e : D d b = k
    · have := h.now a b ha ha hb hE e
      have := h.lo a ha; omega
    · exact h.edge a b ha hb hE h0 (by omega)
theorem Rd.chain {n : Nat} {T : List (List S80)} {g : Nat → Bool} {k i p : Nat} {d : List Int} (h : Rd n T g k i p d) : ∀ (m a : Nat), a < n → D d a = m → ∀ v : Nat, v ≤ m → (v : Int) ∈ d := by
  have mem : ∀ a, a < n → D d a ∈ d := fun a ha => by
    have := h.len
    simp only [D, List.getD_eq_getElem?_getD]
    rw [List.getElem?_eq_getElem (by omega)]
    exact List.getElem_mem _
  intro m
  induction m with
  | zero => intro a ha hd v hv; obtain rfl : v = 0 := by omega
            rw [← hd]; exact mem a ha
  | succ m ih =>
    intro a ha hd v hv
    by_cases e : v = m + 1
    · subst e; rw [← hd]; exact mem a ha
    · obtain ⟨b, hb, _, h2⟩ := h.step a ha (by omega)
      exact ih b hb (by omega) v (by omega)
theorem Rd.lab {n : Nat} {T : List (List S80)} {g : Nat → Bool} {k : Nat} {d : List Int} (h : Rd n T g n 0 0 d) : Lab n (E T) (fun i => g i = true) (D d) := by
  have top : ∀ a, a < n → D d a < n := by
    intro a ha
    have h1 := h.lo a ha
    rcases Int.lt_or_le (D d a) n with c | c
    · exact c
    · have h2 := h.chain (D d a).toNat a ha (by omega)
      have := pigeon (n + 1) d (fun v hv => h2 v (by omega))
      have := h.len
      omega
  exact ⟨fun a ha => (h.lo a ha).1, h.zero, h.step, fun a b ha hb hE h0 => h.edge a b ha hb hE h0 (top b hb)⟩
theorem rdL80 {T : List (List S80)} {s : Nat} : rd_L80 T (s : Int) = T.getD s [] := by simp [rd_L80]
theorem rdist_l3 {n : Nat} {T : List (List S80)} (hT : OkT n T) (g : Nat → Bool) (P : List Int → Prop) (k i : Nat) (hk : k < n) (hi : i < n)
    (next : ∀ d, Rd n T g k (i + 1) 0 d → ∃ r, P r ∧ Evn (fun f => petrinetref16_distances.l2 f T d (k : Int) ((i + 1 : Nat) : Int)) r) :
    ∀ (m p : Nat) (d : List Int), p + m = (T.getD i []).length → Rd n T g k i p d → ∃ r, P r ∧ Evn (fun f => petrinetref16_distances.l3 f T d (k : Int) (i : Int) (p : Int)) r := by
  have hsm := hT.small
  have hln := hT.len
  have hrow := hT.rows i hi
  intro m
  induction m with
  | zero =>
    intro p d hp h
    obtain ⟨r, hP, hr⟩ := next d (h.next (by omega))
    refine ⟨r, hP, Evn.succ ?_⟩
    simp only [petrinetref16_distances.l3, rdL80, hln, wrap_succ (show i < 9223372036854775807 by omega)]
    iterate 3 (first | refine Evn.pos (by first | assumption | omega | (simp; done) | (simp; omega)) ?_ | refine Evn.neg (by first | assumption | omega | (simp; done) | (simp; omega)) ?_)
    exact hr
  | succ m ih =>
    intro p d hp h
    have hpl : p < (T.getD i []).length := by omega
    have hd := h.len
    have he : rd_T80 (T.getD i []) (p : Int) ∈ T.getD i [] := by rw [rd80 hpl]; exact List.getElem_mem _
    have htg := hT.tgt i hi _ he
    obtain ⟨t, ht⟩ : ∃ t : Nat, (rd_T80 (T.getD i []) (p : Int)).f2 = (t : Int) := ⟨_, (Int.toNat_of_nonneg htg.1).symm⟩
    have htn : t < n := by omega
    have hft : ((T.getD i [])[p]).f2.toNat = t := by rw [← rd80 hpl, ht, Int.toNat_natCast]
    by_cases c : D d i < 0
    · by_cases c2 : D d t = k
      · obtain ⟨r, hP, hr⟩ := ih (p + 1) _ (by omega) (h.set hT hi c t htn ⟨_, he, ht⟩ c2)
        refine ⟨r, hP, Evn.succ ?_⟩
        simp only [petrinetref16_distances.l3, rdL80, hln, hd, rdD, ht, Int.toNat_natCast, wrap_succ (show p < 9223372036854775807 by omega), wrap_succ (show k < 9223372036854775807 by omega)]
        iterate 9 (first | refine Evn.pos (by first | assumption | omega | (simp; done) | (simp; omega)) ?_ | refine Evn.neg (by first | assumption | omega | (simp; done) | (simp; omega)) ?_)
        exact hr
      · obtain ⟨r, hP, hr⟩ := ih (p + 1) _ (by omega) (h.keep hpl (by rw [hft]; intro e; exact absurd e c2))
        refine ⟨r, hP, Evn.succ ?_⟩
        simp only [petrinetref16_distances.l3, rdL80, hln, hd, rdD, ht, Int.toNat_natCast, wrap_succ (show p < 9223372036854775807 by omega)]
        iterate 9 (first | refine Evn.pos (by first | assumption | omega | (simp; done) | (simp; omega)) ?_ | refine Evn.neg (by first | assumption | omega | (simp; done) | (simp; omega)) ?_)
        exact hr
    · obtain ⟨r, hP, hr⟩ := ih (p + 1) _ (by omega) (h.keep hpl (fun _ => by omega))
      refine ⟨r, hP, Evn.succ ?_⟩
      simp only [petrinetref16_distances.l3, rdL80, hln, hd, rdD, ht, Int.toNat_natCast, wrap_succ (show p < 9223372036854775807 by omega)]
      iterate 5 (first | refine Evn.pos (by first | assumption | omega | (simp; done) | (simp; omega)) ?_ | refine Evn.neg (by first | assumption | omega | (simp; done) | (simp; omega)) ?_)
      exact hr
theorem rdist_l2 {n : Nat} {T : List (List S80)} (hT : OkT n T) (g : Nat → Bool) (P : List Int → Prop) (k : Nat) (hk : k < n)
    (next : ∀ d, Rd n T g (k + 1) 0 0 d → ∃ r, P r ∧ Evn (fun f => petrinetref16_distances.l1 f T d ((k + 1 : Nat) : Int)) r) :
    ∀ (m i : Nat) (d : List Int), i + m = n → Rd n T g k i 0 d → ∃ r, P r ∧ Evn (fun f => petrinetref16_distances.l2 f T d (k : Int) (i : Int)) r := by
  have hsm := hT.small
  have hln := hT.len
  intro m
  induction m with
  | zero =>
    intro i d hi h
    obtain rfl : i = n := by omega
    obtain ⟨r, hP, hr⟩ := next d h.round
    refine ⟨r, hP, Evn.succ ?_⟩
    simp only [petrinetref16_distances.l2, hln, wrap_succ (show k < 9223372036854775807 by omega)]
    (first | refine Evn.pos (by first | assumption | omega | (simp; done) | (simp; omega)) ?_ | refine Evn.neg (by first | assumption | omega | (simp; done) | (simp; omega)) ?_)
    exact hr
  | succ m ih =>
    intro i d hi h
    obtain ⟨r, hP, hr⟩ := rdist_l3 hT g P k i hk (by omega) (fun d hd => ih (i + 1) d (by omega) hd) _ 0 d (by rw [Nat.zero_add]) h
    refine ⟨r, hP, Evn.succ ?_⟩
    simp only [petrinetref16_distances.l2, hln]
    (first | refine Evn.pos (by first | assumption | omega | (simp; done) | (simp; omega)) ?_ | refine Evn.neg (by first | assumption | omega | (simp; done) | (simp; omega)) ?_)
    exact hr
theorem rdist_l1 {n : Nat} {T : List (List S80)} (hT : OkT n T) (g : Nat → Bool) :
    ∀ (m k : Nat) (d : List Int), k + m = n → Rd n T g k 0 0 d → ∃ r, (r.length = n ∧ Lab n (E T) (fun i => g i = true) (D r)) ∧ Evn (fun f => petrinetref16_distances.l1 f T d (k : Int)) r := by
  have hsm := hT.small
  have hln := hT.len
  intro m
  induction m with
  | zero =>
    intro k d hk h
    obtain rfl : k = n := by omega
    refine ⟨d, ⟨h.len, h.lab (k := 0)⟩, Evn.succ ?_⟩
    simp only [petrinetref16_distances.l1, hln]
    (first | refine Evn.pos (by first | assumption | omega | (simp; done) | (simp; omega)) ?_ | refine Evn.neg (by first | assumption | omega | (simp; done) | (simp; omega)) ?_)
    exact Evn.const _
  | succ m ih =>
    intro k d hk h
    obtain ⟨r, hP, hr⟩ := rdist_l2 hT g _ k (by omega) (fun d hd => ih (k + 1) d (by omega) hd) n 0 d (by omega) h
    refine ⟨r, hP, Evn.succ ?_⟩
    simp only [petrinetref16_distances.l1, hln]
    (first | refine Evn.pos (by first | assumption | omega | (simp; done) | (simp; omega)) ?_ | refine Evn.neg (by first | assumption | omega | (simp; done) | (simp; omega)) ?_)
    exact hr
theorem rdistances_ev {n : Nat} {T : List (List S80)} (hT : OkT n T) (g : Nat → Bool) :
    ∃ r, (r.length = n ∧ Lab n (E T) (fun i => g i = true) (D r)) ∧ Evn (fun f => petrinetref16_distances.f f T ((List.range n).map g)) r := by
  have hsm := hT.small
  have hln := hT.len
  obtain ⟨r, hP, hr⟩ := rdist_l1 hT g n 0 ((List.range n).map (ini g)) (by omega) (by
    have hb0 : ∀ i, i < n → D ((List.range n).map (ini g)) i = ini g i := ini_range g n
    have hi : ∀ i, ini g i = if g i = true then 0 else -1 := fun i => rfl
    refine ⟨by simp, fun a ha => ?_, fun a h1 ha => ?_, fun a ha => ?_, fun a ha h => ?_, fun a b ha hb hE h0 hk => by omega, fun a b h1 => by omega, by simp⟩
    · rw [hb0 a ha, hi]; split <;> omega
    · rw [hb0 a ha, hi]; split <;> omega
    · rw [hb0 a ha, hi]; split <;> simp_all
    · rw [hb0 a ha, hi] at h; split at h <;> omega)
  refine ⟨r, hP, ?_⟩
  have key : ∀ (m i : Nat), i + m = n → Evn (fun f => petrinetref16_distances.l0 f T ((List.range n).map g) ((List.range i).map (ini g)) (i : Int)) r := by
    intro m
    induction m with
    | zero =>
      intro i hi
      obtain rfl : i = n := by omega
      refine Evn.succ ?_
      simp only [petrinetref16_distances.l0, hln]
      (first | refine Evn.pos (by first | assumption | omega | (simp; done) | (simp; omega)) ?_ | refine Evn.neg (by first | assumption | omega | (simp; done) | (simp; omega)) ?_)
      exact hr
    | succ m ih =>
      intro i hi
      have := ih (i + 1) (by omega)
      rw [List.range_succ, List.map_append, List.map_singleton] at this
      have hrd : rdOf false ((List.range n).map g) (i : Int) = g i := by simp [rdOf, show i < n by omega]
      refine Evn.succ ?_
      simp only [petrinetref16_distances.l0, hln, hrd, wrap_succ (show i < 9223372036854775807 by omega)]
      (first | refine Evn.pos (by first | assumption | omega | (simp; done) | (simp; omega)) ?_ | refine Evn.neg (by first | assumption | omega | (simp; done) | (simp; omega)) ?_); (first | refine Evn.pos (by first | assumption | omega | (simp; done) | (simp; omega)) ?_ | refine Evn.neg (by first | assumption | omega | (simp; done) | (simp; omega)) ?_)
      refine Evn.pos (by simp; omega) ?_
      by_cases c : g i = true
      · refine Evn.pos c ?_
        refine Evn.pos (by simp; omega) ?_
        simpa [ini, c] using this
      · refine Evn.neg c ?_
        refine Evn.pos (by simp; omega) ?_
        simpa [ini, c] using this
  exact key n 0 (by omega)
end Go.Proofs.Ytfnjbgggmddgpaa.Q
end
section
namespace Go.Proofs.Ytfnjbgggmddgpaa.Q
open Go.RowKit Go.Proofs.Fn Go.Proofs.YtfnjbgggmddgpaaW.PrintWords Go.Proofs.YtfnjbgggmddgpaaW.PrintLast Go.Proofs.YtfnjbgggmddgpaaW.PrintMore
attribute [local go_sem] max2_int min2_int max_two min_two max_three min_three max_four min_four
set_option linter.unusedVariables false
set_option linter.unusedSimpArgs false
mutual
def witness_follow.l0 : Nat → List (List (S66)) → List Int → Int → List Int → Option (List Int)
 | 0, _, _, _, _ => none
 | k + 1, x0, x1, x2, x7 => if 0 ≤ x2 then (if x2 < (x1.length : Int) then (if (rd x1 x2) > 0 then (if x2 < (x0.length : Int) then (witness_follow.l1 k x0 x1 x2 x7 (rd_L66 x0 x2) ((rd_L66 x0 x2).length : Int) 0) else (none)) else (some x7)) else (none)) else (none)
def witness_follow.l1 : Nat → List (List (S66)) → List Int → Int → List Int → List (S66) → Int → Int → Option (List Int)
 | 0, _, _, _, _, _, _, _ => none
 | k + 1, x0, x1, x2, x7, x18, x19, x20 => if x20 < x19 then (if 0 ≤ x20 then (if x20 < (x18.length : Int) then (if 0 ≤ ((rd_T66 x18 x20).f1) then (if ((rd_T66 x18 x20).f1) < (x1.length : Int) then (if 0 ≤ x2 then (if x2 < (x1.length : Int) then (if (rd x1 ((rd_T66 x18 x20).f1)) = (wrap64 ((rd x1 x2) - 1)) then (if x7.length < 17592186044416 then (witness_follow.l0 k x0 x1 ((rd_T66 x18 x20).f1) (x7 ++ [(rd_T66 x18 x20).f0])) else (none)) else (witness_follow.l1 k x0 x1 x2 x7 x18 x19 (wrap64 (x20 + 1)))) else (none)) else (none)) else (none)) else (none)) else (none)) else (none)) else (witness_follow.l0 k x0 x1 x2 x7)
end
def witness_follow.f (k : Nat) (l0 : List (List (S66))) (l1 : List Int) (a2 : Int) : Option (List Int) := witness_follow.l0 k l0 l1 a2 ([] : List Int)
theorem witness_follow.mono_l : ∀ k, (∀ y0 y1 y2 y3, LeO (witness_follow.l0 k y0 y1 y2 y3) (witness_follow.l0 (k + 1) y0 y1 y2 y3)) ∧ (∀ y0 y1 y2 y3 y4 y5 y6, LeO (witness_follow.l1 k y0 y1 y2 y3 y4 y5 y6) (witness_follow.l1 (k + 1) y0 y1 y2 y3 y4 y5 y6))
 | 0 => ⟨fun _ _ _ _ r h => by simp [witness_follow.l0] at h, fun _ _ _ _ _ _ _ r h => by simp [witness_follow.l1] at h⟩
 | k + 1 => by
  obtain ⟨ih0, ih1⟩ := witness_follow.mono_l k
  refine ⟨?_, ?_⟩
  ·intro y0 y1 y2 y3
   unfold witness_follow.l0
   repeat' first
   | (with_reducible exact ih0 _ _ _ _)
   | (with_reducible exact ih1 _ _ _ _ _ _ _)
   | (with_reducible exact LeO.refl _)
   | (with_reducible exact LeO.none _)
   | (with_reducible refine LeO.ite ?_ ?_)
   | (with_reducible refine LeO.bind ?_ (fun _ => ?_))
   | exact ih0 _ _ _ _
   | exact ih1 _ _ _ _ _ _ _
   | exact LeO.none _
   | refine LeO.ite ?_ ?_
   | refine LeO.bind ?_ (fun _ => ?_)
  ·intro y0 y1 y2 y3 y4 y5 y6
   unfold witness_follow.l1
   repeat' first
   | (with_reducible exact ih0 _ _ _ _)
   | (with_reducible exact ih1 _ _ _ _ _ _ _)
   | (with_reducible exact LeO.refl _)
   | (with_reducible exact LeO.none _)
   | (with_reducible refine LeO.ite ?_ ?_)
   | (with_reducible refine LeO.bind ?_ (fun _ => ?_))
   | exact ih0 _ _ _ _
   | exact ih1 _ _ _ _ _ _ _
   | exact LeO.none _
   | refine LeO.ite ?_ ?_
   | refine LeO.bind ?_ (fun _ => ?_)
theorem witness_follow.mono : ∀ a0 a1 a2 k, LeO (witness_follow.f k a0 a1 a2) (witness_follow.f (k + 1) a0 a1 a2) := by
 intro a0 a1 a2 k
 obtain ⟨ih0, ih1⟩ := witness_follow.mono_l k
 unfold witness_follow.f
 repeat' first
   | (with_reducible exact ih0 _ _ _ _)
   | (with_reducible exact ih1 _ _ _ _ _ _ _)
   | (with_reducible exact LeO.refl _)
   | (with_reducible exact LeO.none _)
   | (with_reducible refine LeO.ite ?_ ?_)
   | (with_reducible refine LeO.bind ?_ (fun _ => ?_))
   | exact ih0 _ _ _ _
   | exact ih1 _ _ _ _ _ _ _
   | exact LeO.none _
   | refine LeO.ite ?_ ?_
   | refine LeO.bind ?_ (fun _ => ?_)
set_option maxHeartbeats 8000000 in
set_option maxRecDepth 100000 in
theorem witness_follow.calls (k : Nat) (A0 : Option Addr) (c0 : Nat) (l0 : List (List (S66))) (A1 : Option Addr) (c1 : Nat) (l1 : List Int) (a2 : Int) (r : List Int) (w : World) (hr0 : Kd.C (Kd.slice 66 k66) w A0 l0.length l0) (hc0 : l0.length ≤ c0) (hr1 : Kd.C (Kd.int .i64) w A1 l1.length l1) (hc1 : l1.length ≤ c1) (h : witness_follow.f k l0 l1 a2 = some r) :
  Calls Try.prog 55 #[.slice A0 l0.length c0, .slice A1 l1.length c1, .int .i64 a2] w fun e w' => ∃ v0_ : Value, e = .returned (v0_) ∧ Kd.R (Kd.int .i64) 3 w' w.heap.size (fun _ => True) v0_ r ∧ Below w.heap.size w w' := by
 have hu66 := Try.underlying66
 have HR0 := Aside0.mk hr0
 have HC0 := Aside0.mk hc0
 clear hr0 hc0
 have HR1 := Aside0.mk hr1
 have HC1 := Aside0.mk hc1
 clear hr1 hc1
 have HB := Aside0.mk (Below.refl w.heap.size w)
 have H : (witness_follow.l0 k l0 l1 a2 ([] : List Int)) = some r := h
 clear h
 have H' := Aside0.mk H
 clear H
 go_enter Try.func55, Try.ntmps55
 go_wp2_with go_step3
 repeat (go_quiet (fail); try go_wp2_with go_step3)
 go_loopg [2, 7] k (fun kq v2 v7 w' => ∃ (x2_1 : Int) (x7_1 : List Int), v2 = .int .i64 x2_1 ∧ Aside0 (witness_follow.l0 kq l0 l1 x2_1 x7_1 = some r) ∧ Aside0 (kq ≤ k) ∧ Aside0 (Kd.R (Kd.int .i64) 3 w' w.heap.size (fun _ => True) v7 x7_1) ∧ Aside0 (Below w.heap.size w w'))
 case atStart => exact ⟨(a2), (([] : List Int)), (by first | rfl | (simp; done) | (simp [*]; done)), H', ⟨Nat.le_refl _⟩, ⟨by first | exact Kd.R_nil _ _ _ _ _ | exact Kd.N_nil _ _ _ _ _ | exact Kd.V_nil _ _ _ _ _ | exact Kd.Q_nil _ _ _ _ _ | exact Kd.S_nil _ _ _ _ _⟩, ⟨by repeat (first | (with_reducible first | exact HB.out | apply below_alloc | apply pw_below_drewN | apply below_drew1) | exact HB.out)⟩⟩
 case round =>
  clear H'
  try clear c1
  try clear p2
  obtain ⟨x2_1, x7_1, rfl, HA, HK1, HO_7, HB⟩ := hrel
  cases gk with
  | zero => exact absurd HA.out (by simp [witness_follow.l0])
  | succ k1 =>
   have H := HA.out
   clear HA
   simp only [witness_follow.l0] at H
   by_cases c4 : 0 ≤ x2_1
   ·rw [if_pos c4] at H
    have c4b0 : decide (0 ≤ x2_1) = true := decide_eq_true c4
    clear c4
    by_cases c5 : x2_1 < (l1.length : Int)
    ·rw [if_pos c5] at H
     have c5b0 : decide (x2_1 < (l1.length : Int)) = true := decide_eq_true c5
     clear c5
     by_cases c6 : (rd l1 x2_1) > 0
     ·rw [if_pos c6] at H
      have c6b0 : decide (0 < (rd l1 x2_1)) = true := decide_eq_true c6
      clear c6
      by_cases c7 : x2_1 < (l0.length : Int)
      ·rw [if_pos c7] at H
       have c7b0 : decide (x2_1 < (l0.length : Int)) = true := decide_eq_true c7
       clear c7
       have H' := Aside0.mk H
       clear H
       have p101 : 0 ≤ (x2_1 : Int) := of_decide_eq_true (by first | (with_reducible assumption) | assumption)
       have q101 : x2_1 < (l1.length : Int) := of_decide_eq_true (by first | (with_reducible assumption) | assumption)
       obtain ⟨ad101, e101, hx101_0⟩ := Kd.at_int HR1.out x2_1 p101 q101
       cases e101
       replace hx101_0 := (HB.out.cell (World.block_lt_of_cell? w _ hx101_0)).trans hx101_0
       replace p101 := eq_true p101
       replace q101 := eq_true q101
       have p102 : 0 ≤ (x2_1 : Int) := of_decide_eq_true (by first | (with_reducible assumption) | assumption)
       have q102 : x2_1 < (l0.length : Int) := of_decide_eq_true (by first | (with_reducible assumption) | assumption)
       obtain ⟨ad102, A102_0, c102_0, e102, hx102_0, hl102_0, hi102_0⟩ := at_L66 HR0.out x2_1 p102 q102
       cases e102
       replace hx102_0 := (HB.out.cell (World.block_lt_of_cell? w _ hx102_0)).trans hx102_0
       have HR102_0 := Aside0.mk hi102_0
       have HC102_0 := Aside0.mk hl102_0
       clear hi102_0 hl102_0
       replace p102 := eq_true p102
       replace q102 := eq_true q102
       go_wp2_with go_step3
       repeat (go_quiet (fail); try go_wp2_with go_step3)
       go_loopg [2, 7, 20] k1 (fun kq v2 v7 v20 w' => ∃ (x2_2 : Int) (x7_2 : List Int) (x20_2 : Int), v2 = .int .i64 x2_2 ∧ v20 = .int .i64 x20_2 ∧ Aside0 (witness_follow.l1 kq l0 l1 x2_2 x7_2 (rd_L66 l0 x2_1) ((rd_L66 l0 x2_1).length : Int) x20_2 = some r) ∧ Aside0 (kq ≤ k1) ∧ Aside0 (Kd.R (Kd.int .i64) 3 w' w.heap.size (fun _ => True) v7 x7_2) ∧ Aside0 (Below w.heap.size w w'))
       case atStart => exact ⟨(x2_1), (x7_1), (0), (by first | rfl | (simp; done) | (simp [*]; done)), (by first | rfl | (simp; done) | (simp [*]; done)), H', ⟨Nat.le_refl _⟩, ⟨by (with_reducible repeat (first | apply Kd.R_alloc | apply Kd.R_drewN | apply Kd.R_drew)); exact HO_7.out⟩, ⟨by repeat (first | (with_reducible first | exact HB.out | apply below_alloc | apply pw_below_drewN | apply below_drew1) | exact HB.out)⟩⟩
       case round =>
        clear H'
        try clear c1
        try clear p1
        try clear q1
        try clear hx1
        try clear p2
        try clear c4
        try clear c4b0
        try clear c5
        try clear c5b0
        try clear c6
        try clear c6b0
        try clear c7
        try clear c7b0
        try clear hx101_0
        try clear hx102_0
        try clear p101
        try clear p102
        try clear p2
        try clear q101
        try clear q102
        obtain ⟨x2_2, x7_2, x20_2, rfl, rfl, HA, HK2, HO_7, HB⟩ := hrel
        cases gk with
        | zero => exact absurd HA.out (by simp [witness_follow.l1])
        | succ k2 =>
         have H := HA.out
         clear HA
         simp only [witness_follow.l1] at H
         by_cases c8 : x20_2 < ((rd_L66 l0 x2_1).length : Int)
         ·rw [if_pos c8] at H
          have c8b0 : decide (x20_2 < ((rd_L66 l0 x2_1).length : Int)) = true := decide_eq_true c8
          clear c8
          by_cases c9 : 0 ≤ x20_2
          ·rw [if_pos c9] at H
           have c9b0 : decide (0 ≤ x20_2) = true := decide_eq_true c9
           clear c9
           by_cases c10 : x20_2 < ((rd_L66 l0 x2_1).length : Int)
           ·rw [if_pos c10] at H
            have c10b0 : decide (x20_2 < ((rd_L66 l0 x2_1).length : Int)) = true := decide_eq_true c10
            clear c10
            by_cases c11 : 0 ≤ ((rd_T66 (rd_L66 l0 x2_1) x20_2).f1)
            ·rw [if_pos c11] at H
             have c11b0 : decide (0 ≤ ((rd_T66 (rd_L66 l0 x2_1) x20_2).f1)) = true := decide_eq_true c11
             clear c11
             by_cases c12 : ((rd_T66 (rd_L66 l0 x2_1) x20_2).f1) < (l1.length : Int)
             ·rw [if_pos c12] at H
              have c12b0 : decide (((rd_T66 (rd_L66 l0 x2_1) x20_2).f1) < (l1.length : Int)) = true := decide_eq_true c12
              clear c12
              by_cases c13 : 0 ≤ x2_2
              ·rw [if_pos c13] at H
               have c13b0 : decide (0 ≤ x2_2) = true := decide_eq_true c13
               clear c13
               by_cases c14 : x2_2 < (l1.length : Int)
               ·rw [if_pos c14] at H
                have c14b0 : decide (x2_2 < (l1.length : Int)) = true := decide_eq_true c14
                clear c14
                by_cases c15 : (rd l1 ((rd_T66 (rd_L66 l0 x2_1) x20_2).f1)) = (wrap64 ((rd l1 x2_2) - 1))
                ·rw [if_pos c15] at H
                 have c15b0 : ((rd l1 ((rd_T66 (rd_L66 l0 x2_1) x20_2).f1)) == (wrap64 ((rd l1 x2_2) - 1))) = true := beq_iff_eq.mpr c15
                 have c15b1 : ((rd l1 ((rd_T66 (rd_L66 l0 x2_1) x20_2).f1)) != (wrap64 ((rd l1 x2_2) - 1))) = false := bne_eq_false_iff_eq.mpr c15
                 clear c15
                 by_cases c16 : x7_2.length < 17592186044416
                 ·rw [if_pos c16] at H
                  have LMc16 := Aside0.mk c16
                  clear c16
                  obtain ⟨y107, hy107⟩ : ∃ y_ : List Int, y_ = (x7_2 ++ [(rd_T66 (rd_L66 l0 x2_1) x20_2).f0]) := ⟨_, rfl⟩
                  replace H : (witness_follow.l0 k2 l0 l1 ((rd_T66 (rd_L66 l0 x2_1) x20_2).f1) y107) = some r := by first | (rw [hy107]; with_reducible exact H) | (have H2_ := (Option.bind_some _ _).symm.trans H; rw [hy107]; with_reducible exact H2_) | (have H2_ := (Option.bind_some _ _).symm.trans H; with_reducible exact H2_) | with_reducible exact H | (rw [hy107]; exact H) | exact H
                  have Ny107 := Aside0.mk hy107
                  clear hy107
                  have H' := Aside0.mk H
                  clear H
                  have p103 : 0 ≤ (x20_2 : Int) := of_decide_eq_true (by first | (with_reducible assumption) | assumption)
                  have q103 : x20_2 < ((rd_L66 l0 x2_1).length : Int) := of_decide_eq_true (by first | (with_reducible assumption) | assumption)
                  obtain ⟨ad103, e103, hx103_0, hx103_1⟩ := at_T66 HR102_0.out x20_2 p103 q103
                  cases e103
                  replace hx103_0 := (HB.out.cell (World.block_lt_of_cell? w _ hx103_0)).trans hx103_0
                  replace hx103_1 := (HB.out.cell (World.block_lt_of_cell? w _ hx103_1)).trans hx103_1
                  replace p103 := eq_true p103
                  replace q103 := eq_true q103
                  go_wp2_with (first | go_step3 | ((with_reducible refine gate_dst (N := 9) rfl ?_); refine box_event ?hg (N := 9) ?hd (cs := #[.int .i64 0, .int .i64 0]) (t := 66) ?hr ?_; (case hd => rfl); (case hg => rfl); (case hr => first | (go_simp; done) | (go_simp; rfl)); intro gb104 hg w17 hbox hb; have n0_ := Aside0.mk (Kd.R_below (by (with_reducible repeat (first | apply Kd.R_alloc | apply Kd.R_drewN | apply Kd.R_drew)); exact HO_7.out) hb); have n1_ := Aside0.mk (below_step (by repeat (first | (with_reducible first | exact HB.out | apply below_alloc | apply pw_below_drewN | apply below_drew1) | exact HB.out)) hb); have n2_ := Aside0.mk (hbox); have n3_ := Aside0.mk ((by rw [hg]; exact (below_size (by repeat (first | (with_reducible first | exact HB.out | apply below_alloc | apply pw_below_drewN | apply below_drew1) | exact HB.out))) : w.heap.size ≤ gb104)); have n4_ := Aside0.mk ((by rw [hg]; exact (below_size (by repeat (first | (with_reducible first | exact HB.out | apply below_alloc | apply pw_below_drewN | apply below_drew1) | exact HB.out))) : w.heap.size ≤ gb104)); clear HO_7; clear HB; have HO_7 := n0_; have HB := n1_; have BK104 := n2_; have GW104 := n3_; have GE104 := n4_; clear n0_ n1_ n2_ n3_ n4_; clear hb hbox hg; have hcz18_0 : w17.cell? ⟨gb104, 0, none⟩ = some (.int .i64 0) := (blk_cell BK104.out 0).trans rfl; have hcz18_1 : w17.cell? ⟨gb104, 1, none⟩ = some (.int .i64 0) := (blk_cell BK104.out 1).trans rfl; have hfz18_0 := blk_frozen BK104.out 0; have hfz18_1 := blk_frozen BK104.out 1; have p105 : 0 ≤ (((rd_T66 (rd_L66 l0 x2_1) x20_2).f1) : Int) := of_decide_eq_true (by first | (with_reducible assumption) | assumption); have q105 : ((rd_T66 (rd_L66 l0 x2_1) x20_2).f1) < (l1.length : Int) := of_decide_eq_true (by first | (with_reducible assumption) | assumption); obtain ⟨ad105, e105, hx105_0⟩ := Kd.at_int HR1.out ((rd_T66 (rd_L66 l0 x2_1) x20_2).f1) p105 q105; obtain rfl : ad101 = ad105 := (by injection e105); have hn105_0 : ad101.block ≠ gb104 := Nat.ne_of_lt (Nat.lt_of_lt_of_le (by have := World.block_lt_of_cell? _ _ hx105_0; first | rwa [add_block] at this | exact this) GW104.out); have hn105_1 : ad101.block ≠ gb104 := Nat.ne_of_lt (Nat.lt_of_lt_of_le (by have := World.block_lt_of_cell? _ _ hx105_0; first | rwa [add_block] at this | exact this) GW104.out); replace hx105_0 := (HB.out.cell (World.block_lt_of_cell? w _ hx105_0)).trans hx105_0; replace hx105_0 := (cell_far (p := ⟨gb104, 0, none⟩) (by first | (rw [add_block]; exact hn105_0) | (show (Addr.add _ _).block ≠ _; rw [add_block]; exact hn105_0) | exact hn105_0) (.int .i64 ((rd_T66 (rd_L66 l0 x2_1) x20_2).f0))).trans hx105_0; replace hx105_0 := (cell_far (p := ⟨gb104, 1, none⟩) (by first | (rw [add_block]; exact hn105_1) | (show (Addr.add _ _).block ≠ _; rw [add_block]; exact hn105_1) | exact hn105_1) (.int .i64 ((rd_T66 (rd_L66 l0 x2_1) x20_2).f1))).trans hx105_0; (try have hy105_0 := fun (n_ : Nat) => (show ((((w17.drewN n_).setCell ⟨gb104, 0, none⟩ (.int .i64 ((rd_T66 (rd_L66 l0 x2_1) x20_2).f0))).setCell ⟨gb104, 1, none⟩ (.int .i64 ((rd_T66 (rd_L66 l0 x2_1) x20_2).f1)))).cell? _ = some _ from hx105_0)); clear hn105_0; clear hn105_1; replace p105 := eq_true p105; replace q105 := eq_true q105; have p106 : 0 ≤ (x2_2 : Int) := of_decide_eq_true (by first | (with_reducible assumption) | assumption); have q106 : x2_2 < (l1.length : Int) := of_decide_eq_true (by first | (with_reducible assumption) | assumption); obtain ⟨ad106, e106, hx106_0⟩ := Kd.at_int HR1.out x2_2 p106 q106; obtain rfl : ad101 = ad106 := (by injection e106); have hn106_0 : ad101.block ≠ gb104 := Nat.ne_of_lt (Nat.lt_of_lt_of_le (by have := World.block_lt_of_cell? _ _ hx106_0; first | rwa [add_block] at this | exact this) GW104.out); have hn106_1 : ad101.block ≠ gb104 := Nat.ne_of_lt (Nat.lt_of_lt_of_le (by have := World.block_lt_of_cell? _ _ hx106_0; first | rwa [add_block] at this | exact this) GW104.out); replace hx106_0 := (HB.out.cell (World.block_lt_of_cell? w _ hx106_0)).trans hx106_0; replace hx106_0 := (cell_far (p := ⟨gb104, 0, none⟩) (by first | (rw [add_block]; exact hn106_0) | (show (Addr.add _ _).block ≠ _; rw [add_block]; exact hn106_0) | exact hn106_0) (.int .i64 ((rd_T66 (rd_L66 l0 x2_1) x20_2).f0))).trans hx106_0; replace hx106_0 := (cell_far (p := ⟨gb104, 1, none⟩) (by first | (rw [add_block]; exact hn106_1) | (show (Addr.add _ _).block ≠ _; rw [add_block]; exact hn106_1) | exact hn106_1) (.int .i64 ((rd_T66 (rd_L66 l0 x2_1) x20_2).f1))).trans hx106_0; (try have hy106_0 := fun (n_ : Nat) => (show ((((w17.drewN n_).setCell ⟨gb104, 0, none⟩ (.int .i64 ((rd_T66 (rd_L66 l0 x2_1) x20_2).f0))).setCell ⟨gb104, 1, none⟩ (.int .i64 ((rd_T66 (rd_L66 l0 x2_1) x20_2).f1)))).cell? _ = some _ from hx106_0)); clear hn106_0; clear hn106_1; replace p106 := eq_true p106; replace q106 := eq_true q106) | ((with_reducible refine gate_builtin (b := .append) (xs := #[.tmp 35, .tmp 38]) rfl ?_); at_builtin; refine Kd.R_append (Kd.int .i64) (w0 := w) w.heap.size rfl (.tmp 35) (.tmp 38) 28 3 (.int .i64 0) 8 rfl Try.underlying28 info3 rfl (by decide) (by omega) u7 x7_2 ((rd_T66 (rd_L66 l0 x2_1) x20_2).f0) [.int .i64 ((rd_T66 (rd_L66 l0 x2_1) x20_2).f0)] (fun _ => True) (fun _ => False) rfl (by first | (go_simp; done) | (go_simp; rfl)) ?aP (fun _ hk => hk.elim) ?aF ?aO ?aB ?aS ?aL ?_; (case aP => exact rfl); (case aB => exact (by repeat (first | (with_reducible first | exact HB.out | apply below_alloc | apply pw_below_drewN | apply below_drew1 | refine below_set ?_ GE104.out) | exact HB.out))); (case aF => exact (fun _ _ => trivial)); (case aO => exact (by (with_reducible repeat (first | apply Kd.R_alloc | apply Kd.R_drewN | apply Kd.R_drew)); exact Kd.R_mono (Kd.R_far (p := ⟨gb104, 1, none⟩) (Kd.R_far (p := ⟨gb104, 0, none⟩) (Kd.R_types HO_7.out BK104.out (by decide)) (fun _ hk => hk.2) (.int .i64 ((rd_T66 (rd_L66 l0 x2_1) x20_2).f0))) (fun _ hk => hk.2) (.int .i64 ((rd_T66 (rd_L66 l0 x2_1) x20_2).f1))) (fun _ hk => trivial))); (case aS => exact (below_size (by repeat (first | (with_reducible first | exact HB.out | apply below_alloc | apply pw_below_drewN | apply below_drew1 | refine below_set ?_ GE104.out) | exact HB.out)))); (case aL => have := LMc16.out; omega); intro v108 w19 ho hb hg hat; rw [← Ny107.out] at ho; have n0_ := Aside0.mk (blk_grown (g := gb104) (o := .cells #[.int .i64 ((rd_T66 (rd_L66 l0 x2_1) x20_2).f0), .int .i64 ((rd_T66 (rd_L66 l0 x2_1) x20_2).f1)] 66 (0, 0)) (by (with_reducible repeat (first | refine blk_drewN ?_ _ | refine blk_drew ?_ | refine blk_alloc ?_ _)); refine blk_put (cs := #[.int .i64 ((rd_T66 (rd_L66 l0 x2_1) x20_2).f0), .int .i64 0]) ?_ 1 _ rfl; (with_reducible repeat (first | refine blk_drewN ?_ _ | refine blk_drew ?_ | refine blk_alloc ?_ _)); refine blk_put (cs := #[.int .i64 0, .int .i64 0]) ?_ 0 _ rfl; (with_reducible repeat (first | refine blk_drewN ?_ _ | refine blk_drew ?_ | refine blk_alloc ?_ _)); exact BK104.out) hg (Kd.R_ne HO_7.out BK104.out (by decide))); have n1_ := Aside0.mk (hb); have n2_ := Aside0.mk (ho); clear BK104; clear HB; clear HO_7; have BK104 := n0_; have HB := n1_; have HO109 := n2_; clear n0_ n1_ n2_; clear ho hb hg hat; have hcz20_0 : w19.cell? ⟨gb104, 0, none⟩ = some (.int .i64 ((rd_T66 (rd_L66 l0 x2_1) x20_2).f0)) := (blk_cell BK104.out 0).trans rfl; have hcz20_1 : w19.cell? ⟨gb104, 1, none⟩ = some (.int .i64 ((rd_T66 (rd_L66 l0 x2_1) x20_2).f1)) := (blk_cell BK104.out 1).trans rfl; have hfz20_0 := blk_frozen BK104.out 0; have hfz20_1 := blk_frozen BK104.out 1))
                  repeat (go_quiet (first | ((with_reducible refine gate_dst (N := 9) rfl ?_); refine box_event ?hg (N := 9) ?hd (cs := #[.int .i64 0, .int .i64 0]) (t := 66) ?hr ?_; (case hd => rfl); (case hg => rfl); (case hr => first | (go_simp; done) | (go_simp; rfl)); intro gb104 hg w17 hbox hb; have n0_ := Aside0.mk (Kd.R_below (by (with_reducible repeat (first | apply Kd.R_alloc | apply Kd.R_drewN | apply Kd.R_drew)); exact HO_7.out) hb); have n1_ := Aside0.mk (below_step (by repeat (first | (with_reducible first | exact HB.out | apply below_alloc | apply pw_below_drewN | apply below_drew1) | exact HB.out)) hb); have n2_ := Aside0.mk (hbox); have n3_ := Aside0.mk ((by rw [hg]; exact (below_size (by repeat (first | (with_reducible first | exact HB.out | apply below_alloc | apply pw_below_drewN | apply below_drew1) | exact HB.out))) : w.heap.size ≤ gb104)); have n4_ := Aside0.mk ((by rw [hg]; exact (below_size (by repeat (first | (with_reducible first | exact HB.out | apply below_alloc | apply pw_below_drewN | apply below_drew1) | exact HB.out))) : w.heap.size ≤ gb104)); clear HO_7; clear HB; have HO_7 := n0_; have HB := n1_; have BK104 := n2_; have GW104 := n3_; have GE104 := n4_; clear n0_ n1_ n2_ n3_ n4_; clear hb hbox hg; have hcz18_0 : w17.cell? ⟨gb104, 0, none⟩ = some (.int .i64 0) := (blk_cell BK104.out 0).trans rfl; have hcz18_1 : w17.cell? ⟨gb104, 1, none⟩ = some (.int .i64 0) := (blk_cell BK104.out 1).trans rfl; have hfz18_0 := blk_frozen BK104.out 0; have hfz18_1 := blk_frozen BK104.out 1; have p105 : 0 ≤ (((rd_T66 (rd_L66 l0 x2_1) x20_2).f1) : Int) := of_decide_eq_true (by first | (with_reducible assumption) | assumption); have q105 : ((rd_T66 (rd_L66 l0 x2_1) x20_2).f1) < (l1.length : Int) := of_decide_eq_true (by first | (with_reducible assumption) | assumption); obtain ⟨ad105, e105, hx105_0⟩ := Kd.at_int HR1.out ((rd_T66 (rd_L66 l0 x2_1) x20_2).f1) p105 q105; obtain rfl : ad101 = ad105 := (by injection e105); have hn105_0 : ad101.block ≠ gb104 := Nat.ne_of_lt (Nat.lt_of_lt_of_le (by have := World.block_lt_of_cell? _ _ hx105_0; first | rwa [add_block] at this | exact this) GW104.out); have hn105_1 : ad101.block ≠ gb104 := Nat.ne_of_lt (Nat.lt_of_lt_of_le (by have := World.block_lt_of_cell? _ _ hx105_0; first | rwa [add_block] at this | exact this) GW104.out); replace hx105_0 := (HB.out.cell (World.block_lt_of_cell? w _ hx105_0)).trans hx105_0; replace hx105_0 := (cell_far (p := ⟨gb104, 0, none⟩) (by first | (rw [add_block]; exact hn105_0) | (show (Addr.add _ _).block ≠ _; rw [add_block]; exact hn105_0) | exact hn105_0) (.int .i64 ((rd_T66 (rd_L66 l0 x2_1) x20_2).f0))).trans hx105_0; replace hx105_0 := (cell_far (p := ⟨gb104, 1, none⟩) (by first | (rw [add_block]; exact hn105_1) | (show (Addr.add _ _).block ≠ _; rw [add_block]; exact hn105_1) | exact hn105_1) (.int .i64 ((rd_T66 (rd_L66 l0 x2_1) x20_2).f1))).trans hx105_0; (try have hy105_0 := fun (n_ : Nat) => (show ((((w17.drewN n_).setCell ⟨gb104, 0, none⟩ (.int .i64 ((rd_T66 (rd_L66 l0 x2_1) x20_2).f0))).setCell ⟨gb104, 1, none⟩ (.int .i64 ((rd_T66 (rd_L66 l0 x2_1) x20_2).f1)))).cell? _ = some _ from hx105_0)); clear hn105_0; clear hn105_1; replace p105 := eq_true p105; replace q105 := eq_true q105; have p106 : 0 ≤ (x2_2 : Int) := of_decide_eq_true (by first | (with_reducible assumption) | assumption); have q106 : x2_2 < (l1.length : Int) := of_decide_eq_true (by first | (with_reducible assumption) | assumption); obtain ⟨ad106, e106, hx106_0⟩ := Kd.at_int HR1.out x2_2 p106 q106; obtain rfl : ad101 = ad106 := (by injection e106); have hn106_0 : ad101.block ≠ gb104 := Nat.ne_of_lt (Nat.lt_of_lt_of_le (by have := World.block_lt_of_cell? _ _ hx106_0; first | rwa [add_block] at this | exact this) GW104.out); have hn106_1 : ad101.block ≠ gb104 := Nat.ne_of_lt (Nat.lt_of_lt_of_le (by have := World.block_lt_of_cell? _ _ hx106_0; first | rwa [add_block] at this | exact this) GW104.out); replace hx106_0 := (HB.out.cell (World.block_lt_of_cell? w _ hx106_0)).trans hx106_0; replace hx106_0 := (cell_far (p := ⟨gb104, 0, none⟩) (by first | (rw [add_block]; exact hn106_0) | (show (Addr.add _ _).block ≠ _; rw [add_block]; exact hn106_0) | exact hn106_0) (.int .i64 ((rd_T66 (rd_L66 l0 x2_1) x20_2).f0))).trans hx106_0; replace hx106_0 := (cell_far (p := ⟨gb104, 1, none⟩) (by first | (rw [add_block]; exact hn106_1) | (show (Addr.add _ _).block ≠ _; rw [add_block]; exact hn106_1) | exact hn106_1) (.int .i64 ((rd_T66 (rd_L66 l0 x2_1) x20_2).f1))).trans hx106_0; (try have hy106_0 := fun (n_ : Nat) => (show ((((w17.drewN n_).setCell ⟨gb104, 0, none⟩ (.int .i64 ((rd_T66 (rd_L66 l0 x2_1) x20_2).f0))).setCell ⟨gb104, 1, none⟩ (.int .i64 ((rd_T66 (rd_L66 l0 x2_1) x20_2).f1)))).cell? _ = some _ from hx106_0)); clear hn106_0; clear hn106_1; replace p106 := eq_true p106; replace q106 := eq_true q106) | ((with_reducible refine gate_builtin (b := .append) (xs := #[.tmp 35, .tmp 38]) rfl ?_); at_builtin; refine Kd.R_append (Kd.int .i64) (w0 := w) w.heap.size rfl (.tmp 35) (.tmp 38) 28 3 (.int .i64 0) 8 rfl Try.underlying28 info3 rfl (by decide) (by omega) u7 x7_2 ((rd_T66 (rd_L66 l0 x2_1) x20_2).f0) [.int .i64 ((rd_T66 (rd_L66 l0 x2_1) x20_2).f0)] (fun _ => True) (fun _ => False) rfl (by first | (go_simp; done) | (go_simp; rfl)) ?aP (fun _ hk => hk.elim) ?aF ?aO ?aB ?aS ?aL ?_; (case aP => exact rfl); (case aB => exact (by repeat (first | (with_reducible first | exact HB.out | apply below_alloc | apply pw_below_drewN | apply below_drew1 | refine below_set ?_ GE104.out) | exact HB.out))); (case aF => exact (fun _ _ => trivial)); (case aO => exact (by (with_reducible repeat (first | apply Kd.R_alloc | apply Kd.R_drewN | apply Kd.R_drew)); exact Kd.R_mono (Kd.R_far (p := ⟨gb104, 1, none⟩) (Kd.R_far (p := ⟨gb104, 0, none⟩) (Kd.R_types HO_7.out BK104.out (by decide)) (fun _ hk => hk.2) (.int .i64 ((rd_T66 (rd_L66 l0 x2_1) x20_2).f0))) (fun _ hk => hk.2) (.int .i64 ((rd_T66 (rd_L66 l0 x2_1) x20_2).f1))) (fun _ hk => trivial))); (case aS => exact (below_size (by repeat (first | (with_reducible first | exact HB.out | apply below_alloc | apply pw_below_drewN | apply below_drew1 | refine below_set ?_ GE104.out) | exact HB.out)))); (case aL => have := LMc16.out; omega); intro v108 w19 ho hb hg hat; rw [← Ny107.out] at ho; have n0_ := Aside0.mk (blk_grown (g := gb104) (o := .cells #[.int .i64 ((rd_T66 (rd_L66 l0 x2_1) x20_2).f0), .int .i64 ((rd_T66 (rd_L66 l0 x2_1) x20_2).f1)] 66 (0, 0)) (by (with_reducible repeat (first | refine blk_drewN ?_ _ | refine blk_drew ?_ | refine blk_alloc ?_ _)); refine blk_put (cs := #[.int .i64 ((rd_T66 (rd_L66 l0 x2_1) x20_2).f0), .int .i64 0]) ?_ 1 _ rfl; (with_reducible repeat (first | refine blk_drewN ?_ _ | refine blk_drew ?_ | refine blk_alloc ?_ _)); refine blk_put (cs := #[.int .i64 0, .int .i64 0]) ?_ 0 _ rfl; (with_reducible repeat (first | refine blk_drewN ?_ _ | refine blk_drew ?_ | refine blk_alloc ?_ _)); exact BK104.out) hg (Kd.R_ne HO_7.out BK104.out (by decide))); have n1_ := Aside0.mk (hb); have n2_ := Aside0.mk (ho); clear BK104; clear HB; clear HO_7; have BK104 := n0_; have HB := n1_; have HO109 := n2_; clear n0_ n1_ n2_; clear ho hb hg hat; have hcz20_0 : w19.cell? ⟨gb104, 0, none⟩ = some (.int .i64 ((rd_T66 (rd_L66 l0 x2_1) x20_2).f0)) := (blk_cell BK104.out 0).trans rfl; have hcz20_1 : w19.cell? ⟨gb104, 1, none⟩ = some (.int .i64 ((rd_T66 (rd_L66 l0 x2_1) x20_2).f1)) := (blk_cell BK104.out 1).trans rfl; have hfz20_0 := blk_frozen BK104.out 0; have hfz20_1 := blk_frozen BK104.out 1)); try go_wp2_with (first | go_step3 | ((with_reducible refine gate_dst (N := 9) rfl ?_); refine box_event ?hg (N := 9) ?hd (cs := #[.int .i64 0, .int .i64 0]) (t := 66) ?hr ?_; (case hd => rfl); (case hg => rfl); (case hr => first | (go_simp; done) | (go_simp; rfl)); intro gb104 hg w17 hbox hb; have n0_ := Aside0.mk (Kd.R_below (by (with_reducible repeat (first | apply Kd.R_alloc | apply Kd.R_drewN | apply Kd.R_drew)); exact HO_7.out) hb); have n1_ := Aside0.mk (below_step (by repeat (first | (with_reducible first | exact HB.out | apply below_alloc | apply pw_below_drewN | apply below_drew1) | exact HB.out)) hb); have n2_ := Aside0.mk (hbox); have n3_ := Aside0.mk ((by rw [hg]; exact (below_size (by repeat (first | (with_reducible first | exact HB.out | apply below_alloc | apply pw_below_drewN | apply below_drew1) | exact HB.out))) : w.heap.size ≤ gb104)); have n4_ := Aside0.mk ((by rw [hg]; exact (below_size (by repeat (first | (with_reducible first | exact HB.out | apply below_alloc | apply pw_below_drewN | apply below_drew1) | exact HB.out))) : w.heap.size ≤ gb104)); clear HO_7; clear HB; have HO_7 := n0_; have HB := n1_; have BK104 := n2_; have GW104 := n3_; have GE104 := n4_; clear n0_ n1_ n2_ n3_ n4_; clear hb hbox hg; have hcz18_0 : w17.cell? ⟨gb104, 0, none⟩ = some (.int .i64 0) := (blk_cell BK104.out 0).trans rfl; have hcz18_1 : w17.cell? ⟨gb104, 1, none⟩ = some (.int .i64 0) := (blk_cell BK104.out 1).trans rfl; have hfz18_0 := blk_frozen BK104.out 0; have hfz18_1 := blk_frozen BK104.out 1; have p105 : 0 ≤ (((rd_T66 (rd_L66 l0 x2_1) x20_2).f1) : Int) := of_decide_eq_true (by first | (with_reducible assumption) | assumption); have q105 : ((rd_T66 (rd_L66 l0 x2_1) x20_2).f1) < (l1.length : Int) := of_decide_eq_true (by first | (with_reducible assumption) | assumption); obtain ⟨ad105, e105, hx105_0⟩ := Kd.at_int HR1.out ((rd_T66 (rd_L66 l0 x2_1) x20_2).f1) p105 q105; obtain rfl : ad101 = ad105 := (by injection e105); have hn105_0 : ad101.block ≠ gb104 := Nat.ne_of_lt (Nat.lt_of_lt_of_le (by have := World.block_lt_of_cell? _ _ hx105_0; first | rwa [add_block] at this | exact this) GW104.out); have hn105_1 : ad101.block ≠ gb104 := Nat.ne_of_lt (Nat.lt_of_lt_of_le (by have := World.block_lt_of_cell? _ _ hx105_0; first | rwa [add_block] at this | exact this) GW104.out); replace hx105_0 := (HB.out.cell (World.block_lt_of_cell? w _ hx105_0)).trans hx105_0; replace hx105_0 := (cell_far (p := ⟨gb104, 0, none⟩) (by first | (rw [add_block]; exact hn105_0) | (show (Addr.add _ _).block ≠ _; rw [add_block]; exact hn105_0) | exact hn105_0) (.int .i64 ((rd_T66 (rd_L66 l0 x2_1) x20_2).f0))).trans hx105_0; replace hx105_0 := (cell_far (p := ⟨gb104, 1, none⟩) (by first | (rw [add_block]; exact hn105_1) | (show (Addr.add _ _).block ≠ _; rw [add_block]; exact hn105_1) | exact hn105_1) (.int .i64 ((rd_T66 (rd_L66 l0 x2_1) x20_2).f1))).trans hx105_0; (try have hy105_0 := fun (n_ : Nat) => (show ((((w17.drewN n_).setCell ⟨gb104, 0, none⟩ (.int .i64 ((rd_T66 (rd_L66 l0 x2_1) x20_2).f0))).setCell ⟨gb104, 1, none⟩ (.int .i64 ((rd_T66 (rd_L66 l0 x2_1) x20_2).f1)))).cell? _ = some _ from hx105_0)); clear hn105_0; clear hn105_1; replace p105 := eq_true p105; replace q105 := eq_true q105; have p106 : 0 ≤ (x2_2 : Int) := of_decide_eq_true (by first | (with_reducible assumption) | assumption); have q106 : x2_2 < (l1.length : Int) := of_decide_eq_true (by first | (with_reducible assumption) | assumption); obtain ⟨ad106, e106, hx106_0⟩ := Kd.at_int HR1.out x2_2 p106 q106; obtain rfl : ad101 = ad106 := (by injection e106); have hn106_0 : ad101.block ≠ gb104 := Nat.ne_of_lt (Nat.lt_of_lt_of_le (by have := World.block_lt_of_cell? _ _ hx106_0; first | rwa [add_block] at this | exact this) GW104.out); have hn106_1 : ad101.block ≠ gb104 := Nat.ne_of_lt (Nat.lt_of_lt_of_le (by have := World.block_lt_of_cell? _ _ hx106_0; first | rwa [add_block] at this | exact this) GW104.out); replace hx106_0 := (HB.out.cell (World.block_lt_of_cell? w _ hx106_0)).trans hx106_0; replace hx106_0 := (cell_far (p := ⟨gb104, 0, none⟩) (by first | (rw [add_block]; exact hn106_0) | (show (Addr.add _ _).block ≠ _; rw [add_block]; exact hn106_0) | exact hn106_0) (.int .i64 ((rd_T66 (rd_L66 l0 x2_1) x20_2).f0))).trans hx106_0; replace hx106_0 := (cell_far (p := ⟨gb104, 1, none⟩) (by first | (rw [add_block]; exact hn106_1) | (show (Addr.add _ _).block ≠ _; rw [add_block]; exact hn106_1) | exact hn106_1) (.int .i64 ((rd_T66 (rd_L66 l0 x2_1) x20_2).f1))).trans hx106_0; (try have hy106_0 := fun (n_ : Nat) => (show ((((w17.drewN n_).setCell ⟨gb104, 0, none⟩ (.int .i64 ((rd_T66 (rd_L66 l0 x2_1) x20_2).f0))).setCell ⟨gb104, 1, none⟩ (.int .i64 ((rd_T66 (rd_L66 l0 x2_1) x20_2).f1)))).cell? _ = some _ from hx106_0)); clear hn106_0; clear hn106_1; replace p106 := eq_true p106; replace q106 := eq_true q106) | ((with_reducible refine gate_builtin (b := .append) (xs := #[.tmp 35, .tmp 38]) rfl ?_); at_builtin; refine Kd.R_append (Kd.int .i64) (w0 := w) w.heap.size rfl (.tmp 35) (.tmp 38) 28 3 (.int .i64 0) 8 rfl Try.underlying28 info3 rfl (by decide) (by omega) u7 x7_2 ((rd_T66 (rd_L66 l0 x2_1) x20_2).f0) [.int .i64 ((rd_T66 (rd_L66 l0 x2_1) x20_2).f0)] (fun _ => True) (fun _ => False) rfl (by first | (go_simp; done) | (go_simp; rfl)) ?aP (fun _ hk => hk.elim) ?aF ?aO ?aB ?aS ?aL ?_; (case aP => exact rfl); (case aB => exact (by repeat (first | (with_reducible first | exact HB.out | apply below_alloc | apply pw_below_drewN | apply below_drew1 | refine below_set ?_ GE104.out) | exact HB.out))); (case aF => exact (fun _ _ => trivial)); (case aO => exact (by (with_reducible repeat (first | apply Kd.R_alloc | apply Kd.R_drewN | apply Kd.R_drew)); exact Kd.R_mono (Kd.R_far (p := ⟨gb104, 1, none⟩) (Kd.R_far (p := ⟨gb104, 0, none⟩) (Kd.R_types HO_7.out BK104.out (by decide)) (fun _ hk => hk.2) (.int .i64 ((rd_T66 (rd_L66 l0 x2_1) x20_2).f0))) (fun _ hk => hk.2) (.int .i64 ((rd_T66 (rd_L66 l0 x2_1) x20_2).f1))) (fun _ hk => trivial))); (case aS => exact (below_size (by repeat (first | (with_reducible first | exact HB.out | apply below_alloc | apply pw_below_drewN | apply below_drew1 | refine below_set ?_ GE104.out) | exact HB.out)))); (case aL => have := LMc16.out; omega); intro v108 w19 ho hb hg hat; rw [← Ny107.out] at ho; have n0_ := Aside0.mk (blk_grown (g := gb104) (o := .cells #[.int .i64 ((rd_T66 (rd_L66 l0 x2_1) x20_2).f0), .int .i64 ((rd_T66 (rd_L66 l0 x2_1) x20_2).f1)] 66 (0, 0)) (by (with_reducible repeat (first | refine blk_drewN ?_ _ | refine blk_drew ?_ | refine blk_alloc ?_ _)); refine blk_put (cs := #[.int .i64 ((rd_T66 (rd_L66 l0 x2_1) x20_2).f0), .int .i64 0]) ?_ 1 _ rfl; (with_reducible repeat (first | refine blk_drewN ?_ _ | refine blk_drew ?_ | refine blk_alloc ?_ _)); refine blk_put (cs := #[.int .i64 0, .int .i64 0]) ?_ 0 _ rfl; (with_reducible repeat (first | refine blk_drewN ?_ _ | refine blk_drew ?_ | refine blk_alloc ?_ _)); exact BK104.out) hg (Kd.R_ne HO_7.out BK104.out (by decide))); have n1_ := Aside0.mk (hb); have n2_ := Aside0.mk (ho); clear BK104; clear HB; clear HO_7; have BK104 := n0_; have HB := n1_; have HO109 := n2_; clear n0_ n1_ n2_; clear ho hb hg hat; have hcz20_0 : w19.cell? ⟨gb104, 0, none⟩ = some (.int .i64 ((rd_T66 (rd_L66 l0 x2_1) x20_2).f0)) := (blk_cell BK104.out 0).trans rfl; have hcz20_1 : w19.cell? ⟨gb104, 1, none⟩ = some (.int .i64 ((rd_T66 (rd_L66 l0 x2_1) x20_2).f1)) := (blk_cell BK104.out 1).trans rfl; have hfz20_0 := blk_frozen BK104.out 0; have hfz20_1 := blk_frozen BK104.out 1)))
                  go_roundg k2
                  case measure => have := HK1.out; have := HK2.out; omega
                  case rel => exact ⟨((rd_T66 (rd_L66 l0 x2_1) x20_2).f1), (y107), (by first | rfl | (simp; done) | (simp [*]; done)), H', ⟨by have := HK1.out; have := HK2.out; omega⟩, ⟨by (with_reducible repeat (first | apply Kd.R_alloc | apply Kd.R_drewN | apply Kd.R_drew)); exact HO109.out⟩, ⟨by repeat (first | (with_reducible first | exact HB.out | apply below_alloc | apply pw_below_drewN | apply below_drew1 | refine below_set ?_ GE104.out) | exact HB.out)⟩⟩
                 ·rw [if_neg c16] at H
                  exact absurd H (by simp)
                ·rw [if_neg c15] at H
                 have c15b0 : ((rd l1 ((rd_T66 (rd_L66 l0 x2_1) x20_2).f1)) == (wrap64 ((rd l1 x2_2) - 1))) = false := beq_eq_false_iff_ne.mpr c15
                 have c15b1 : ((rd l1 ((rd_T66 (rd_L66 l0 x2_1) x20_2).f1)) != (wrap64 ((rd l1 x2_2) - 1))) = true := bne_iff_ne.mpr c15
                 have H' := Aside0.mk H
                 clear H
                 have p103 : 0 ≤ (x20_2 : Int) := of_decide_eq_true (by first | (with_reducible assumption) | assumption)
                 have q103 : x20_2 < ((rd_L66 l0 x2_1).length : Int) := of_decide_eq_true (by first | (with_reducible assumption) | assumption)
                 obtain ⟨ad103, e103, hx103_0, hx103_1⟩ := at_T66 HR102_0.out x20_2 p103 q103
                 cases e103
                 replace hx103_0 := (HB.out.cell (World.block_lt_of_cell? w _ hx103_0)).trans hx103_0
                 replace hx103_1 := (HB.out.cell (World.block_lt_of_cell? w _ hx103_1)).trans hx103_1
                 replace p103 := eq_true p103
                 replace q103 := eq_true q103
                 go_wp2_with (first | go_step3 | ((with_reducible refine gate_dst (N := 9) rfl ?_); refine box_event ?hg (N := 9) ?hd (cs := #[.int .i64 0, .int .i64 0]) (t := 66) ?hr ?_; (case hd => rfl); (case hg => rfl); (case hr => first | (go_simp; done) | (go_simp; rfl)); intro gb104 hg w21 hbox hb; have n0_ := Aside0.mk (Kd.R_below (by (with_reducible repeat (first | apply Kd.R_alloc | apply Kd.R_drewN | apply Kd.R_drew)); exact HO_7.out) hb); have n1_ := Aside0.mk (below_step (by repeat (first | (with_reducible first | exact HB.out | apply below_alloc | apply pw_below_drewN | apply below_drew1) | exact HB.out)) hb); have n2_ := Aside0.mk (hbox); have n3_ := Aside0.mk ((by rw [hg]; exact (below_size (by repeat (first | (with_reducible first | exact HB.out | apply below_alloc | apply pw_below_drewN | apply below_drew1) | exact HB.out))) : w.heap.size ≤ gb104)); have n4_ := Aside0.mk ((by rw [hg]; exact (below_size (by repeat (first | (with_reducible first | exact HB.out | apply below_alloc | apply pw_below_drewN | apply below_drew1) | exact HB.out))) : w.heap.size ≤ gb104)); clear HO_7; clear HB; have HO_7 := n0_; have HB := n1_; have BK104 := n2_; have GW104 := n3_; have GE104 := n4_; clear n0_ n1_ n2_ n3_ n4_; clear hb hbox hg; have hcz22_0 : w21.cell? ⟨gb104, 0, none⟩ = some (.int .i64 0) := (blk_cell BK104.out 0).trans rfl; have hcz22_1 : w21.cell? ⟨gb104, 1, none⟩ = some (.int .i64 0) := (blk_cell BK104.out 1).trans rfl; have hfz22_0 := blk_frozen BK104.out 0; have hfz22_1 := blk_frozen BK104.out 1; have p105 : 0 ≤ (((rd_T66 (rd_L66 l0 x2_1) x20_2).f1) : Int) := of_decide_eq_true (by first | (with_reducible assumption) | assumption); have q105 : ((rd_T66 (rd_L66 l0 x2_1) x20_2).f1) < (l1.length : Int) := of_decide_eq_true (by first | (with_reducible assumption) | assumption); obtain ⟨ad105, e105, hx105_0⟩ := Kd.at_int HR1.out ((rd_T66 (rd_L66 l0 x2_1) x20_2).f1) p105 q105; obtain rfl : ad101 = ad105 := (by injection e105); have hn105_0 : ad101.block ≠ gb104 := Nat.ne_of_lt (Nat.lt_of_lt_of_le (by have := World.block_lt_of_cell? _ _ hx105_0; first | rwa [add_block] at this | exact this) GW104.out); have hn105_1 : ad101.block ≠ gb104 := Nat.ne_of_lt (Nat.lt_of_lt_of_le (by have := World.block_lt_of_cell? _ _ hx105_0; first | rwa [add_block] at this | exact this) GW104.out); replace hx105_0 := (HB.out.cell (World.block_lt_of_cell? w _ hx105_0)).trans hx105_0; replace hx105_0 := (cell_far (p := ⟨gb104, 0, none⟩) (by first | (rw [add_block]; exact hn105_0) | (show (Addr.add _ _).block ≠ _; rw [add_block]; exact hn105_0) | exact hn105_0) (.int .i64 ((rd_T66 (rd_L66 l0 x2_1) x20_2).f0))).trans hx105_0; replace hx105_0 := (cell_far (p := ⟨gb104, 1, none⟩) (by first | (rw [add_block]; exact hn105_1) | (show (Addr.add _ _).block ≠ _; rw [add_block]; exact hn105_1) | exact hn105_1) (.int .i64 ((rd_T66 (rd_L66 l0 x2_1) x20_2).f1))).trans hx105_0; (try have hy105_0 := fun (n_ : Nat) => (show ((((w21.drewN n_).setCell ⟨gb104, 0, none⟩ (.int .i64 ((rd_T66 (rd_L66 l0 x2_1) x20_2).f0))).setCell ⟨gb104, 1, none⟩ (.int .i64 ((rd_T66 (rd_L66 l0 x2_1) x20_2).f1)))).cell? _ = some _ from hx105_0)); clear hn105_0; clear hn105_1; replace p105 := eq_true p105; replace q105 := eq_true q105; have p106 : 0 ≤ (x2_2 : Int) := of_decide_eq_true (by first | (with_reducible assumption) | assumption); have q106 : x2_2 < (l1.length : Int) := of_decide_eq_true (by first | (with_reducible assumption) | assumption); obtain ⟨ad106, e106, hx106_0⟩ := Kd.at_int HR1.out x2_2 p106 q106; obtain rfl : ad101 = ad106 := (by injection e106); have hn106_0 : ad101.block ≠ gb104 := Nat.ne_of_lt (Nat.lt_of_lt_of_le (by have := World.block_lt_of_cell? _ _ hx106_0; first | rwa [add_block] at this | exact this) GW104.out); have hn106_1 : ad101.block ≠ gb104 := Nat.ne_of_lt (Nat.lt_of_lt_of_le (by have := World.block_lt_of_cell? _ _ hx106_0; first | rwa [add_block] at this | exact this) GW104.out); replace hx106_0 := (HB.out.cell (World.block_lt_of_cell? w _ hx106_0)).trans hx106_0; replace hx106_0 := (cell_far (p := ⟨gb104, 0, none⟩) (by first | (rw [add_block]; exact hn106_0) | (show (Addr.add _ _).block ≠ _; rw [add_block]; exact hn106_0) | exact hn106_0) (.int .i64 ((rd_T66 (rd_L66 l0 x2_1) x20_2).f0))).trans hx106_0; replace hx106_0 := (cell_far (p := ⟨gb104, 1, none⟩) (by first | (rw [add_block]; exact hn106_1) | (show (Addr.add _ _).block ≠ _; rw [add_block]; exact hn106_1) | exact hn106_1) (.int .i64 ((rd_T66 (rd_L66 l0 x2_1) x20_2).f1))).trans hx106_0; (try have hy106_0 := fun (n_ : Nat) => (show ((((w21.drewN n_).setCell ⟨gb104, 0, none⟩ (.int .i64 ((rd_T66 (rd_L66 l0 x2_1) x20_2).f0))).setCell ⟨gb104, 1, none⟩ (.int .i64 ((rd_T66 (rd_L66 l0 x2_1) x20_2).f1)))).cell? _ = some _ from hx106_0)); clear hn106_0; clear hn106_1; replace p106 := eq_true p106; replace q106 := eq_true q106))
                 repeat (go_quiet (first | ((with_reducible refine gate_dst (N := 9) rfl ?_); refine box_event ?hg (N := 9) ?hd (cs := #[.int .i64 0, .int .i64 0]) (t := 66) ?hr ?_; (case hd => rfl); (case hg => rfl); (case hr => first | (go_simp; done) | (go_simp; rfl)); intro gb104 hg w21 hbox hb; have n0_ := Aside0.mk (Kd.R_below (by (with_reducible repeat (first | apply Kd.R_alloc | apply Kd.R_drewN | apply Kd.R_drew)); exact HO_7.out) hb); have n1_ := Aside0.mk (below_step (by repeat (first | (with_reducible first | exact HB.out | apply below_alloc | apply pw_below_drewN | apply below_drew1) | exact HB.out)) hb); have n2_ := Aside0.mk (hbox); have n3_ := Aside0.mk ((by rw [hg]; exact (below_size (by repeat (first | (with_reducible first | exact HB.out | apply below_alloc | apply pw_below_drewN | apply below_drew1) | exact HB.out))) : w.heap.size ≤ gb104)); have n4_ := Aside0.mk ((by rw [hg]; exact (below_size (by repeat (first | (with_reducible first | exact HB.out | apply below_alloc | apply pw_below_drewN | apply below_drew1) | exact HB.out))) : w.heap.size ≤ gb104)); clear HO_7; clear HB; have HO_7 := n0_; have HB := n1_; have BK104 := n2_; have GW104 := n3_; have GE104 := n4_; clear n0_ n1_ n2_ n3_ n4_; clear hb hbox hg; have hcz22_0 : w21.cell? ⟨gb104, 0, none⟩ = some (.int .i64 0) := (blk_cell BK104.out 0).trans rfl; have hcz22_1 : w21.cell? ⟨gb104, 1, none⟩ = some (.int .i64 0) := (blk_cell BK104.out 1).trans rfl; have hfz22_0 := blk_frozen BK104.out 0; have hfz22_1 := blk_frozen BK104.out 1; have p105 : 0 ≤ (((rd_T66 (rd_L66 l0 x2_1) x20_2).f1) : Int) := of_decide_eq_true (by first | (with_reducible assumption) | assumption); have q105 : ((rd_T66 (rd_L66 l0 x2_1) x20_2).f1) < (l1.length : Int) := of_decide_eq_true (by first | (with_reducible assumption) | assumption); obtain ⟨ad105, e105, hx105_0⟩ := Kd.at_int HR1.out ((rd_T66 (rd_L66 l0 x2_1) x20_2).f1) p105 q105; obtain rfl : ad101 = ad105 := (by injection e105); have hn105_0 : ad101.block ≠ gb104 := Nat.ne_of_lt (Nat.lt_of_lt_of_le (by have := World.block_lt_of_cell? _ _ hx105_0; first | rwa [add_block] at this | exact this) GW104.out); have hn105_1 : ad101.block ≠ gb104 := Nat.ne_of_lt (Nat.lt_of_lt_of_le (by have := World.block_lt_of_cell? _ _ hx105_0; first | rwa [add_block] at this | exact this) GW104.out); replace hx105_0 := (HB.out.cell (World.block_lt_of_cell? w _ hx105_0)).trans hx105_0; replace hx105_0 := (cell_far (p := ⟨gb104, 0, none⟩) (by first | (rw [add_block]; exact hn105_0) | (show (Addr.add _ _).block ≠ _; rw [add_block]; exact hn105_0) | exact hn105_0) (.int .i64 ((rd_T66 (rd_L66 l0 x2_1) x20_2).f0))).trans hx105_0; replace hx105_0 := (cell_far (p := ⟨gb104, 1, none⟩) (by first | (rw [add_block]; exact hn105_1) | (show (Addr.add _ _).block ≠ _; rw [add_block]; exact hn105_1) | exact hn105_1) (.int .i64 ((rd_T66 (rd_L66 l0 x2_1) x20_2).f1))).trans hx105_0; (try have hy105_0 := fun (n_ : Nat) => (show ((((w21.drewN n_).setCell ⟨gb104, 0, none⟩ (.int .i64 ((rd_T66 (rd_L66 l0 x2_1) x20_2).f0))).setCell ⟨gb104, 1, none⟩ (.int .i64 ((rd_T66 (rd_L66 l0 x2_1) x20_2).f1)))).cell? _ = some _ from hx105_0)); clear hn105_0; clear hn105_1; replace p105 := eq_true p105; replace q105 := eq_true q105; have p106 : 0 ≤ (x2_2 : Int) := of_decide_eq_true (by first | (with_reducible assumption) | assumption); have q106 : x2_2 < (l1.length : Int) := of_decide_eq_true (by first | (with_reducible assumption) | assumption); obtain ⟨ad106, e106, hx106_0⟩ := Kd.at_int HR1.out x2_2 p106 q106; obtain rfl : ad101 = ad106 := (by injection e106); have hn106_0 : ad101.block ≠ gb104 := Nat.ne_of_lt (Nat.lt_of_lt_of_le (by have := World.block_lt_of_cell? _ _ hx106_0; first | rwa [add_block] at this | exact this) GW104.out); have hn106_1 : ad101.block ≠ gb104 := Nat.ne_of_lt (Nat.lt_of_lt_of_le (by have := World.block_lt_of_cell? _ _ hx106_0; first | rwa [add_block] at this | exact this) GW104.out); replace hx106_0 := (HB.out.cell (World.block_lt_of_cell? w _ hx106_0)).trans hx106_0; replace hx106_0 := (cell_far (p := ⟨gb104, 0, none⟩) (by first | (rw [add_block]; exact hn106_0) | (show (Addr.add _ _).block ≠ _; rw [add_block]; exact hn106_0) | exact hn106_0) (.int .i64 ((rd_T66 (rd_L66 l0 x2_1) x20_2).f0))).trans hx106_0; replace hx106_0 := (cell_far (p := ⟨gb104, 1, none⟩) (by first | (rw [add_block]; exact hn106_1) | (show (Addr.add _ _).block ≠ _; rw [add_block]; exact hn106_1) | exact hn106_1) (.int .i64 ((rd_T66 (rd_L66 l0 x2_1) x20_2).f1))).trans hx106_0; (try have hy106_0 := fun (n_ : Nat) => (show ((((w21.drewN n_).setCell ⟨gb104, 0, none⟩ (.int .i64 ((rd_T66 (rd_L66 l0 x2_1) x20_2).f0))).setCell ⟨gb104, 1, none⟩ (.int .i64 ((rd_T66 (rd_L66 l0 x2_1) x20_2).f1)))).cell? _ = some _ from hx106_0)); clear hn106_0; clear hn106_1; replace p106 := eq_true p106; replace q106 := eq_true q106)); try go_wp2_with (first | go_step3 | ((with_reducible refine gate_dst (N := 9) rfl ?_); refine box_event ?hg (N := 9) ?hd (cs := #[.int .i64 0, .int .i64 0]) (t := 66) ?hr ?_; (case hd => rfl); (case hg => rfl); (case hr => first | (go_simp; done) | (go_simp; rfl)); intro gb104 hg w21 hbox hb; have n0_ := Aside0.mk (Kd.R_below (by (with_reducible repeat (first | apply Kd.R_alloc | apply Kd.R_drewN | apply Kd.R_drew)); exact HO_7.out) hb); have n1_ := Aside0.mk (below_step (by repeat (first | (with_reducible first | exact HB.out | apply below_alloc | apply pw_below_drewN | apply below_drew1) | exact HB.out)) hb); have n2_ := Aside0.mk (hbox); have n3_ := Aside0.mk ((by rw [hg]; exact (below_size (by repeat (first | (with_reducible first | exact HB.out | apply below_alloc | apply pw_below_drewN | apply below_drew1) | exact HB.out))) : w.heap.size ≤ gb104)); have n4_ := Aside0.mk ((by rw [hg]; exact (below_size (by repeat (first | (with_reducible first | exact HB.out | apply below_alloc | apply pw_below_drewN | apply below_drew1) | exact HB.out))) : w.heap.size ≤ gb104)); clear HO_7; clear HB; have HO_7 := n0_; have HB := n1_; have BK104 := n2_; have GW104 := n3_; have GE104 := n4_; clear n0_ n1_ n2_ n3_ n4_; clear hb hbox hg; have hcz22_0 : w21.cell? ⟨gb104, 0, none⟩ = some (.int .i64 0) := (blk_cell BK104.out 0).trans rfl; have hcz22_1 : w21.cell? ⟨gb104, 1, none⟩ = some (.int .i64 0) := (blk_cell BK104.out 1).trans rfl; have hfz22_0 := blk_frozen BK104.out 0; have hfz22_1 := blk_frozen BK104.out 1; have p105 : 0 ≤ (((rd_T66 (rd_L66 l0 x2_1) x20_2).f1) : Int) := of_decide_eq_true (by first | (with_reducible assumption) | assumption); have q105 : ((rd_T66 (rd_L66 l0 x2_1) x20_2).f1) < (l1.length : Int) := of_decide_eq_true (by first | (with_reducible assumption) | assumption); obtain ⟨ad105, e105, hx105_0⟩ := Kd.at_int HR1.out ((rd_T66 (rd_L66 l0 x2_1) x20_2).f1) p105 q105; obtain rfl : ad101 = ad105 := (by injection e105); have hn105_0 : ad101.block ≠ gb104 := Nat.ne_of_lt (Nat.lt_of_lt_of_le (by have := World.block_lt_of_cell? _ _ hx105_0; first | rwa [add_block] at this | exact this) GW104.out); have hn105_1 : ad101.block ≠ gb104 := Nat.ne_of_lt (Nat.lt_of_lt_of_le (by have := World.block_lt_of_cell? _ _ hx105_0; first | rwa [add_block] at this | exact this) GW104.out); replace hx105_0 := (HB.out.cell (World.block_lt_of_cell? w _ hx105_0)).trans hx105_0; replace hx105_0 := (cell_far (p := ⟨gb104, 0, none⟩) (by first | (rw [add_block]; exact hn105_0) | (show (Addr.add _ _).block ≠ _; rw [add_block]; exact hn105_0) | exact hn105_0) (.int .i64 ((rd_T66 (rd_L66 l0 x2_1) x20_2).f0))).trans hx105_0; replace hx105_0 := (cell_far (p := ⟨gb104, 1, none⟩) (by first | (rw [add_block]; exact hn105_1) | (show (Addr.add _ _).block ≠ _; rw [add_block]; exact hn105_1) | exact hn105_1) (.int .i64 ((rd_T66 (rd_L66 l0 x2_1) x20_2).f1))).trans hx105_0; (try have hy105_0 := fun (n_ : Nat) => (show ((((w21.drewN n_).setCell ⟨gb104, 0, none⟩ (.int .i64 ((rd_T66 (rd_L66 l0 x2_1) x20_2).f0))).setCell ⟨gb104, 1, none⟩ (.int .i64 ((rd_T66 (rd_L66 l0 x2_1) x20_2).f1)))).cell? _ = some _ from hx105_0)); clear hn105_0; clear hn105_1; replace p105 := eq_true p105; replace q105 := eq_true q105; have p106 : 0 ≤ (x2_2 : Int) := of_decide_eq_true (by first | (with_reducible assumption) | assumption); have q106 : x2_2 < (l1.length : Int) := of_decide_eq_true (by first | (with_reducible assumption) | assumption); obtain ⟨ad106, e106, hx106_0⟩ := Kd.at_int HR1.out x2_2 p106 q106; obtain rfl : ad101 = ad106 := (by injection e106); have hn106_0 : ad101.block ≠ gb104 := Nat.ne_of_lt (Nat.lt_of_lt_of_le (by have := World.block_lt_of_cell? _ _ hx106_0; first | rwa [add_block] at this | exact this) GW104.out); have hn106_1 : ad101.block ≠ gb104 := Nat.ne_of_lt (Nat.lt_of_lt_of_le (by have := World.block_lt_of_cell? _ _ hx106_0; first | rwa [add_block] at this | exact this) GW104.out); replace hx106_0 := (HB.out.cell (World.block_lt_of_cell? w _ hx106_0)).trans hx106_0; replace hx106_0 := (cell_far (p := ⟨gb104, 0, none⟩) (by first | (rw [add_block]; exact hn106_0) | (show (Addr.add _ _).block ≠ _; rw [add_block]; exact hn106_0) | exact hn106_0) (.int .i64 ((rd_T66 (rd_L66 l0 x2_1) x20_2).f0))).trans hx106_0; replace hx106_0 := (cell_far (p := ⟨gb104, 1, none⟩) (by first | (rw [add_block]; exact hn106_1) | (show (Addr.add _ _).block ≠ _; rw [add_block]; exact hn106_1) | exact hn106_1) (.int .i64 ((rd_T66 (rd_L66 l0 x2_1) x20_2).f1))).trans hx106_0; (try have hy106_0 := fun (n_ : Nat) => (show ((((w21.drewN n_).setCell ⟨gb104, 0, none⟩ (.int .i64 ((rd_T66 (rd_L66 l0 x2_1) x20_2).f0))).setCell ⟨gb104, 1, none⟩ (.int .i64 ((rd_T66 (rd_L66 l0 x2_1) x20_2).f1)))).cell? _ = some _ from hx106_0)); clear hn106_0; clear hn106_1; replace p106 := eq_true p106; replace q106 := eq_true q106)))
                 go_roundg k2
                 case measure => have := HK1.out; have := HK2.out; omega
                 case rel => exact ⟨(x2_2), (x7_2), (wrap64 (x20_2 + 1)), (by first | rfl | (simp; done) | (simp [*]; done)), (by first | rfl | (simp; done) | (simp [*]; done)), H', ⟨by have := HK1.out; have := HK2.out; omega⟩, ⟨by (with_reducible repeat (first | apply Kd.R_alloc | apply Kd.R_drewN | apply Kd.R_drew)); exact Kd.R_mono (Kd.R_far (p := ⟨gb104, 1, none⟩) (Kd.R_far (p := ⟨gb104, 0, none⟩) (Kd.R_types HO_7.out BK104.out (by decide)) (fun _ hk => hk.2) (.int .i64 ((rd_T66 (rd_L66 l0 x2_1) x20_2).f0))) (fun _ hk => hk.2) (.int .i64 ((rd_T66 (rd_L66 l0 x2_1) x20_2).f1))) (fun _ hk => trivial)⟩, ⟨by repeat (first | (with_reducible first | exact HB.out | apply below_alloc | apply pw_below_drewN | apply below_drew1 | refine below_set ?_ GE104.out) | exact HB.out)⟩⟩
               ·rw [if_neg c14] at H
                exact absurd H (by simp)
              ·rw [if_neg c13] at H
               exact absurd H (by simp)
             ·rw [if_neg c12] at H
              exact absurd H (by simp)
            ·rw [if_neg c11] at H
             exact absurd H (by simp)
           ·rw [if_neg c10] at H
            exact absurd H (by simp)
          ·rw [if_neg c9] at H
           exact absurd H (by simp)
         ·rw [if_neg c8] at H
          have c8b0 : decide (x20_2 < ((rd_L66 l0 x2_1).length : Int)) = false := decide_eq_false c8
          clear c8
          have H' := Aside0.mk H
          clear H
          go_wp2_with go_step3
          repeat (go_quiet (fail); try go_wp2_with go_step3)
          go_roundg k2
          case measure => have := HK1.out; have := HK2.out; omega
          case rel => exact ⟨(x2_2), (x7_2), (by first | rfl | (simp; done) | (simp [*]; done)), H', ⟨by have := HK1.out; have := HK2.out; omega⟩, ⟨by (with_reducible repeat (first | apply Kd.R_alloc | apply Kd.R_drewN | apply Kd.R_drew)); exact HO_7.out⟩, ⟨by repeat (first | (with_reducible first | exact HB.out | apply below_alloc | apply pw_below_drewN | apply below_drew1) | exact HB.out)⟩⟩
      ·rw [if_neg c7] at H
       exact absurd H (by simp)
     ·rw [if_neg c6] at H
      have c6b0 : decide (0 < (rd l1 x2_1)) = false := decide_eq_false c6
      clear c6
      obtain rfl := Option.some.inj H
      have p101 : 0 ≤ (x2_1 : Int) := of_decide_eq_true (by first | (with_reducible assumption) | assumption)
      have q101 : x2_1 < (l1.length : Int) := of_decide_eq_true (by first | (with_reducible assumption) | assumption)
      obtain ⟨ad101, e101, hx101_0⟩ := Kd.at_int HR1.out x2_1 p101 q101
      cases e101
      replace hx101_0 := (HB.out.cell (World.block_lt_of_cell? w _ hx101_0)).trans hx101_0
      replace p101 := eq_true p101
      replace q101 := eq_true q101
      go_wp2_with go_step3
      repeat (go_quiet (fail); try go_wp2_with go_step3)
      ((try rw [Exit.noGoto_ret]); go_ret)
      exact ⟨_, by first | rfl | (simp [errW_none, errW_some] <;> rfl) | (simp [*, errW_none, errW_some] <;> rfl), by (with_reducible repeat (first | apply Kd.R_alloc | apply Kd.R_drewN | apply Kd.R_drew)); exact HO_7.out, by repeat (first | (with_reducible first | exact HB.out | apply below_alloc | apply pw_below_drewN | apply below_drew1) | exact HB.out)⟩
    ·rw [if_neg c5] at H
     exact absurd H (by simp)
   ·rw [if_neg c4] at H
    exact absurd H (by simp)
end Go.Proofs.Ytfnjbgggmddgpaa.Q
end
section
namespace Go.Proofs.Ytfnjbgggmddgpaa.Q
open Go.RowKit Go.Proofs.Fn Go.Proofs.YtfnjbgggmddgpaaW.PrintWords Go.Proofs.YtfnjbgggmddgpaaW.PrintLast Go.Proofs.YtfnjbgggmddgpaaW.PrintMore
attribute [local go_sem] max2_int min2_int max_two min_two max_three min_three max_four min_four
set_option linter.unusedVariables false
set_option linter.unusedSimpArgs false
def witness_search.j0 : Nat → List (List (S66)) → Int → (Int → Option Bool) → Bool → Option (List Int × Bool)
 | 0, _, _, _, _ => none
 | k + 1, x0, x1, x2, x16 => if x16 = true then (some (([] : List Int), false)) else ((witness_distances.f k x0 x2).bind fun t101 => (if 0 ≤ x1 then (if x1 < (t101.length : Int) then (if (rd t101 x1) < 0 then (some (([] : List Int), false)) else ((witness_follow.f k x0 t101 x1).bind fun t105 => (some (t105, true)))) else (none)) else (none)))
def witness_search.f (k : Nat) (l0 : List (List (S66))) (a1 : Int) (a2 : (Int → Option Bool)) : Option (List Int × Bool) := if a1 < 0 then (witness_search.j0 k l0 a1 a2 true) else (witness_search.j0 k l0 a1 a2 (decide (a1 ≥ (l0.length : Int))))
theorem witness_search.mono_l : ∀ k, (∀ y0 y1 y2 y3, LeO (witness_search.j0 k y0 y1 y2 y3) (witness_search.j0 (k + 1) y0 y1 y2 y3))
 | 0 => fun _ _ _ _ r h => by simp [witness_search.j0] at h
 | k + 1 => by
  have ih0 := witness_search.mono_l k
  ·intro y0 y1 y2 y3
   unfold witness_search.j0
   repeat' first
   | (with_reducible exact ih0 _ _ _ _)
   | (with_reducible exact witness_distances.mono _ _ _)
   | (with_reducible exact witness_follow.mono _ _ _ _)
   | (with_reducible exact LeO.refl _)
   | (with_reducible exact LeO.none _)
   | (with_reducible refine LeO.ite ?_ ?_)
   | (with_reducible refine LeO.bind ?_ (fun _ => ?_))
   | exact ih0 _ _ _ _
   | exact witness_distances.mono _ _ _
   | exact witness_follow.mono _ _ _ _
   | exact LeO.none _
   | refine LeO.ite ?_ ?_
   | refine LeO.bind ?_ (fun _ => ?_)
theorem witness_search.mono : ∀ a0 a1 a2 k, LeO (witness_search.f k a0 a1 a2) (witness_search.f (k + 1) a0 a1 a2) := by
 intro a0 a1 a2 k
 have ih0 := witness_search.mono_l k
 unfold witness_search.f
 repeat' first
   | (with_reducible exact ih0 _ _ _ _)
   | (with_reducible exact witness_distances.mono _ _ _)
   | (with_reducible exact witness_follow.mono _ _ _ _)
   | (with_reducible exact LeO.refl _)
   | (with_reducible exact LeO.none _)
   | (with_reducible refine LeO.ite ?_ ?_)
   | (with_reducible refine LeO.bind ?_ (fun _ => ?_))
   | exact ih0 _ _ _ _
   | exact witness_distances.mono _ _ _
   | exact witness_follow.mono _ _ _ _
   | exact LeO.none _
   | refine LeO.ite ?_ ?_
   | refine LeO.bind ?_ (fun _ => ?_)
set_option maxHeartbeats 8000000 in
set_option maxRecDepth 100000 in
theorem witness_search.calls (k : Nat) (A0 : Option Addr) (c0 : Nat) (l0 : List (List (S66))) (a1 : Int) (a2 : Int → Option Bool) (F2 : Nat) (C2 : Array Value) (r1 : List Int) (r2 : Bool) (w : World) (hr0 : Kd.C (Kd.slice 66 k66) w A0 l0.length l0) (hc0 : l0.length ≤ c0) (hF2 : FnB Try.prog F2 C2 w a2) (h : witness_search.f k l0 a1 a2 = some (r1, r2)) :
  Calls Try.prog 35 #[.slice A0 l0.length c0, .int .i64 a1, .func (.func F2) #[] C2] w fun e w' => ∃ v0_ : Value, e = .returned (.tuple #[v0_, .bool r2]) ∧ Kd.R (Kd.int .i64) 3 w' w.heap.size (fun _ => True) v0_ r1 ∧ Below w.heap.size w w' := by
 have HR0 := Aside0.mk hr0
 have HC0 := Aside0.mk hc0
 clear hr0 hc0
 have HF2 := Aside0.mk hF2
 clear hF2
 have HB := Aside0.mk (Below.refl w.heap.size w)
 have H : (if a1 < 0 then (witness_search.j0 k l0 a1 a2 true) else (witness_search.j0 k l0 a1 a2 (decide (a1 ≥ (l0.length : Int))))) = some (r1, r2) := h
 clear h
 have HC4 := Aside0.mk H
 clear H
 go_enter Try.func35, Try.ntmps35
 go_upto_region 1 with (fail)
 go_cut [16] (fun v16 wc => ∃ (kq : Nat) (x16_3 : Bool), v16 = .bool x16_3 ∧ Aside0 (witness_search.j0 kq l0 a1 a2 x16_3 = some (r1, r2)) ∧ Aside0 (kq ≤ k) ∧ Aside0 (Below w.heap.size w wc))
 case first =>
  have H := HC4.out
  clear HC4
  by_cases c5 : a1 < 0
  ·rw [if_pos c5] at H
   have c5b0 : decide (a1 < 0) = true := decide_eq_true c5
   clear c5
   (first | rw [c5b0] | (simp only [i64_w, i32_w]; rw [c5b0]) | skip)
   have H' := Aside0.mk H
   clear H
   go_wp2
   go_meet
   case rel => exact ⟨_, (true), (by first | rfl | (simp; done) | (simp [*]; done)), H', ⟨by first | omega | exact Nat.le_refl _⟩, ⟨by repeat (first | (with_reducible first | exact HB.out | apply below_alloc | apply pw_below_drewN | apply below_drew1) | exact HB.out)⟩⟩
  ·rw [if_neg c5] at H
   have c5b0 : decide (a1 < 0) = false := decide_eq_false c5
   clear c5
   (first | rw [c5b0] | (simp only [i64_w, i32_w]; rw [c5b0]) | skip)
   have H' := Aside0.mk H
   clear H
   go_wp2
   go_meet
   case rel => exact ⟨_, (decide (a1 ≥ (l0.length : Int))), (by first | rfl | (simp; done) | (simp [*]; done)), H', ⟨by first | omega | exact Nat.le_refl _⟩, ⟨by repeat (first | (with_reducible first | exact HB.out | apply below_alloc | apply pw_below_drewN | apply below_drew1) | exact HB.out)⟩⟩
 case rest =>
  clear HC4
  try clear p2
  try clear c3
  try clear c5
  try clear c5b0
  obtain ⟨kq, x16_3, rfl, HA, HJ3, HB⟩ := hcut
  cases kq with
  | zero => exact absurd HA.out (by simp [witness_search.j0])
  | succ kj3 =>
   have H := HA.out
   clear HA
   simp only [witness_search.j0] at H
   by_cases c6 : x16_3 = true
   ·subst c6
    have H1 : (some (([] : List Int), false)) = some (r1, r2) := by rw [if_pos rfl] at H; exact H
    clear H
    have H := H1
    clear H1
    simp only [Option.some.injEq, Prod.mk.injEq] at H
    obtain ⟨rfl, rfl⟩ := H
    go_wp2
    go_ret2
    exact ⟨_, by first | rfl | (simp [errW_none, errW_some] <;> rfl) | (simp [*, errW_none, errW_some] <;> rfl), by first | exact Kd.R_nil _ _ _ _ _ | exact Kd.N_nil _ _ _ _ _ | exact Kd.V_nil _ _ _ _ _ | exact Kd.Q_nil _ _ _ _ _ | exact Kd.S_nil _ _ _ _ _, by repeat (first | (with_reducible first | exact HB.out | apply below_alloc | apply pw_below_drewN | apply below_drew1) | exact HB.out)⟩
   ·replace c6 := Bool.eq_false_iff.mpr c6
    subst c6
    have H1 : ((witness_distances.f kj3 l0 a2).bind fun t101 => (if 0 ≤ a1 then (if a1 < (t101.length : Int) then (if (rd t101 a1) < 0 then (some (([] : List Int), false)) else ((witness_follow.f kj3 l0 t101 a1).bind fun t105 => (some (t105, true)))) else (none)) else (none))) = some (r1, r2) := by rw [if_neg (show ¬ (false = true) by decide)] at H; exact H
    clear H
    have H := H1
    clear H1
    replace H := Option.bind_eq_some_iff.mp H
    obtain ⟨t101, A70, H⟩ := H
    replace H : (if 0 ≤ a1 then (if a1 < (t101.length : Int) then (if (rd t101 a1) < 0 then (some (([] : List Int), false)) else ((witness_follow.f kj3 l0 t101 a1).bind fun t105 => (some (t105, true)))) else (none)) else (none)) = some (r1, r2) := H
    have A7 := Aside0.mk A70
    clear A70
    by_cases c8 : 0 ≤ a1
    ·rw [if_pos c8] at H
     have c8b0 : decide (0 ≤ a1) = true := decide_eq_true c8
     clear c8
     by_cases c9 : a1 < (t101.length : Int)
     ·rw [if_pos c9] at H
      have c9b0 : decide (a1 < (t101.length : Int)) = true := decide_eq_true c9
      clear c9
      by_cases c10 : (rd t101 a1) < 0
      ·rw [if_pos c10] at H
       have c10b0 : decide ((rd t101 a1) < 0) = true := decide_eq_true c10
       clear c10
       simp only [Option.some.injEq, Prod.mk.injEq] at H
       obtain ⟨rfl, rfl⟩ := H
       go_wp2_with (first | ((with_reducible refine gate_callee (f := 53) rfl ?_); refine goesL_ (some 19) rfl rfl Try.func53 (by kernel_rfl) rfl #[.slice A0 l0.length c0, .func (.func F2) #[] C2] rfl (by (try simp only [List.map_toArray, List.map_cons, List.map_nil]); first | done | rfl | (simp only [List.length_drop, List.length_take]; rfl)) ?_; (with_reducible refine (witness_distances.calls kj3 _ _ l0 a2 _ _ t101 _ ?side1 ?side2 ?side3 A7.out).mono ?_); (case side1 => repeat (first | exact (Kd.C_below HR0.out HB.out) | (with_reducible refine Kd.C_alloc ?_ _) | (with_reducible refine Kd.C_drewN ?_ _) | (with_reducible refine Kd.C_drew ?_))); (case side2 => exact HC0.out); (case side3 => exact FnB.below HF2.out (by repeat (first | (with_reducible first | exact HB.out | apply below_alloc | apply pw_below_drewN | apply below_drew1) | exact HB.out))); rintro e w11 ⟨v102, rfl, ho0, hb⟩; refine ⟨_, rfl, ?_⟩; have n0_ := Aside0.mk (Kd.R_lower ho0 (below_size (by repeat (first | (with_reducible first | exact HB.out | apply below_alloc | apply pw_below_drewN | apply below_drew1) | exact HB.out)))); have n1_ := Aside0.mk (below_step (by repeat (first | (with_reducible first | exact HB.out | apply below_alloc | apply pw_below_drewN | apply below_drew1) | exact HB.out)) hb); clear HB; have HO103 := n0_; have HB := n1_; clear n0_ n1_; (try clear hb); (try clear hb2); (try clear hk); (try clear hi); (try clear ho0); obtain ⟨Ao12, co12, eo12⟩ := Kd.R_slice HO103.out; subst eo12; have p104 : 0 ≤ (a1 : Int) := of_decide_eq_true (by first | (with_reducible assumption) | assumption); have q104 : a1 < (t101.length : Int) := of_decide_eq_true (by first | (with_reducible assumption) | assumption); obtain ⟨ad104, e104, hx104_0⟩ := Kd.at_int (Kd.R_reads' HO103.out).2.2 a1 p104 q104; cases e104; replace p104 := eq_true p104; replace q104 := eq_true q104))
       go_ret2
       exact ⟨_, by first | rfl | (simp [errW_none, errW_some] <;> rfl) | (simp [*, errW_none, errW_some] <;> rfl), by first | exact Kd.R_nil _ _ _ _ _ | exact Kd.N_nil _ _ _ _ _ | exact Kd.V_nil _ _ _ _ _ | exact Kd.Q_nil _ _ _ _ _ | exact Kd.S_nil _ _ _ _ _, by repeat (first | (with_reducible first | exact HB.out | apply below_alloc | apply pw_below_drewN | apply below_drew1) | exact HB.out)⟩
      ·rw [if_neg c10] at H
       have c10b0 : decide ((rd t101 a1) < 0) = false := decide_eq_false c10
       clear c10
       replace H := Option.bind_eq_some_iff.mp H
       obtain ⟨t105, A130, H⟩ := H
       replace H : (some (t105, true)) = some (r1, r2) := H
       have A13 := Aside0.mk A130
       clear A130
       simp only [Option.some.injEq, Prod.mk.injEq] at H
       obtain ⟨rfl, rfl⟩ := H
       go_wp2_with (first | ((with_reducible refine gate_callee (f := 53) rfl ?_); refine goesL_ (some 19) rfl rfl Try.func53 (by kernel_rfl) rfl #[.slice A0 l0.length c0, .func (.func F2) #[] C2] rfl (by (try simp only [List.map_toArray, List.map_cons, List.map_nil]); first | done | rfl | (simp only [List.length_drop, List.length_take]; rfl)) ?_; (with_reducible refine (witness_distances.calls kj3 _ _ l0 a2 _ _ t101 _ ?side1 ?side2 ?side3 A7.out).mono ?_); (case side1 => repeat (first | exact (Kd.C_below HR0.out HB.out) | (with_reducible refine Kd.C_alloc ?_ _) | (with_reducible refine Kd.C_drewN ?_ _) | (with_reducible refine Kd.C_drew ?_))); (case side2 => exact HC0.out); (case side3 => exact FnB.below HF2.out (by repeat (first | (with_reducible first | exact HB.out | apply below_alloc | apply pw_below_drewN | apply below_drew1) | exact HB.out))); rintro e w14 ⟨v102, rfl, ho0, hb⟩; refine ⟨_, rfl, ?_⟩; have n0_ := Aside0.mk (Kd.R_lower ho0 (below_size (by repeat (first | (with_reducible first | exact HB.out | apply below_alloc | apply pw_below_drewN | apply below_drew1) | exact HB.out)))); have n1_ := Aside0.mk (below_step (by repeat (first | (with_reducible first | exact HB.out | apply below_alloc | apply pw_below_drewN | apply below_drew1) | exact HB.out)) hb); clear HB; have HO103 := n0_; have HB := n1_; clear n0_ n1_; (try clear hb); (try clear hb2); (try clear hk); (try clear hi); (try clear ho0); obtain ⟨Ao15, co15, eo15⟩ := Kd.R_slice HO103.out; subst eo15; have p104 : 0 ≤ (a1 : Int) := of_decide_eq_true (by first | (with_reducible assumption) | assumption); have q104 : a1 < (t101.length : Int) := of_decide_eq_true (by first | (with_reducible assumption) | assumption); obtain ⟨ad104, e104, hx104_0⟩ := Kd.at_int (Kd.R_reads' HO103.out).2.2 a1 p104 q104; cases e104; replace p104 := eq_true p104; replace q104 := eq_true q104) | ((with_reducible refine gate_callee (f := 55) rfl ?_); refine goesL_ (some 28) rfl rfl Try.func55 (by kernel_rfl) rfl #[.slice A0 l0.length c0, .slice (some ad104) t101.length co15, .int .i64 a1] rfl (by (try simp only [List.map_toArray, List.map_cons, List.map_nil]); first | done | rfl | (simp only [List.length_drop, List.length_take]; rfl)) ?_; (with_reducible refine (witness_follow.calls kj3 _ _ l0 _ _ t101 a1 t105 _ ?side1 ?side2 ?side3 ?side4 A13.out).mono ?_); (case side1 => repeat (first | exact (Kd.C_below HR0.out HB.out) | (with_reducible refine Kd.C_alloc ?_ _) | (with_reducible refine Kd.C_drewN ?_ _) | (with_reducible refine Kd.C_drew ?_))); (case side2 => exact HC0.out); (case side3 => repeat (first | exact (Kd.R_reads' HO103.out).2.2 | (with_reducible refine Kd.C_alloc ?_ _) | (with_reducible refine Kd.C_drewN ?_ _) | (with_reducible refine Kd.C_drew ?_))); (case side4 => exact (Kd.R_reads' HO103.out).2.1); rintro e w16 ⟨v106, rfl, ho0, hb⟩; refine ⟨_, rfl, ?_⟩; have n0_ := Aside0.mk (Kd.R_elder' (by (with_reducible repeat (first | apply Kd.R_alloc | apply Kd.R_drewN | apply Kd.R_drew)); exact HO103.out) (Kd.R_base ho0) hb); have n1_ := Aside0.mk (Kd.R_lower (Kd.R_new' ho0 (Kd.R_lt (by (with_reducible repeat (first | apply Kd.R_alloc | apply Kd.R_drewN | apply Kd.R_drew)); exact HO103.out))) (below_size (by repeat (first | (with_reducible first | exact HB.out | apply below_alloc | apply pw_below_drewN | apply below_drew1) | exact HB.out)))); have n2_ := Aside0.mk (below_step (by repeat (first | (with_reducible first | exact HB.out | apply below_alloc | apply pw_below_drewN | apply below_drew1) | exact HB.out)) hb); clear HO103; clear HB; have HO103 := n0_; have HO107 := n1_; have HB := n2_; clear n0_ n1_ n2_; (try clear hb); (try clear hb2); (try clear hk); (try clear hi); (try clear ho0)))
       go_ret2
       exact ⟨_, by first | rfl | (simp [errW_none, errW_some] <;> rfl) | (simp [*, errW_none, errW_some] <;> rfl), by (with_reducible repeat (first | apply Kd.R_alloc | apply Kd.R_drewN | apply Kd.R_drew)); exact Kd.R_mono HO107.out (fun _ hk => trivial), by repeat (first | (with_reducible first | exact HB.out | apply below_alloc | apply pw_below_drewN | apply below_drew1) | exact HB.out)⟩
     ·rw [if_neg c9] at H
      exact absurd H (by simp)
    ·rw [if_neg c8] at H
     exact absurd H (by simp)
end Go.Proofs.Ytfnjbgggmddgpaa.Q
end
section
namespace Go.Proofs.Ytfnjbgggmddgpaa.Q
open Go.RowKit Go.Proofs.Fn Go.Proofs.YtfnjbgggmddgpaaW.PrintWords Go.Proofs.YtfnjbgggmddgpaaW.PrintLast Go.Proofs.YtfnjbgggmddgpaaW.PrintMore
attribute [local go_sem] max2_int min2_int max_two min_two max_three min_three max_four min_four
set_option linter.unusedVariables false
set_option linter.unusedSimpArgs false
def witness_has.l0 : Nat → Int → List (S66) → Int → Int → Option (Bool)
 | 0, _, _, _, _ => none
 | k + 1, x1, x7, x8, x9 => if x9 < x8 then (if 0 ≤ x9 then (if x9 < (x7.length : Int) then (if ((rd_T66 x7 x9).f0) = x1 then (some true) else (witness_has.l0 k x1 x7 x8 (wrap64 (x9 + 1)))) else (none)) else (none)) else (some false)
def witness_has.f (k : Nat) (l0 : List (S66)) (a1 : Int) : Option (Bool) := witness_has.l0 k a1 l0 (l0.length : Int) 0
theorem witness_has.mono_l : ∀ k, (∀ y0 y1 y2 y3, LeO (witness_has.l0 k y0 y1 y2 y3) (witness_has.l0 (k + 1) y0 y1 y2 y3))
 | 0 => fun _ _ _ _ r h => by simp [witness_has.l0] at h
 | k + 1 => by
  have ih0 := witness_has.mono_l k
  ·intro y0 y1 y2 y3
   unfold witness_has.l0
   repeat' first
   | (with_reducible exact ih0 _ _ _ _)
   | (with_reducible exact LeO.refl _)
   | (with_reducible exact LeO.none _)
   | (with_reducible refine LeO.ite ?_ ?_)
   | (with_reducible refine LeO.bind ?_ (fun _ => ?_))
   | exact ih0 _ _ _ _
   | exact LeO.none _
   | refine LeO.ite ?_ ?_
   | refine LeO.bind ?_ (fun _ => ?_)
theorem witness_has.mono : ∀ a0 a1 k, LeO (witness_has.f k a0 a1) (witness_has.f (k + 1) a0 a1) := by
 intro a0 a1 k
 have ih0 := witness_has.mono_l k
 unfold witness_has.f
 repeat' first
   | (with_reducible exact ih0 _ _ _ _)
   | (with_reducible exact LeO.refl _)
   | (with_reducible exact LeO.none _)
   | (with_reducible refine LeO.ite ?_ ?_)
   | (with_reducible refine LeO.bind ?_ (fun _ => ?_))
   | exact ih0 _ _ _ _
   | exact LeO.none _
   | refine LeO.ite ?_ ?_
   | refine LeO.bind ?_ (fun _ => ?_)
set_option maxHeartbeats 8000000 in
set_option maxRecDepth 100000 in
theorem witness_has.calls (k : Nat) (A0 : Option Addr) (c0 : Nat) (l0 : List (S66)) (a1 : Int) (r : Bool) (w : World) (hr0 : Kd.C k66 w A0 l0.length l0) (hc0 : l0.length ≤ c0) (h : witness_has.f k l0 a1 = some r) :
  Calls Try.prog 51 #[.slice A0 l0.length c0, .int .i64 a1] w fun e w' => e = .returned (.bool r) ∧ Below w.heap.size w w' := by
 have hu66 := Try.underlying66
 have HR0 := Aside0.mk hr0
 have HC0 := Aside0.mk hc0
 clear hr0 hc0
 have HB := Aside0.mk (Below.refl w.heap.size w)
 have H : (witness_has.l0 k a1 l0 (l0.length : Int) 0) = some r := h
 clear h
 have H' := Aside0.mk H
 clear H
 go_enter Try.func51, Try.ntmps51
 go_wp2
 go_loopg [9] k (fun kq v9 w' => ∃ (x9_1 : Int), v9 = .int .i64 x9_1 ∧ Aside0 (witness_has.l0 kq a1 l0 (l0.length : Int) x9_1 = some r) ∧ Aside0 (kq ≤ k) ∧ Aside0 (Below w.heap.size w w'))
 case atStart => exact ⟨(0), (by first | rfl | (simp; done) | (simp [*]; done)), H', ⟨Nat.le_refl _⟩, ⟨by repeat (first | (with_reducible first | exact HB.out | apply below_alloc | apply pw_below_drewN | apply below_drew1) | exact HB.out)⟩⟩
 case round =>
  clear H'
  try clear p2
  obtain ⟨x9_1, rfl, HA, HK1, HB⟩ := hrel
  cases gk with
  | zero => exact absurd HA.out (by simp [witness_has.l0])
  | succ k1 =>
   have H := HA.out
   clear HA
   simp only [witness_has.l0] at H
   by_cases c3 : x9_1 < (l0.length : Int)
   ·rw [if_pos c3] at H
    have c3b0 : decide (x9_1 < (l0.length : Int)) = true := decide_eq_true c3
    clear c3
    by_cases c4 : 0 ≤ x9_1
    ·rw [if_pos c4] at H
     have c4b0 : decide (0 ≤ x9_1) = true := decide_eq_true c4
     clear c4
     by_cases c5 : x9_1 < (l0.length : Int)
     ·rw [if_pos c5] at H
      have c5b0 : decide (x9_1 < (l0.length : Int)) = true := decide_eq_true c5
      clear c5
      by_cases c6 : ((rd_T66 l0 x9_1).f0) = a1
      ·rw [if_pos c6] at H
       have c6b0 : (((rd_T66 l0 x9_1).f0) == a1) = true := beq_iff_eq.mpr c6
       have c6b1 : (((rd_T66 l0 x9_1).f0) != a1) = false := bne_eq_false_iff_eq.mpr c6
       clear c6
       obtain rfl := Option.some.inj H
       have p101 : 0 ≤ (x9_1 : Int) := of_decide_eq_true (by first | (with_reducible assumption) | assumption)
       have q101 : x9_1 < (l0.length : Int) := of_decide_eq_true (by first | (with_reducible assumption) | assumption)
       obtain ⟨ad101, e101, hx101_0, hx101_1⟩ := at_T66 HR0.out x9_1 p101 q101
       cases e101
       replace hx101_0 := (HB.out.cell (World.block_lt_of_cell? w _ hx101_0)).trans hx101_0
       replace hx101_1 := (HB.out.cell (World.block_lt_of_cell? w _ hx101_1)).trans hx101_1
       replace p101 := eq_true p101
       replace q101 := eq_true q101
       go_wp2_with (first | ((with_reducible refine gate_dst (N := 6) rfl ?_); refine box_event ?hg (N := 6) ?hd (cs := #[.int .i64 0, .int .i64 0]) (t := 66) ?hr ?_; (case hd => rfl); (case hg => rfl); (case hr => first | (go_simp; done) | (go_simp; rfl)); intro gb102 hg w7 hbox hb; have n0_ := Aside0.mk (below_step (by repeat (first | (with_reducible first | exact HB.out | apply below_alloc | apply pw_below_drewN | apply below_drew1) | exact HB.out)) hb); have n1_ := Aside0.mk (hbox); have n2_ := Aside0.mk ((by rw [hg]; exact (below_size (by repeat (first | (with_reducible first | exact HB.out | apply below_alloc | apply pw_below_drewN | apply below_drew1) | exact HB.out))) : w.heap.size ≤ gb102)); have n3_ := Aside0.mk ((by rw [hg]; exact (below_size (by repeat (first | (with_reducible first | exact HB.out | apply below_alloc | apply pw_below_drewN | apply below_drew1) | exact HB.out))) : w.heap.size ≤ gb102)); clear HB; have HB := n0_; have BK102 := n1_; have GW102 := n2_; have GE102 := n3_; clear n0_ n1_ n2_ n3_; clear hb hbox hg; have hcz8_0 : w7.cell? ⟨gb102, 0, none⟩ = some (.int .i64 0) := (blk_cell BK102.out 0).trans rfl; have hcz8_1 : w7.cell? ⟨gb102, 1, none⟩ = some (.int .i64 0) := (blk_cell BK102.out 1).trans rfl; have hfz8_0 := blk_frozen BK102.out 0; have hfz8_1 := blk_frozen BK102.out 1))
       go_ret
       exact ⟨by first | rfl | (simp [errW_none, errW_some] <;> rfl) | (simp [*, errW_none, errW_some] <;> rfl), by repeat (first | (with_reducible first | exact HB.out | apply below_alloc | apply pw_below_drewN | apply below_drew1 | refine below_set ?_ GE102.out) | exact HB.out)⟩
      ·rw [if_neg c6] at H
       have c6b0 : (((rd_T66 l0 x9_1).f0) == a1) = false := beq_eq_false_iff_ne.mpr c6
       have c6b1 : (((rd_T66 l0 x9_1).f0) != a1) = true := bne_iff_ne.mpr c6
       have H' := Aside0.mk H
       clear H
       have p101 : 0 ≤ (x9_1 : Int) := of_decide_eq_true (by first | (with_reducible assumption) | assumption)
       have q101 : x9_1 < (l0.length : Int) := of_decide_eq_true (by first | (with_reducible assumption) | assumption)
       obtain ⟨ad101, e101, hx101_0, hx101_1⟩ := at_T66 HR0.out x9_1 p101 q101
       cases e101
       replace hx101_0 := (HB.out.cell (World.block_lt_of_cell? w _ hx101_0)).trans hx101_0
       replace hx101_1 := (HB.out.cell (World.block_lt_of_cell? w _ hx101_1)).trans hx101_1
       replace p101 := eq_true p101
       replace q101 := eq_true q101
       go_wp2_with (first | ((with_reducible refine gate_dst (N := 6) rfl ?_); refine box_event ?hg (N := 6) ?hd (cs := #[.int .i64 0, .int .i64 0]) (t := 66) ?hr ?_; (case hd => rfl); (case hg => rfl); (case hr => first | (go_simp; done) | (go_simp; rfl)); intro gb102 hg w9 hbox hb; have n0_ := Aside0.mk (below_step (by repeat (first | (with_reducible first | exact HB.out | apply below_alloc | apply pw_below_drewN | apply below_drew1) | exact HB.out)) hb); have n1_ := Aside0.mk (hbox); have n2_ := Aside0.mk ((by rw [hg]; exact (below_size (by repeat (first | (with_reducible first | exact HB.out | apply below_alloc | apply pw_below_drewN | apply below_drew1) | exact HB.out))) : w.heap.size ≤ gb102)); have n3_ := Aside0.mk ((by rw [hg]; exact (below_size (by repeat (first | (with_reducible first | exact HB.out | apply below_alloc | apply pw_below_drewN | apply below_drew1) | exact HB.out))) : w.heap.size ≤ gb102)); clear HB; have HB := n0_; have BK102 := n1_; have GW102 := n2_; have GE102 := n3_; clear n0_ n1_ n2_ n3_; clear hb hbox hg; have hcz10_0 : w9.cell? ⟨gb102, 0, none⟩ = some (.int .i64 0) := (blk_cell BK102.out 0).trans rfl; have hcz10_1 : w9.cell? ⟨gb102, 1, none⟩ = some (.int .i64 0) := (blk_cell BK102.out 1).trans rfl; have hfz10_0 := blk_frozen BK102.out 0; have hfz10_1 := blk_frozen BK102.out 1))
       go_roundg k1
       case measure => have := HK1.out; omega
       case rel => exact ⟨(wrap64 (x9_1 + 1)), (by first | rfl | (simp; done) | (simp [*]; done)), H', ⟨by have := HK1.out; omega⟩, ⟨by repeat (first | (with_reducible first | exact HB.out | apply below_alloc | apply pw_below_drewN | apply below_drew1 | refine below_set ?_ GE102.out) | exact HB.out)⟩⟩
     ·rw [if_neg c5] at H
      exact absurd H (by simp)
    ·rw [if_neg c4] at H
     exact absurd H (by simp)
   ·rw [if_neg c3] at H
    have c3b0 : decide (x9_1 < (l0.length : Int)) = false := decide_eq_false c3
    clear c3
    obtain rfl := Option.some.inj H
    go_wp2
    go_ret
    exact ⟨by first | rfl | (simp [errW_none, errW_some] <;> rfl) | (simp [*, errW_none, errW_some] <;> rfl), by repeat (first | (with_reducible first | exact HB.out | apply below_alloc | apply pw_below_drewN | apply below_drew1) | exact HB.out)⟩
end Go.Proofs.Ytfnjbgggmddgpaa.Q
end
section
set_option linter.unusedVariables false
set_option linter.unusedSimpArgs false
namespace Go.Proofs.Ytfnjbgggmddgpaa.Q
open Go.RowKit Go.Proofs.Fn Go.Proofs.YtfnjbgggmddgpaaW.PrintWords Go.Proofs.YtfnjbgggmddgpaaW.PrintLast Go.Proofs.YtfnjbgggmddgpaaW.PrintMore
theorem fn39 (w : World) (b : Nat) (a : Int) (hc : w.cell? ⟨b, 0, none⟩ = some (.int .i64 a)) : FnB Try.prog 39 #[.pointer (some ⟨b, 0, none⟩)] w (fun s => some (s == a)) := by
  refine ⟨⟨Try.f39, Try.func39, by kernel_rfl, rfl⟩, fun x r W hb he => ?_⟩
  have hc2 : W.cell? ⟨b, 0, none⟩ = some (.int .i64 a) := (hb.cell (World.block_lt_of_cell? w _ hc)).trans hc
  obtain rfl := Option.some.inj he
  clear hc hb he
  show Calls Try.prog 39 #[.int .i64 x, .pointer (some ⟨b, 0, none⟩)] W _
  go_enter Try.func39, Try.ntmps39
  go_wp2
  go_ret
  exact ⟨rfl, Below.refl _ _⟩
def dead1 (l : List (List S66)) (s : Int) : Option Bool := if 0 ≤ s then (if s < (l.length : Int) then some (((rd_L66 l s).length : Int) == 0) else none) else none
theorem fn36 (w : World) (b : Nat) (A : Option Addr) (c : Nat) (l : List (List S66)) (hc : w.cell? ⟨b, 0, none⟩ = some (.slice A l.length c)) (hl : Kd.C (Kd.slice 66 k66) w A l.length l) : FnB Try.prog 36 #[.pointer (some ⟨b, 0, none⟩)] w (dead1 l) := by
  refine ⟨⟨Try.f36, Try.func36, by kernel_rfl, rfl⟩, fun x r W hb he => ?_⟩
  have hc2 : W.cell? ⟨b, 0, none⟩ = some (.slice A l.length c) := (hb.cell (World.block_lt_of_cell? w _ hc)).trans hc
  have hl2 := Kd.C_below hl hb
  unfold dead1 at he
  by_cases h0 : 0 ≤ x
  · rw [if_pos h0] at he
    by_cases h1 : x < (l.length : Int)
    · rw [if_pos h1] at he
      obtain rfl := Option.some.inj he
      obtain ⟨ad, A0, c0, rfl, hx, _, _⟩ := at_L66 hl2 x h0 h1
      clear hc hl hb hl2 he
      show Calls Try.prog 36 #[.int .i64 x, .pointer (some ⟨b, 0, none⟩)] W _
      go_enter Try.func36, Try.ntmps36
      go_wp2
      go_ret
      exact ⟨rfl, Below.refl _ _⟩
    · rw [if_neg h1] at he
      cases he
  · rw [if_neg h0] at he
    cases he
def fires1 (l : List (List S66)) (t : Int) (s : Int) : Option Bool := if 0 ≤ s then (if s < (l.length : Int) then some ((rd_L66 l s).any (fun x => x.f0 == t)) else none) else none
theorem has_l0 (l : List S66) (t : Int) (hl : l.length ≤ 9223372036854775806) : ∀ (m j : Nat), j + m = l.length → witness_has.l0 (m + 1) t l (l.length : Int) (j : Int) = some ((l.drop j).any (fun x => x.f0 == t)) := by
  intro m
  induction m with
  | zero =>
    intro j hj
    rw [List.drop_of_length_le (by omega)]
    simp only [witness_has.l0]
    rw [if_neg (by omega)]; rfl
  | succ m ih =>
    intro j hj
    have hw : wrap64 ((j : Int) + 1) = ((j + 1 : Nat) : Int) := by unfold wrap64; omega
    have hj2 : j < l.length := by omega
    have hd : rd_T66 l (j : Int) = l[j] := by simp [rd_T66, hj2]
    rw [witness_has.l0, if_pos (by omega), if_pos (by omega), if_pos (by omega), hw, hd, List.drop_eq_getElem_cons hj2, List.any_cons]
    by_cases c : l[j].f0 = t
    · rw [if_pos c]; simp [c]
    · rw [if_neg c, ih (j + 1) (by omega)]
      have : (l[j].f0 == t) = false := by simp [c]
      rw [this, Bool.false_or]
set_option maxHeartbeats 1000000 in
theorem fn50 (w : World) (b b2 : Nat) (A : Option Addr) (c : Nat) (l : List (List S66)) (t : Int) (hc : w.cell? ⟨b, 0, none⟩ = some (.slice A l.length c)) (ht : w.cell? ⟨b2, 0, none⟩ = some (.int .i64 t)) (hl : Kd.C (Kd.slice 66 k66) w A l.length l) (hln : ∀ r ∈ l, r.length ≤ 9223372036854775806) :
    FnB Try.prog 50 #[.pointer (some ⟨b, 0, none⟩), .pointer (some ⟨b2, 0, none⟩)] w (fires1 l t) := by
  refine ⟨⟨Try.f50, Try.func50, by kernel_rfl, rfl⟩, fun x r W hb he => ?_⟩
  have hc2 : W.cell? ⟨b, 0, none⟩ = some (.slice A l.length c) := (hb.cell (World.block_lt_of_cell? w _ hc)).trans hc
  have ht2 : W.cell? ⟨b2, 0, none⟩ = some (.int .i64 t) := (hb.cell (World.block_lt_of_cell? w _ ht)).trans ht
  have hl2 := Kd.C_below hl hb
  unfold fires1 at he
  by_cases h0 : 0 ≤ x
  · rw [if_pos h0] at he
    by_cases h1 : x < (l.length : Int)
    · rw [if_pos h1] at he
      obtain ⟨ad, A0, c0, rfl, hx, hcap, hrow⟩ := at_L66 hl2 x h0 h1
      have hrl : (rd_L66 l x).length ≤ 9223372036854775806 := by
        have hx1 : x.toNat < l.length := by omega
        have : rd_L66 l x = l[x.toNat] := by simp [rd_L66, hx1]
        rw [this]; exact hln _ (List.getElem_mem _)
      have he2 : witness_has.f ((rd_L66 l x).length + 1) (rd_L66 l x) t = some r := by
        have := has_l0 (rd_L66 l x) t hrl _ 0 (by rw [Nat.zero_add])
        rw [← he]; exact this
      have HC := Aside0.mk (fun (W' : World) (hW : Below W.heap.size W W') => witness_has.calls _ A0 c0 (rd_L66 l x) t r W' (Kd.C_below hrow hW) hcap he2)
      clear hc hl hb hl2 he he2 hrl ht hrow hcap
      show Calls Try.prog 50 #[.int .i64 x, .pointer (some ⟨b, 0, none⟩), .pointer (some ⟨b2, 0, none⟩)] W _
      go_enter Try.func50, Try.ntmps50
      go_wp2_with fail
      go_region_with (go_at_call 51; refine (HC.out _ ?_).mono ?_; (case refine_1 => repeat (first | exact Below.refl _ _ | apply below_drew1)); rintro e w' ⟨rfl, hb⟩)
      all_goals
        go_wp2
        go_ret
        exact ⟨rfl, below_step (below_drew1 (Below.refl _ _)) hb⟩
    · rw [if_neg h1] at he
      cases he
  · rw [if_neg h0] at he
    cases he
end Go.Proofs.Ytfnjbgggmddgpaa.Q
end
section
set_option linter.unusedVariables false
set_option linter.unusedSimpArgs false
namespace Go.Proofs.Ytfnjbgggmddgpaa.Q
open Go.RowKit Go.Proofs.Fn Go.Proofs.YtfnjbgggmddgpaaW.PrintWords Go.Proofs.YtfnjbgggmddgpaaW.PrintLast Go.Proofs.YtfnjbgggmddgpaaW.PrintMore
def witness_Between.f (k : Nat) (l0_0 : List (List Int)) (l0_1 : List S80) (a0_2 : Bool) (a1 a2 : Int) : Option (List Int × Bool) :=
  (witness_steps.f k l0_0 l0_1 a0_2).bind fun l => witness_search.f k l a1 (fun s => some (s == a2))
theorem witness_Between.mono : ∀ a0 a1 a2 a3 a4 k, LeO (witness_Between.f k a0 a1 a2 a3 a4) (witness_Between.f (k + 1) a0 a1 a2 a3 a4) :=
  fun _ _ _ _ _ _ => LeO.bind (witness_steps.mono _ _ _ _) fun _ => witness_search.mono _ _ _ _
set_option maxHeartbeats 1000000 in
theorem witness_Between.calls (k : Nat) (A0_0 : Option Addr) (c0_0 : Nat) (l0_0 : List (List Int)) (A0_1 : Option Addr) (c0_1 : Nat) (l0_1 : List S80) (a0_2 : Bool) (a1 a2 : Int) (r1 : List Int) (r2 : Bool) (w : World)
    (hr0_0 : Kd.C (Kd.slice 3 (Kd.int .i64)) w A0_0 l0_0.length l0_0) (hc0_0 : l0_0.length ≤ c0_0) (hr0_1 : Kd.C k80 w A0_1 l0_1.length l0_1) (hc0_1 : l0_1.length ≤ c0_1) (h : witness_Between.f k l0_0 l0_1 a0_2 a1 a2 = some (r1, r2)) :
    Calls Try.prog 16 #[.agg #[.slice A0_0 l0_0.length c0_0, .slice A0_1 l0_1.length c0_1, .bool a0_2], .int .i64 a1, .int .i64 a2] w fun e w' => ∃ v0_ : Value, e = .returned (.tuple #[v0_, .bool r2]) ∧ Kd.R (Kd.int .i64) 3 w' w.heap.size (fun _ => True) v0_ r1 ∧ Below w.heap.size w w' := by
  obtain ⟨l, h1, h2⟩ := Option.bind_eq_some_iff.1 h
  have hu25 := Try.underlying25
  have H1 := Aside0.mk h1
  have H2 := Aside0.mk h2
  have HR0 := Aside0.mk hr0_0
  have HC0 := Aside0.mk hc0_0
  have HR1 := Aside0.mk hr0_1
  have HC1 := Aside0.mk hc0_1
  clear h h1 h2 hr0_0 hc0_0 hr0_1 hc0_1
  go_enter Try.func16, Try.ntmps16
  go_wp2_with fail
  refine (witness_steps.calls k _ _ l0_0 _ _ l0_1 a0_2 l _ (Kd.C_below HR0.out ?b1) HC0.out (Kd.C_below HR1.out ?b2) HC1.out H1.out).mono ?_
  case b1 => repeat (first | exact Below.refl _ _ | apply below_alloc | apply below_drew1)
  case b2 => repeat (first | exact Below.refl _ _ | apply below_alloc | apply below_drew1)
  rintro e w1 ⟨v, rfl, hS, hb⟩
  obtain ⟨A, c, rfl, hcap, hC⟩ := Kd.S_reads hS
  have hcell : w1.cell? ⟨w.heap.size + 1, 0, none⟩ = some (.int .i64 a2) := by
    refine (hb.cell (p := ⟨w.heap.size + 1, 0, none⟩) (by simp)).trans ?_
    go_simp
  have HB : Aside0 (Below w.heap.size w w1) := ⟨below_step (by repeat (first | exact Below.refl _ _ | apply below_alloc | apply below_drew1)) hb⟩
  have HS := Aside0.mk hC
  have HCP := Aside0.mk hcap
  have HCELL := Aside0.mk hcell
  clear hS hb hcap hC hcell
  go_wp2_with fail
  refine (witness_search.calls k A c l a1 (fun s => some (s == a2)) 39 #[.pointer (some ⟨w.heap.size + 1, 0, none⟩)] r1 r2 w1 HS.out HCP.out (fn39 _ _ _ HCELL.out) H2.out).mono ?_
  rintro e w2 ⟨v, rfl, hR, hb⟩
  go_wp2
  go_ret2
  exact ⟨_, rfl, Kd.R_lower hR HB.out.size, below_step HB.out hb⟩
def witness_Dead.f (k : Nat) (l0_0 : List (List Int)) (l0_1 : List S80) (a0_2 : Bool) : Option (List Int × Bool) :=
  (witness_steps.f k l0_0 l0_1 a0_2).bind fun l => witness_search.f k l 0 (dead1 l)
theorem witness_Dead.mono : ∀ a0 a1 a2 k, LeO (witness_Dead.f k a0 a1 a2) (witness_Dead.f (k + 1) a0 a1 a2) :=
  fun _ _ _ _ => LeO.bind (witness_steps.mono _ _ _ _) fun _ => witness_search.mono _ _ _ _
set_option maxHeartbeats 1000000 in
theorem witness_Dead.calls (k : Nat) (A0_0 : Option Addr) (c0_0 : Nat) (l0_0 : List (List Int)) (A0_1 : Option Addr) (c0_1 : Nat) (l0_1 : List S80) (a0_2 : Bool) (r1 : List Int) (r2 : Bool) (w : World)
    (hr0_0 : Kd.C (Kd.slice 3 (Kd.int .i64)) w A0_0 l0_0.length l0_0) (hc0_0 : l0_0.length ≤ c0_0) (hr0_1 : Kd.C k80 w A0_1 l0_1.length l0_1) (hc0_1 : l0_1.length ≤ c0_1) (h : witness_Dead.f k l0_0 l0_1 a0_2 = some (r1, r2)) :
    Calls Try.prog 11 #[.agg #[.slice A0_0 l0_0.length c0_0, .slice A0_1 l0_1.length c0_1, .bool a0_2]] w fun e w' => ∃ v0_ : Value, e = .returned (.tuple #[v0_, .bool r2]) ∧ Kd.R (Kd.int .i64) 3 w' w.heap.size (fun _ => True) v0_ r1 ∧ Below w.heap.size w w' := by
  obtain ⟨l, h1, h2⟩ := Option.bind_eq_some_iff.1 h
  have hu25 := Try.underlying25
  have H1 := Aside0.mk h1
  have H2 := Aside0.mk h2
  have HR0 := Aside0.mk hr0_0
  have HC0 := Aside0.mk hc0_0
  have HR1 := Aside0.mk hr0_1
  have HC1 := Aside0.mk hc0_1
  clear h h1 h2 hr0_0 hc0_0 hr0_1 hc0_1
  go_enter Try.func11, Try.ntmps11
  go_wp2_with fail
  refine (witness_steps.calls k _ _ l0_0 _ _ l0_1 a0_2 l _ (Kd.C_below HR0.out ?b1) HC0.out (Kd.C_below HR1.out ?b2) HC1.out H1.out).mono ?_
  case b1 => repeat (first | exact Below.refl _ _ | apply below_alloc | apply below_drew1)
  case b2 => repeat (first | exact Below.refl _ _ | apply below_alloc | apply below_drew1)
  rintro e w1 ⟨v, rfl, hS, hb⟩
  obtain ⟨A, c, rfl, hcap, hC⟩ := Kd.S_reads hS
  have HB : Aside0 (Below w.heap.size w w1) := ⟨below_step (by repeat (first | exact Below.refl _ _ | apply below_alloc | apply below_drew1)) hb⟩
  have HS := Aside0.mk hC
  have HCP := Aside0.mk hcap
  clear hS hb hcap hC
  go_wp2_with fail
  have hbw : ∀ (o : Obj) (v : Value), Below w1.heap.size w1 ((w1.alloc o).setCell ⟨w1.heap.size, 0, none⟩ v) := fun o v => (((Below.refl _ w1).alloc (Nat.le_refl _) o).setCell (by simp) v)
  refine (witness_search.calls k A c l 0 (dead1 l) 36 #[.pointer (some ⟨w1.heap.size, 0, none⟩)] r1 r2 _ (Kd.C_below HS.out ?b3) HCP.out (fn36 _ _ A c l ?b4 (Kd.C_below HS.out ?b5)) H2.out).mono ?_
  case b3 => first | exact hbw _ _ | (repeat (first | exact Below.refl _ _ | apply below_alloc | apply below_drew1))
  case b5 => first | exact hbw _ _ | (repeat (first | exact Below.refl _ _ | apply below_alloc | apply below_drew1))
  case b4 => go_simp
  rintro e w2 ⟨v, rfl, hR, hb⟩
  have hb2 : Below w1.heap.size w1 w2 := below_step (by first | exact hbw _ _ | (repeat (first | exact Below.refl _ _ | apply below_alloc | apply below_drew1))) hb
  clear hbw
  have HB2 := Aside0.mk hb2
  have HRR := Aside0.mk (Kd.R_lower hR (base' := w1.heap.size) (by simp))
  clear hb hb2 hR
  go_wp2
  go_ret2
  exact ⟨_, rfl, Kd.R_lower HRR.out HB.out.size, below_step HB.out HB2.out⟩
def witness_Fires.f (k : Nat) (l0_0 : List (List Int)) (l0_1 : List S80) (a0_2 : Bool) (a1 : Int) : Option (List Int × Bool) :=
  (witness_steps.f k l0_0 l0_1 a0_2).bind fun l => (if l.all (fun r => decide (r.length ≤ 9223372036854775806)) = true then (witness_search.f k l 0 (fires1 l a1)) else none).bind fun r => if r.2 = true then (if r.1.length < 17592186044416 then some (r.1 ++ [a1], true) else none) else some ([], false)
theorem witness_Fires.mono : ∀ a0 a1 a2 a3 k, LeO (witness_Fires.f k a0 a1 a2 a3) (witness_Fires.f (k + 1) a0 a1 a2 a3) :=
  fun _ _ _ _ _ => LeO.bind (witness_steps.mono _ _ _ _) fun _ => LeO.bind (LeO.ite (witness_search.mono _ _ _ _) (LeO.none _)) fun _ => LeO.refl _
set_option maxHeartbeats 2000000 in
theorem witness_Fires.calls (k : Nat) (A0_0 : Option Addr) (c0_0 : Nat) (l0_0 : List (List Int)) (A0_1 : Option Addr) (c0_1 : Nat) (l0_1 : List S80) (a0_2 : Bool) (a1 : Int) (r1 : List Int) (r2 : Bool) (w : World)
    (hr0_0 : Kd.C (Kd.slice 3 (Kd.int .i64)) w A0_0 l0_0.length l0_0) (hc0_0 : l0_0.length ≤ c0_0) (hr0_1 : Kd.C k80 w A0_1 l0_1.length l0_1) (hc0_1 : l0_1.length ≤ c0_1) (h : witness_Fires.f k l0_0 l0_1 a0_2 a1 = some (r1, r2)) :
    Calls Try.prog 25 #[.agg #[.slice A0_0 l0_0.length c0_0, .slice A0_1 l0_1.length c0_1, .bool a0_2], .int .i64 a1] w fun e w' => ∃ v0_ : Value, e = .returned (.tuple #[v0_, .bool r2]) ∧ Kd.R (Kd.int .i64) 3 w' w.heap.size (fun _ => True) v0_ r1 ∧ Below w.heap.size w w' := by
  obtain ⟨l, h1, h2⟩ := Option.bind_eq_some_iff.1 h
  obtain ⟨⟨q1, q2⟩, h2, h3⟩ := Option.bind_eq_some_iff.1 h2
  have hall : l.all (fun r => decide (r.length ≤ 9223372036854775806)) = true := by
    cases ha : l.all (fun r => decide (r.length ≤ 9223372036854775806)) with
    | true => rfl
    | false => rw [ha] at h2; cases h2
  rw [if_pos hall] at h2
  have hln : ∀ r ∈ l, r.length ≤ 9223372036854775806 := by simpa using hall
  have hu25 := Try.underlying25
  have HLN := Aside0.mk hln
  have H1 := Aside0.mk h1
  have H2 := Aside0.mk h2
  have H3 := Aside0.mk h3
  have HR0 := Aside0.mk hr0_0
  have HC0 := Aside0.mk hc0_0
  have HR1 := Aside0.mk hr0_1
  have HC1 := Aside0.mk hc0_1
  clear h h1 h2 h3 hall hln hr0_0 hc0_0 hr0_1 hc0_1
  go_enter Try.func25, Try.ntmps25
  go_wp2_with fail
  refine (witness_steps.calls k _ _ l0_0 _ _ l0_1 a0_2 l _ (Kd.C_below HR0.out ?b1) HC0.out (Kd.C_below HR1.out ?b2) HC1.out H1.out).mono ?_
  case b1 => repeat (first | exact Below.refl _ _ | apply below_alloc | apply below_drew1)
  case b2 => repeat (first | exact Below.refl _ _ | apply below_alloc | apply below_drew1)
  rintro e w1 ⟨v, rfl, hS, hb⟩
  obtain ⟨A, c, rfl, hcap, hC⟩ := Kd.S_reads hS
  have HB : Aside0 (Below w.heap.size w w1) := ⟨below_step (by repeat (first | exact Below.refl _ _ | apply below_alloc | apply below_drew1)) hb⟩
  have ht0 : w1.cell? ⟨w.heap.size + 1, 0, none⟩ = some (.int .i64 a1) := by
    have hc0 : ((w.alloc (Obj.cells #[Value.slice A0_0 l0_0.length c0_0, Value.slice A0_1 l0_1.length c0_1, Value.bool a0_2] 25)).alloc (Obj.cells #[Value.int IntKind.i64 a1] 3)).cell? ⟨w.heap.size + 1, 0, none⟩ = some (.int .i64 a1) := by go_simp
    exact (hb.cell (World.block_lt_of_cell? _ _ hc0)).trans hc0
  have HT := Aside0.mk ht0
  have HS := Aside0.mk hC
  have HCP := Aside0.mk hcap
  clear hS hb hcap hC ht0
  go_wp2_with fail
  have hbw : ∀ (o : Obj), Below w1.heap.size w1 (w1.alloc o) := fun o => (Below.refl _ w1).alloc (Nat.le_refl _) o
  refine (witness_search.calls k A c l 0 (fires1 l a1) 50 #[.pointer (some ⟨w1.heap.size, 0, none⟩), .pointer (some ⟨w.heap.size + 1, 0, none⟩)] q1 q2 _ (Kd.C_below HS.out ?b3) HCP.out (fn50 _ _ _ A c l a1 ?b4 ?b6 (Kd.C_below HS.out ?b5) HLN.out) H2.out).mono ?_
  case b3 => exact hbw _
  case b5 => exact hbw _
  case b4 => go_simp
  case b6 => exact ((hbw _).cell (World.block_lt_of_cell? _ _ HT.out)).trans HT.out
  rintro e w2 ⟨v, rfl, hR, hb⟩
  have hb2 : Below w1.heap.size w1 w2 := below_step (hbw _) hb
  have ht2 : w2.cell? ⟨w.heap.size + 1, 0, none⟩ = some (.int .i64 a1) := (hb2.cell (World.block_lt_of_cell? _ _ HT.out)).trans HT.out
  have HB2 := Aside0.mk (below_step HB.out hb2)
  have HRR := Aside0.mk (Kd.R_lower hR (base' := w.heap.size) (by have := HB.out.size; simp; omega))
  clear hb hb2 hR hbw HT
  have H := H3.out
  clear H3
  cases q2 with
  | false =>
    simp only [Bool.false_eq_true, if_false, Option.some.injEq, Prod.mk.injEq] at H
    obtain ⟨rfl, rfl⟩ := H
    go_wp2
    go_ret2
    exact ⟨_, rfl, Kd.R_nil .., HB2.out⟩
  | true =>
    simp only [if_true] at H
    by_cases c18 : q1.length < 17592186044416
    · rw [if_pos c18] at H
      simp only [Option.some.injEq, Prod.mk.injEq] at H
      obtain ⟨rfl, rfl⟩ := H
      go_wp2_with ((with_reducible refine gate_builtin (b := .append) (xs := #[.tmp 19, .tmp 21]) rfl ?_); at_builtin; refine Kd.R_append (Kd.int .i64) (w0 := w) w.heap.size rfl (.tmp 19) (.tmp 21) 28 3 (.int .i64 0) 8 rfl Try.underlying28 info3 rfl (by decide) (by omega) v q1 a1 [.int .i64 a1] (fun _ => True) (fun _ => False) rfl rfl ?aP (fun _ hk => hk.elim) ?aF ?aO ?aB ?aS ?aL ?_; (case aP => exact rfl); (case aB => exact (by repeat (first | exact HB2.out | apply below_alloc | apply pw_below_drewN | apply below_drew1))); (case aF => exact (fun _ _ => trivial)); (case aO => exact (by (with_reducible repeat (first | apply Kd.R_alloc | apply Kd.R_drewN | apply Kd.R_drew)); exact HRR.out)); (case aS => exact (below_size (by repeat (first | exact HB2.out | apply below_alloc | apply pw_below_drewN | apply below_drew1)))); (case aL => omega); intro v110 w22 ho hb hg hat; have HO := Aside0.mk ho; have HB3 := Aside0.mk hb; clear ho hb hg hat)
      go_ret2
      exact ⟨_, rfl, HO.out, HB3.out⟩
    · rw [if_neg c18] at H
      cases H
end Go.Proofs.Ytfnjbgggmddgpaa.Q
end
section
namespace Go.Proofs.Ytfnjbgggmddgpaa.Q
open Go.RowKit Go.Proofs.Fn Go.Proofs.YtfnjbgggmddgpaaW.PrintWords Go.Proofs.YtfnjbgggmddgpaaW.PrintLast Go.Proofs.YtfnjbgggmddgpaaW.PrintMore
attribute [local go_sem] max2_int min2_int max_two min_two max_three min_three max_four min_four
set_option linter.unusedVariables false
set_option linter.unusedSimpArgs false
mutual
def petrinetref16_follow.j0 : Nat → List (List (S80)) → Int → List Bool → Bool → Option (List Int × Bool)
 | 0, _, _, _, _ => none
 | k + 1, x0, x1, x2, x19 => if x19 = true then (some (([] : List Int), false)) else ((petrinetref16_distances.f k x0 x2).bind fun t101 => (if 0 ≤ x1 then (if x1 < (t101.length : Int) then (if (rd t101 x1) < 0 then (some (([] : List Int), false)) else (petrinetref16_follow.l0 k x0 t101 ([] : List Int) x1)) else (none)) else (none)))
def petrinetref16_follow.l0 : Nat → List (List (S80)) → List Int → List Int → Int → Option (List Int × Bool)
 | 0, _, _, _, _ => none
 | k + 1, x0, x8, x9, x10 => if 0 ≤ x10 then (if x10 < (x8.length : Int) then (if (rd x8 x10) > 0 then (petrinetref16_follow.l1 k x0 x8 x9 x10 0) else (some (x9, true))) else (none)) else (none)
def petrinetref16_follow.l1 : Nat → List (List (S80)) → List Int → List Int → Int → Int → Option (List Int × Bool)
 | 0, _, _, _, _, _ => none
 | k + 1, x0, x8, x9, x10, x11 => if 0 ≤ x10 then (if x10 < (x0.length : Int) then (if 0 ≤ x11 then (if x11 < ((rd_L80 x0 x10).length : Int) then (if 0 ≤ ((rd_T80 (rd_L80 x0 x10) x11).f2) then (if ((rd_T80 (rd_L80 x0 x10) x11).f2) < (x8.length : Int) then (if x10 < (x8.length : Int) then (if (rd x8 ((rd_T80 (rd_L80 x0 x10) x11).f2)) = (wrap64 ((rd x8 x10) - 1)) then (if x9.length < 17592186044416 then (petrinetref16_follow.l0 k x0 x8 (x9 ++ [(rd_T80 (rd_L80 x0 x10) x11).f1]) ((rd_T80 (rd_L80 x0 x10) x11).f2)) else (none)) else (petrinetref16_follow.l1 k x0 x8 x9 x10 (wrap64 (x11 + 1)))) else (none)) else (none)) else (none)) else (none)) else (none)) else (none)) else (none)
end
def petrinetref16_follow.f (k : Nat) (l0 : List (List (S80))) (a1 : Int) (l2 : List Bool) : Option (List Int × Bool) := if a1 < 0 then (petrinetref16_follow.j0 k l0 a1 l2 true) else (petrinetref16_follow.j0 k l0 a1 l2 (decide (a1 ≥ (l0.length : Int))))
theorem petrinetref16_follow.mono_l : ∀ k, (∀ y0 y1 y2 y3, LeO (petrinetref16_follow.j0 k y0 y1 y2 y3) (petrinetref16_follow.j0 (k + 1) y0 y1 y2 y3)) ∧ (∀ y0 y1 y2 y3, LeO (petrinetref16_follow.l0 k y0 y1 y2 y3) (petrinetref16_follow.l0 (k + 1) y0 y1 y2 y3)) ∧ (∀ y0 y1 y2 y3 y4, LeO (petrinetref16_follow.l1 k y0 y1 y2 y3 y4) (petrinetref16_follow.l1 (k + 1) y0 y1 y2 y3 y4))
 | 0 => ⟨fun _ _ _ _ r h => by simp [petrinetref16_follow.j0] at h, fun _ _ _ _ r h => by simp [petrinetref16_follow.l0] at h, fun _ _ _ _ _ r h => by simp [petrinetref16_follow.l1] at h⟩
 | k + 1 => by
  obtain ⟨ih0, ih1, ih2⟩ := petrinetref16_follow.mono_l k
  refine ⟨?_, ?_, ?_⟩
  ·intro y0 y1 y2 y3
   unfold petrinetref16_follow.j0
   repeat' first
   | (with_reducible exact ih0 _ _ _ _)
   | (with_reducible exact ih1 _ _ _ _)
   | (with_reducible exact ih2 _ _ _ _ _)
   | (with_reducible exact petrinetref16_distances.mono _ _ _)
   | (with_reducible exact LeO.refl _)
   | (with_reducible exact LeO.none _)
   | (with_reducible refine LeO.ite ?_ ?_)
   | (with_reducible refine LeO.bind ?_ (fun _ => ?_))
   | exact ih0 _ _ _ _
   | exact ih1 _ _ _ _
   | exact ih2 _ _ _ _ _
   | exact petrinetref16_distances.mono _ _ _
   | exact LeO.none _
   | refine LeO.ite ?_ ?_
   | refine LeO.bind ?_ (fun _ => ?_)
  ·intro y0 y1 y2 y3
   unfold petrinetref16_follow.l0
   repeat' first
   | (with_reducible exact ih0 _ _ _ _)
   | (with_reducible exact ih1 _ _ _ _)
   | (with_reducible exact ih2 _ _ _ _ _)
   | (with_reducible exact petrinetref16_distances.mono _ _ _)
   | (with_reducible exact LeO.refl _)
   | (with_reducible exact LeO.none _)
   | (with_reducible refine LeO.ite ?_ ?_)
   | (with_reducible refine LeO.bind ?_ (fun _ => ?_))
   | exact ih0 _ _ _ _
   | exact ih1 _ _ _ _
   | exact ih2 _ _ _ _ _
   | exact petrinetref16_distances.mono _ _ _
   | exact LeO.none _
   | refine LeO.ite ?_ ?_
   | refine LeO.bind ?_ (fun _ => ?_)
  ·intro y0 y1 y2 y3 y4
   unfold petrinetref16_follow.l1
   repeat' first
   | (with_reducible exact ih0 _ _ _ _)
   | (with_reducible exact ih1 _ _ _ _)
   | (with_reducible exact ih2 _ _ _ _ _)
   | (with_reducible exact petrinetref16_distances.mono _ _ _)
   | (with_reducible exact LeO.refl _)
   | (with_reducible exact LeO.none _)
   | (with_reducible refine LeO.ite ?_ ?_)
   | (with_reducible refine LeO.bind ?_ (fun _ => ?_))
   | exact ih0 _ _ _ _
   | exact ih1 _ _ _ _
   | exact ih2 _ _ _ _ _
   | exact petrinetref16_distances.mono _ _ _
   | exact LeO.none _
   | refine LeO.ite ?_ ?_
   | refine LeO.bind ?_ (fun _ => ?_)
theorem petrinetref16_follow.mono : ∀ a0 a1 a2 k, LeO (petrinetref16_follow.f k a0 a1 a2) (petrinetref16_follow.f (k + 1) a0 a1 a2) := by
 intro a0 a1 a2 k
 obtain ⟨ih0, ih1, ih2⟩ := petrinetref16_follow.mono_l k
 unfold petrinetref16_follow.f
 repeat' first
   | (with_reducible exact ih0 _ _ _ _)
   | (with_reducible exact ih1 _ _ _ _)
   | (with_reducible exact ih2 _ _ _ _ _)
   | (with_reducible exact petrinetref16_distances.mono _ _ _)
   | (with_reducible exact LeO.refl _)
   | (with_reducible exact LeO.none _)
   | (with_reducible refine LeO.ite ?_ ?_)
   | (with_reducible refine LeO.bind ?_ (fun _ => ?_))
   | exact ih0 _ _ _ _
   | exact ih1 _ _ _ _
   | exact ih2 _ _ _ _ _
   | exact petrinetref16_distances.mono _ _ _
   | exact LeO.none _
   | refine LeO.ite ?_ ?_
   | refine LeO.bind ?_ (fun _ => ?_)
set_option maxHeartbeats 8000000 in
set_option maxRecDepth 100000 in
theorem petrinetref16_follow.calls (k : Nat) (A0 : Option Addr) (c0 : Nat) (l0 : List (List (S80))) (a1 : Int) (A2 : Option Addr) (c2 : Nat) (l2 : List Bool) (r1 : List Int) (r2 : Bool) (w : World) (hr0 : Kd.C (Kd.slice 80 k80) w A0 l0.length l0) (hc0 : l0.length ≤ c0) (hr2 : Kd.C Kd.bool w A2 l2.length l2) (hc2 : l2.length ≤ c2) (h : petrinetref16_follow.f k l0 a1 l2 = some (r1, r2)) :
  Calls Try.prog 38 #[.slice A0 l0.length c0, .int .i64 a1, .slice A2 l2.length c2] w fun e w' => ∃ v0_ : Value, e = .returned (.tuple #[v0_, .bool r2]) ∧ Kd.R (Kd.int .i64) 3 w' w.heap.size (fun _ => True) v0_ r1 ∧ Below w.heap.size w w' := by
 have HR0 := Aside0.mk hr0
 have HC0 := Aside0.mk hc0
 clear hr0 hc0
 have HR2 := Aside0.mk hr2
 have HC2 := Aside0.mk hc2
 clear hr2 hc2
 have HB := Aside0.mk (Below.refl w.heap.size w)
 have H : (if a1 < 0 then (petrinetref16_follow.j0 k l0 a1 l2 true) else (petrinetref16_follow.j0 k l0 a1 l2 (decide (a1 ≥ (l0.length : Int))))) = some (r1, r2) := h
 clear h
 have HC4 := Aside0.mk H
 clear H
 go_enter Try.func38, Try.ntmps38
 go_upto_region 1 with (fail)
 repeat (go_quiet (fail); go_upto_region 1 with (fail))
 go_cut [19] (fun v19 wc => ∃ (kq : Nat) (x19_3 : Bool), v19 = .bool x19_3 ∧ Aside0 (petrinetref16_follow.j0 kq l0 a1 l2 x19_3 = some (r1, r2)) ∧ Aside0 (kq ≤ k) ∧ Aside0 (Below w.heap.size w wc))
 case first =>
  have H := HC4.out
  clear HC4
  by_cases c5 : a1 < 0
  ·rw [if_pos c5] at H
   have c5b0 : decide (a1 < 0) = true := decide_eq_true c5
   clear c5
   (first | rw [c5b0] | (simp only [i64_w, i32_w]; rw [c5b0]) | skip)
   have H' := Aside0.mk H
   clear H
   go_wp2
   repeat (go_quiet (fail); try go_wp2)
   go_meet
   case rel => exact ⟨_, (true), (by first | rfl | (simp; done) | (simp [*]; done)), H', ⟨by first | omega | exact Nat.le_refl _⟩, ⟨by repeat (first | (with_reducible first | exact HB.out | apply below_alloc | apply pw_below_drewN | apply below_drew1) | exact HB.out)⟩⟩
  ·rw [if_neg c5] at H
   have c5b0 : decide (a1 < 0) = false := decide_eq_false c5
   clear c5
   (first | rw [c5b0] | (simp only [i64_w, i32_w]; rw [c5b0]) | skip)
   have H' := Aside0.mk H
   clear H
   go_wp2
   repeat (go_quiet (fail); try go_wp2)
   go_meet
   case rel => exact ⟨_, (decide (a1 ≥ (l0.length : Int))), (by first | rfl | (simp; done) | (simp [*]; done)), H', ⟨by first | omega | exact Nat.le_refl _⟩, ⟨by repeat (first | (with_reducible first | exact HB.out | apply below_alloc | apply pw_below_drewN | apply below_drew1) | exact HB.out)⟩⟩
 case rest =>
  clear HC4
  try clear c2
  try clear p2
  try clear c3
  try clear c5
  try clear c5b0
  obtain ⟨kq, x19_3, rfl, HA, HJ3, HB⟩ := hcut
  cases kq with
  | zero => exact absurd HA.out (by simp [petrinetref16_follow.j0])
  | succ kj3 =>
   have H := HA.out
   clear HA
   simp only [petrinetref16_follow.j0] at H
   by_cases c6 : x19_3 = true
   ·subst c6
    have H1 : (some (([] : List Int), false)) = some (r1, r2) := by rw [if_pos rfl] at H; exact H
    clear H
    have H := H1
    clear H1
    simp only [Option.some.injEq, Prod.mk.injEq] at H
    obtain ⟨rfl, rfl⟩ := H
    go_wp2
    repeat (go_quiet (fail); try go_wp2)
    go_ret2
    exact ⟨_, by first | rfl | (simp [errW_none, errW_some] <;> rfl) | (simp [*, errW_none, errW_some] <;> rfl), by first | exact Kd.R_nil _ _ _ _ _ | exact Kd.N_nil _ _ _ _ _ | exact Kd.V_nil _ _ _ _ _ | exact Kd.Q_nil _ _ _ _ _ | exact Kd.S_nil _ _ _ _ _, by repeat (first | (with_reducible first | exact HB.out | apply below_alloc | apply pw_below_drewN | apply below_drew1) | exact HB.out)⟩
   ·replace c6 := Bool.eq_false_iff.mpr c6
    subst c6
    have H1 : ((petrinetref16_distances.f kj3 l0 l2).bind fun t101 => (if 0 ≤ a1 then (if a1 < (t101.length : Int) then (if (rd t101 a1) < 0 then (some (([] : List Int), false)) else (petrinetref16_follow.l0 kj3 l0 t101 ([] : List Int) a1)) else (none)) else (none))) = some (r1, r2) := by rw [if_neg (show ¬ (false = true) by decide)] at H; exact H
    clear H
    have H := H1
    clear H1
    replace H := Option.bind_eq_some_iff.mp H
    obtain ⟨t101, A70, H⟩ := H
    replace H : (if 0 ≤ a1 then (if a1 < (t101.length : Int) then (if (rd t101 a1) < 0 then (some (([] : List Int), false)) else (petrinetref16_follow.l0 kj3 l0 t101 ([] : List Int) a1)) else (none)) else (none)) = some (r1, r2) := H
    have A7 := Aside0.mk A70
    clear A70
    by_cases c8 : 0 ≤ a1
    ·rw [if_pos c8] at H
     have c8b0 : decide (0 ≤ a1) = true := decide_eq_true c8
     clear c8
     by_cases c9 : a1 < (t101.length : Int)
     ·rw [if_pos c9] at H
      have c9b0 : decide (a1 < (t101.length : Int)) = true := decide_eq_true c9
      clear c9
      by_cases c10 : (rd t101 a1) < 0
      ·rw [if_pos c10] at H
       have c10b0 : decide ((rd t101 a1) < 0) = true := decide_eq_true c10
       clear c10
       simp only [Option.some.injEq, Prod.mk.injEq] at H
       obtain ⟨rfl, rfl⟩ := H
       go_wp2_with (first | (go_at_call 56; (with_reducible refine (petrinetref16_distances.calls kj3 _ _ l0 _ _ l2 t101 _ ?side1 ?side2 ?side3 ?side4 A7.out).mono ?_); (case side1 => repeat (first | exact (Kd.C_below HR0.out HB.out) | (with_reducible refine Kd.C_alloc ?_ _) | (with_reducible refine Kd.C_drewN ?_ _) | (with_reducible refine Kd.C_drew ?_))); (case side2 => exact HC0.out); (case side3 => repeat (first | exact (Kd.C_below HR2.out HB.out) | (with_reducible refine Kd.C_alloc ?_ _) | (with_reducible refine Kd.C_drewN ?_ _) | (with_reducible refine Kd.C_drew ?_))); (case side4 => exact HC2.out); rintro e w11 ⟨v102, rfl, ho0, hb⟩; have n0_ := Aside0.mk (Kd.R_lower ho0 (below_size (by repeat (first | (with_reducible first | exact HB.out | apply below_alloc | apply pw_below_drewN | apply below_drew1) | exact HB.out)))); have n1_ := Aside0.mk (below_step (by repeat (first | (with_reducible first | exact HB.out | apply below_alloc | apply pw_below_drewN | apply below_drew1) | exact HB.out)) hb); clear HB; have HO103 := n0_; have HB := n1_; clear n0_ n1_; (try clear hb); (try clear hb2); (try clear hk); (try clear hi); (try clear ho0); obtain ⟨Ao12, co12, eo12⟩ := Kd.R_slice HO103.out; subst eo12; have p104 : 0 ≤ (a1 : Int) := of_decide_eq_true (by first | (with_reducible assumption) | assumption); have q104 : a1 < (t101.length : Int) := of_decide_eq_true (by first | (with_reducible assumption) | assumption); obtain ⟨ad104, e104, hx104_0⟩ := Kd.at_int (Kd.R_reads' HO103.out).2.2 a1 p104 q104; cases e104; replace p104 := eq_true p104; replace q104 := eq_true q104))
       repeat (go_quiet (first | (go_at_call 56; (with_reducible refine (petrinetref16_distances.calls kj3 _ _ l0 _ _ l2 t101 _ ?side1 ?side2 ?side3 ?side4 A7.out).mono ?_); (case side1 => repeat (first | exact (Kd.C_below HR0.out HB.out) | (with_reducible refine Kd.C_alloc ?_ _) | (with_reducible refine Kd.C_drewN ?_ _) | (with_reducible refine Kd.C_drew ?_))); (case side2 => exact HC0.out); (case side3 => repeat (first | exact (Kd.C_below HR2.out HB.out) | (with_reducible refine Kd.C_alloc ?_ _) | (with_reducible refine Kd.C_drewN ?_ _) | (with_reducible refine Kd.C_drew ?_))); (case side4 => exact HC2.out); rintro e w11 ⟨v102, rfl, ho0, hb⟩; have n0_ := Aside0.mk (Kd.R_lower ho0 (below_size (by repeat (first | (with_reducible first | exact HB.out | apply below_alloc | apply pw_below_drewN | apply below_drew1) | exact HB.out)))); have n1_ := Aside0.mk (below_step (by repeat (first | (with_reducible first | exact HB.out | apply below_alloc | apply pw_below_drewN | apply below_drew1) | exact HB.out)) hb); clear HB; have HO103 := n0_; have HB := n1_; clear n0_ n1_; (try clear hb); (try clear hb2); (try clear hk); (try clear hi); (try clear ho0); obtain ⟨Ao12, co12, eo12⟩ := Kd.R_slice HO103.out; subst eo12; have p104 : 0 ≤ (a1 : Int) := of_decide_eq_true (by first | (with_reducible assumption) | assumption); have q104 : a1 < (t101.length : Int) := of_decide_eq_true (by first | (with_reducible assumption) | assumption); obtain ⟨ad104, e104, hx104_0⟩ := Kd.at_int (Kd.R_reads' HO103.out).2.2 a1 p104 q104; cases e104; replace p104 := eq_true p104; replace q104 := eq_true q104)); try go_wp2_with (first | (go_at_call 56; (with_reducible refine (petrinetref16_distances.calls kj3 _ _ l0 _ _ l2 t101 _ ?side1 ?side2 ?side3 ?side4 A7.out).mono ?_); (case side1 => repeat (first | exact (Kd.C_below HR0.out HB.out) | (with_reducible refine Kd.C_alloc ?_ _) | (with_reducible refine Kd.C_drewN ?_ _) | (with_reducible refine Kd.C_drew ?_))); (case side2 => exact HC0.out); (case side3 => repeat (first | exact (Kd.C_below HR2.out HB.out) | (with_reducible refine Kd.C_alloc ?_ _) | (with_reducible refine Kd.C_drewN ?_ _) | (with_reducible refine Kd.C_drew ?_))); (case side4 => exact HC2.out); rintro e w11 ⟨v102, rfl, ho0, hb⟩; have n0_ := Aside0.mk (Kd.R_lower ho0 (below_size (by repeat (first | (with_reducible first | exact HB.out | apply below_alloc | apply pw_below_drewN | apply below_drew1) | exact HB.out)))); have n1_ := Aside0.mk (below_step (by repeat (first | (with_reducible first | exact HB.out | apply below_alloc | apply pw_below_drewN | apply below_drew1) | exact HB.out)) hb); clear HB; have HO103 := n0_; have HB := n1_; clear n0_ n1_; (try clear hb); (try clear hb2); (try clear hk); (try clear hi); (try clear ho0); obtain ⟨Ao12, co12, eo12⟩ := Kd.R_slice HO103.out; subst eo12; have p104 : 0 ≤ (a1 : Int) := of_decide_eq_true (by first | (with_reducible assumption) | assumption); have q104 : a1 < (t101.length : Int) := of_decide_eq_true (by first | (with_reducible assumption) | assumption); obtain ⟨ad104, e104, hx104_0⟩ := Kd.at_int (Kd.R_reads' HO103.out).2.2 a1 p104 q104; cases e104; replace p104 := eq_true p104; replace q104 := eq_true q104)))
       go_ret2
       exact ⟨_, by first | rfl | (simp [errW_none, errW_some] <;> rfl) | (simp [*, errW_none, errW_some] <;> rfl), by first | exact Kd.R_nil _ _ _ _ _ | exact Kd.N_nil _ _ _ _ _ | exact Kd.V_nil _ _ _ _ _ | exact Kd.Q_nil _ _ _ _ _ | exact Kd.S_nil _ _ _ _ _, by repeat (first | (with_reducible first | exact HB.out | apply below_alloc | apply pw_below_drewN | apply below_drew1) | exact HB.out)⟩
      ·rw [if_neg c10] at H
       have c10b0 : decide ((rd t101 a1) < 0) = false := decide_eq_false c10
       clear c10
       have H' := Aside0.mk H
       clear H
       go_wp2_with (first | (go_at_call 56; (with_reducible refine (petrinetref16_distances.calls kj3 _ _ l0 _ _ l2 t101 _ ?side1 ?side2 ?side3 ?side4 A7.out).mono ?_); (case side1 => repeat (first | exact (Kd.C_below HR0.out HB.out) | (with_reducible refine Kd.C_alloc ?_ _) | (with_reducible refine Kd.C_drewN ?_ _) | (with_reducible refine Kd.C_drew ?_))); (case side2 => exact HC0.out); (case side3 => repeat (first | exact (Kd.C_below HR2.out HB.out) | (with_reducible refine Kd.C_alloc ?_ _) | (with_reducible refine Kd.C_drewN ?_ _) | (with_reducible refine Kd.C_drew ?_))); (case side4 => exact HC2.out); rintro e w13 ⟨v102, rfl, ho0, hb⟩; have n0_ := Aside0.mk (Kd.R_lower ho0 (below_size (by repeat (first | (with_reducible first | exact HB.out | apply below_alloc | apply pw_below_drewN | apply below_drew1) | exact HB.out)))); have n1_ := Aside0.mk (below_step (by repeat (first | (with_reducible first | exact HB.out | apply below_alloc | apply pw_below_drewN | apply below_drew1) | exact HB.out)) hb); clear HB; have HO103 := n0_; have HB := n1_; clear n0_ n1_; (try clear hb); (try clear hb2); (try clear hk); (try clear hi); (try clear ho0); obtain ⟨Ao14, co14, eo14⟩ := Kd.R_slice HO103.out; subst eo14; have p104 : 0 ≤ (a1 : Int) := of_decide_eq_true (by first | (with_reducible assumption) | assumption); have q104 : a1 < (t101.length : Int) := of_decide_eq_true (by first | (with_reducible assumption) | assumption); obtain ⟨ad104, e104, hx104_0⟩ := Kd.at_int (Kd.R_reads' HO103.out).2.2 a1 p104 q104; cases e104; replace p104 := eq_true p104; replace q104 := eq_true q104))
       repeat (go_quiet (first | (go_at_call 56; (with_reducible refine (petrinetref16_distances.calls kj3 _ _ l0 _ _ l2 t101 _ ?side1 ?side2 ?side3 ?side4 A7.out).mono ?_); (case side1 => repeat (first | exact (Kd.C_below HR0.out HB.out) | (with_reducible refine Kd.C_alloc ?_ _) | (with_reducible refine Kd.C_drewN ?_ _) | (with_reducible refine Kd.C_drew ?_))); (case side2 => exact HC0.out); (case side3 => repeat (first | exact (Kd.C_below HR2.out HB.out) | (with_reducible refine Kd.C_alloc ?_ _) | (with_reducible refine Kd.C_drewN ?_ _) | (with_reducible refine Kd.C_drew ?_))); (case side4 => exact HC2.out); rintro e w13 ⟨v102, rfl, ho0, hb⟩; have n0_ := Aside0.mk (Kd.R_lower ho0 (below_size (by repeat (first | (with_reducible first | exact HB.out | apply below_alloc | apply pw_below_drewN | apply below_drew1) | exact HB.out)))); have n1_ := Aside0.mk (below_step (by repeat (first | (with_reducible first | exact HB.out | apply below_alloc | apply pw_below_drewN | apply below_drew1) | exact HB.out)) hb); clear HB; have HO103 := n0_; have HB := n1_; clear n0_ n1_; (try clear hb); (try clear hb2); (try clear hk); (try clear hi); (try clear ho0); obtain ⟨Ao14, co14, eo14⟩ := Kd.R_slice HO103.out; subst eo14; have p104 : 0 ≤ (a1 : Int) := of_decide_eq_true (by first | (with_reducible assumption) | assumption); have q104 : a1 < (t101.length : Int) := of_decide_eq_true (by first | (with_reducible assumption) | assumption); obtain ⟨ad104, e104, hx104_0⟩ := Kd.at_int (Kd.R_reads' HO103.out).2.2 a1 p104 q104; cases e104; replace p104 := eq_true p104; replace q104 := eq_true q104)); try go_wp2_with (first | (go_at_call 56; (with_reducible refine (petrinetref16_distances.calls kj3 _ _ l0 _ _ l2 t101 _ ?side1 ?side2 ?side3 ?side4 A7.out).mono ?_); (case side1 => repeat (first | exact (Kd.C_below HR0.out HB.out) | (with_reducible refine Kd.C_alloc ?_ _) | (with_reducible refine Kd.C_drewN ?_ _) | (with_reducible refine Kd.C_drew ?_))); (case side2 => exact HC0.out); (case side3 => repeat (first | exact (Kd.C_below HR2.out HB.out) | (with_reducible refine Kd.C_alloc ?_ _) | (with_reducible refine Kd.C_drewN ?_ _) | (with_reducible refine Kd.C_drew ?_))); (case side4 => exact HC2.out); rintro e w13 ⟨v102, rfl, ho0, hb⟩; have n0_ := Aside0.mk (Kd.R_lower ho0 (below_size (by repeat (first | (with_reducible first | exact HB.out | apply below_alloc | apply pw_below_drewN | apply below_drew1) | exact HB.out)))); have n1_ := Aside0.mk (below_step (by repeat (first | (with_reducible first | exact HB.out | apply below_alloc | apply pw_below_drewN | apply below_drew1) | exact HB.out)) hb); clear HB; have HO103 := n0_; have HB := n1_; clear n0_ n1_; (try clear hb); (try clear hb2); (try clear hk); (try clear hi); (try clear ho0); obtain ⟨Ao14, co14, eo14⟩ := Kd.R_slice HO103.out; subst eo14; have p104 : 0 ≤ (a1 : Int) := of_decide_eq_true (by first | (with_reducible assumption) | assumption); have q104 : a1 < (t101.length : Int) := of_decide_eq_true (by first | (with_reducible assumption) | assumption); obtain ⟨ad104, e104, hx104_0⟩ := Kd.at_int (Kd.R_reads' HO103.out).2.2 a1 p104 q104; cases e104; replace p104 := eq_true p104; replace q104 := eq_true q104)))
       go_loopg [9, 10] kj3 (fun kq v9 v10 w' => ∃ (x9_2 : List Int) (x10_2 : Int), v10 = .int .i64 x10_2 ∧ Aside0 (petrinetref16_follow.l0 kq l0 t101 x9_2 x10_2 = some (r1, r2)) ∧ Aside0 (kq ≤ kj3) ∧ Aside0 (Kd.R (Kd.int .i64) 3 w' w.heap.size (fun k_ => some k_ ≠ (v9 : Value).ownBlock) (.slice (some ad104) t101.length co14) t101) ∧ Aside0 (Kd.R (Kd.int .i64) 3 w' w.heap.size (fun k_ => some k_ ≠ ((.slice (some ad104) t101.length co14) : Value).ownBlock) v9 x9_2) ∧ Aside0 (Below w.heap.size w w'))
       case atStart => exact ⟨(([] : List Int)), (a1), (by first | rfl | (simp; done) | (simp [*]; done)), H', ⟨Nat.le_refl _⟩, ⟨by (with_reducible repeat (first | apply Kd.R_alloc | apply Kd.R_drewN | apply Kd.R_drew)); exact Kd.R_mono HO103.out (fun _ hk => (by simp [Value.ownBlock]))⟩, ⟨by first | exact Kd.R_nil _ _ _ _ _ | exact Kd.N_nil _ _ _ _ _ | exact Kd.V_nil _ _ _ _ _ | exact Kd.Q_nil _ _ _ _ _ | exact Kd.S_nil _ _ _ _ _⟩, ⟨by repeat (first | (with_reducible first | exact HB.out | apply below_alloc | apply pw_below_drewN | apply below_drew1) | exact HB.out)⟩⟩
       case round =>
        clear H'
        try clear c1
        try clear p1
        try clear q1
        try clear hx1
        try clear c2
        try clear p2
        try clear c3
        try clear c5
        try clear c5b0
        try clear c6
        try clear c8
        try clear c8b0
        try clear c9
        try clear c9b0
        try clear c10
        try clear c10b0
        try clear p10
        try clear q10
        try clear hx10
        try clear hx104_0
        try clear p104
        try clear p2
        try clear q104
        obtain ⟨x9_2, x10_2, rfl, HA, HK2, HO_8, HO_9, HB⟩ := hrel
        cases gk with
        | zero => exact absurd HA.out (by simp [petrinetref16_follow.l0])
        | succ k2 =>
         have H := HA.out
         clear HA
         simp only [petrinetref16_follow.l0] at H
         by_cases c15 : 0 ≤ x10_2
         ·rw [if_pos c15] at H
          have c15b0 : decide (0 ≤ x10_2) = true := decide_eq_true c15
          clear c15
          by_cases c16 : x10_2 < (t101.length : Int)
          ·rw [if_pos c16] at H
           have c16b0 : decide (x10_2 < (t101.length : Int)) = true := decide_eq_true c16
           clear c16
           by_cases c17 : (rd t101 x10_2) > 0
           ·rw [if_pos c17] at H
            have c17b0 : decide (0 < (rd t101 x10_2)) = true := decide_eq_true c17
            clear c17
            have H' := Aside0.mk H
            clear H
            have p105 : 0 ≤ (x10_2 : Int) := of_decide_eq_true (by first | (with_reducible assumption) | assumption)
            have q105 : x10_2 < (t101.length : Int) := of_decide_eq_true (by first | (with_reducible assumption) | assumption)
            obtain ⟨ad105, e105, hx105_0⟩ := Kd.at_int (Kd.R_reads' HO_8.out).2.2 x10_2 p105 q105
            obtain rfl : ad104 = ad105 := (by injection e105)
            replace p105 := eq_true p105
            replace q105 := eq_true q105
            go_wp2
            repeat (go_quiet (fail); try go_wp2)
            go_loopg [11] k2 (fun kq v11 w' => ∃ (x11_3 : Int), v11 = .int .i64 x11_3 ∧ Aside0 (petrinetref16_follow.l1 kq l0 t101 x9_2 x10_2 x11_3 = some (r1, r2)) ∧ Aside0 (kq ≤ k2) ∧ Aside0 (Kd.R (Kd.int .i64) 3 w' w.heap.size (fun k_ => some k_ ≠ (u9 : Value).ownBlock) (.slice (some ad104) t101.length co14) t101) ∧ Aside0 (Kd.R (Kd.int .i64) 3 w' w.heap.size (fun k_ => some k_ ≠ ((.slice (some ad104) t101.length co14) : Value).ownBlock) u9 x9_2) ∧ Aside0 (Below w.heap.size w w'))
            case atStart => exact ⟨(0), (by first | rfl | (simp; done) | (simp [*]; done)), H', ⟨Nat.le_refl _⟩, ⟨by (with_reducible repeat (first | apply Kd.R_alloc | apply Kd.R_drewN | apply Kd.R_drew)); exact HO_8.out⟩, ⟨by (with_reducible repeat (first | apply Kd.R_alloc | apply Kd.R_drewN | apply Kd.R_drew)); exact HO_9.out⟩, ⟨by repeat (first | (with_reducible first | exact HB.out | apply below_alloc | apply pw_below_drewN | apply below_drew1) | exact HB.out)⟩⟩
            case round =>
             clear H'
             try clear c1
             try clear p1
             try clear q1
             try clear hx1
             try clear c2
             try clear p2
             try clear c3
             try clear c5
             try clear c5b0
             try clear c6
             try clear c8
             try clear c8b0
             try clear c9
             try clear c9b0
             try clear c10
             try clear c10b0
             try clear p10
             try clear q10
             try clear hx10
             try clear c15
             try clear c15b0
             try clear c16
             try clear c16b0
             try clear c17
             try clear c17b0
             try clear hx104_0
             try clear hx105_0
             try clear p1
             try clear p10
             try clear p104
             try clear p105
             try clear p2
             try clear q1
             try clear q10
             try clear q104
             try clear q105
             obtain ⟨x11_3, rfl, HA, HK3, HO_8, HO_9, HB⟩ := hrel
             cases gk with
             | zero => exact absurd HA.out (by simp [petrinetref16_follow.l1])
             | succ k3 =>
              have H := HA.out
              clear HA
              simp only [petrinetref16_follow.l1] at H
              by_cases c18 : 0 ≤ x10_2
              ·rw [if_pos c18] at H
               have c18b0 : decide (0 ≤ x10_2) = true := decide_eq_true c18
               clear c18
               by_cases c19 : x10_2 < (l0.length : Int)
               ·rw [if_pos c19] at H
                have c19b0 : decide (x10_2 < (l0.length : Int)) = true := decide_eq_true c19
                clear c19
                by_cases c20 : 0 ≤ x11_3
                ·rw [if_pos c20] at H
                 have c20b0 : decide (0 ≤ x11_3) = true := decide_eq_true c20
                 clear c20
                 by_cases c21 : x11_3 < ((rd_L80 l0 x10_2).length : Int)
                 ·rw [if_pos c21] at H
                  have c21b0 : decide (x11_3 < ((rd_L80 l0 x10_2).length : Int)) = true := decide_eq_true c21
                  clear c21
                  by_cases c22 : 0 ≤ ((rd_T80 (rd_L80 l0 x10_2) x11_3).f2)
                  ·rw [if_pos c22] at H
                   have c22b0 : decide (0 ≤ ((rd_T80 (rd_L80 l0 x10_2) x11_3).f2)) = true := decide_eq_true c22
                   clear c22
                   by_cases c23 : ((rd_T80 (rd_L80 l0 x10_2) x11_3).f2) < (t101.length : Int)
                   ·rw [if_pos c23] at H
                    have c23b0 : decide (((rd_T80 (rd_L80 l0 x10_2) x11_3).f2) < (t101.length : Int)) = true := decide_eq_true c23
                    clear c23
                    by_cases c24 : x10_2 < (t101.length : Int)
                    ·rw [if_pos c24] at H
                     have c24b0 : decide (x10_2 < (t101.length : Int)) = true := decide_eq_true c24
                     clear c24
                     by_cases c25 : (rd t101 ((rd_T80 (rd_L80 l0 x10_2) x11_3).f2)) = (wrap64 ((rd t101 x10_2) - 1))
                     ·rw [if_pos c25] at H
                      have c25b0 : ((rd t101 ((rd_T80 (rd_L80 l0 x10_2) x11_3).f2)) == (wrap64 ((rd t101 x10_2) - 1))) = true := beq_iff_eq.mpr c25
                      have c25b1 : ((rd t101 ((rd_T80 (rd_L80 l0 x10_2) x11_3).f2)) != (wrap64 ((rd t101 x10_2) - 1))) = false := bne_eq_false_iff_eq.mpr c25
                      clear c25
                      by_cases c26 : x9_2.length < 17592186044416
                      ·rw [if_pos c26] at H
                       have LMc26 := Aside0.mk c26
                       clear c26
                       obtain ⟨y112, hy112⟩ : ∃ y_ : List Int, y_ = (x9_2 ++ [(rd_T80 (rd_L80 l0 x10_2) x11_3).f1]) := ⟨_, rfl⟩
                       replace H : (petrinetref16_follow.l0 k3 l0 t101 y112 ((rd_T80 (rd_L80 l0 x10_2) x11_3).f2)) = some (r1, r2) := by first | (rw [hy112]; with_reducible exact H) | (have H2_ := (Option.bind_some _ _).symm.trans H; rw [hy112]; with_reducible exact H2_) | (have H2_ := (Option.bind_some _ _).symm.trans H; with_reducible exact H2_) | with_reducible exact H | (rw [hy112]; exact H) | exact H
                       have Ny112 := Aside0.mk hy112
                       clear hy112
                       have H' := Aside0.mk H
                       clear H
                       have p106 : 0 ≤ (x10_2 : Int) := of_decide_eq_true (by first | (with_reducible assumption) | assumption)
                       have q106 : x10_2 < (l0.length : Int) := of_decide_eq_true (by first | (with_reducible assumption) | assumption)
                       obtain ⟨ad106, A106_0, c106_0, e106, hx106_0, hl106_0, hi106_0⟩ := at_L80 HR0.out x10_2 p106 q106
                       cases e106
                       replace hx106_0 := (HB.out.cell (World.block_lt_of_cell? w _ hx106_0)).trans hx106_0
                       have HR106_0 := Aside0.mk hi106_0
                       have HC106_0 := Aside0.mk hl106_0
                       clear hi106_0 hl106_0
                       replace p106 := eq_true p106
                       replace q106 := eq_true q106
                       have p107 : 0 ≤ (x11_3 : Int) := of_decide_eq_true (by first | (with_reducible assumption) | assumption)
                       have q107 : x11_3 < ((rd_L80 l0 x10_2).length : Int) := of_decide_eq_true (by first | (with_reducible assumption) | assumption)
                       obtain ⟨ad107, e107, hx107_0, hx107_1, hx107_2⟩ := at_T80 HR106_0.out x11_3 p107 q107
                       cases e107
                       replace hx107_0 := (HB.out.cell (World.block_lt_of_cell? w _ hx107_0)).trans hx107_0
                       replace hx107_1 := (HB.out.cell (World.block_lt_of_cell? w _ hx107_1)).trans hx107_1
                       replace hx107_2 := (HB.out.cell (World.block_lt_of_cell? w _ hx107_2)).trans hx107_2
                       replace p107 := eq_true p107
                       replace q107 := eq_true q107
                       have p108 : 0 ≤ (((rd_T80 (rd_L80 l0 x10_2) x11_3).f2) : Int) := of_decide_eq_true (by first | (with_reducible assumption) | assumption)
                       have q108 : ((rd_T80 (rd_L80 l0 x10_2) x11_3).f2) < (t101.length : Int) := of_decide_eq_true (by first | (with_reducible assumption) | assumption)
                       obtain ⟨ad108, e108, hx108_0⟩ := Kd.at_int (Kd.R_reads' HO_8.out).2.2 ((rd_T80 (rd_L80 l0 x10_2) x11_3).f2) p108 q108
                       obtain rfl : ad104 = ad108 := (by injection e108)
                       replace p108 := eq_true p108
                       replace q108 := eq_true q108
                       have p109 : 0 ≤ (x10_2 : Int) := of_decide_eq_true (by first | (with_reducible assumption) | assumption)
                       have q109 : x10_2 < (t101.length : Int) := of_decide_eq_true (by first | (with_reducible assumption) | assumption)
                       obtain ⟨ad109, e109, hx109_0⟩ := Kd.at_int (Kd.R_reads' HO_8.out).2.2 x10_2 p109 q109
                       obtain rfl : ad104 = ad109 := (by injection e109)
                       replace p109 := eq_true p109
                       replace q109 := eq_true q109
                       have p110 : 0 ≤ (x10_2 : Int) := of_decide_eq_true (by first | (with_reducible assumption) | assumption)
                       have q110 : x10_2 < (l0.length : Int) := of_decide_eq_true (by first | (with_reducible assumption) | assumption)
                       obtain ⟨ad110, A110_0, c110_0, e110, hx110_0, hl110_0, hi110_0⟩ := at_L80 HR0.out x10_2 p110 q110
                       obtain rfl : ad106 = ad110 := (by injection e110)
                       replace hx110_0 := (HB.out.cell (World.block_lt_of_cell? w _ hx110_0)).trans hx110_0
                       have HR110_0 := Aside0.mk hi110_0
                       have HC110_0 := Aside0.mk hl110_0
                       clear hi110_0 hl110_0
                       replace p110 := eq_true p110
                       replace q110 := eq_true q110
                       have ea_ := Option.some.inj (hx106_0.symm.trans hx110_0)
                       injection ea_ with ea_ en_ ec_
                       subst ea_
                       subst ec_
                       clear en_
                       have p111 : 0 ≤ (x11_3 : Int) := of_decide_eq_true (by first | (with_reducible assumption) | assumption)
                       have q111 : x11_3 < ((rd_L80 l0 x10_2).length : Int) := of_decide_eq_true (by first | (with_reducible assumption) | assumption)
                       obtain ⟨ad111, e111, hx111_0, hx111_1, hx111_2⟩ := at_T80 HR110_0.out x11_3 p111 q111
                       cases e111
                       replace hx111_0 := (HB.out.cell (World.block_lt_of_cell? w _ hx111_0)).trans hx111_0
                       replace hx111_1 := (HB.out.cell (World.block_lt_of_cell? w _ hx111_1)).trans hx111_1
                       replace hx111_2 := (HB.out.cell (World.block_lt_of_cell? w _ hx111_2)).trans hx111_2
                       replace p111 := eq_true p111
                       replace q111 := eq_true q111
                       go_wp2_with (first | ((with_reducible refine gate_builtin (b := .append) (xs := #[.tmp 53, .tmp 62]) rfl ?_); (try (refine gate_guard (by rfl) ?_; dsimp only)); at_builtin; refine Kd.R_append (Kd.int .i64) (w0 := w) w.heap.size rfl (.tmp 53) (.tmp 62) 28 3 (.int .i64 0) 8 rfl Try.underlying28 info3 rfl (by decide) (by omega) u9 x9_2 ((rd_T80 (rd_L80 l0 x10_2) x11_3).f1) [.int .i64 ((rd_T80 (rd_L80 l0 x10_2) x11_3).f1)] (fun k_ => some k_ ≠ (.slice (some ad104) t101.length co14 : Value).ownBlock) (fun _ => False) rfl rfl ?aP (fun _ hk => hk.elim) ?aF ?aO ?aB ?aS ?aL ?_; (case aP => exact rfl); (case aB => exact (by repeat (first | (with_reducible first | exact HB.out | apply below_alloc | apply pw_below_drewN | apply below_drew1) | exact HB.out))); (case aF => exact (fun k_ hk => Kd.fresh' (Kd.R_lt (by (with_reducible repeat (first | apply Kd.R_alloc | apply Kd.R_drewN | apply Kd.R_drew)); exact HO_8.out)) k_ hk)); (case aO => exact (by (with_reducible repeat (first | apply Kd.R_alloc | apply Kd.R_drewN | apply Kd.R_drew)); exact HO_9.out)); (case aS => exact (below_size (by repeat (first | (with_reducible first | exact HB.out | apply below_alloc | apply pw_below_drewN | apply below_drew1) | exact HB.out)))); (case aL => have := LMc26.out; omega); intro v113 w27 ho hb hg hat; rw [← Ny112.out] at ho; have n0_ := Aside0.mk (Kd.R_after (ok := (fun _ => True)) (by (with_reducible repeat (first | apply Kd.R_alloc | apply Kd.R_drewN | apply Kd.R_drew)); exact Kd.R_mono HO_8.out (fun _ hk => ⟨trivial, hk⟩)) hg hat); have n1_ := Aside0.mk (hb); have n2_ := Aside0.mk (ho); clear HO_8; clear HB; clear HO_9; have HO_8 := n0_; have HB := n1_; have HO114 := n2_; clear n0_ n1_ n2_; clear ho hb hg hat; have p115 : 0 ≤ (x10_2 : Int) := of_decide_eq_true (by first | (with_reducible assumption) | assumption); have q115 : x10_2 < (l0.length : Int) := of_decide_eq_true (by first | (with_reducible assumption) | assumption); obtain ⟨ad115, A115_0, c115_0, e115, hx115_0, hl115_0, hi115_0⟩ := at_L80 HR0.out x10_2 p115 q115; obtain rfl : ad106 = ad115 := (by injection e115); replace hx115_0 := (HB.out.cell (World.block_lt_of_cell? w _ hx115_0)).trans hx115_0; have HR115_0 := Aside0.mk hi115_0; have HC115_0 := Aside0.mk hl115_0; clear hi115_0 hl115_0; replace p115 := eq_true p115; replace q115 := eq_true q115; have p116 : 0 ≤ (x11_3 : Int) := of_decide_eq_true (by first | (with_reducible assumption) | assumption); have q116 : x11_3 < ((rd_L80 l0 x10_2).length : Int) := of_decide_eq_true (by first | (with_reducible assumption) | assumption); obtain ⟨ad116, e116, hx116_0, hx116_1, hx116_2⟩ := at_T80 HR115_0.out x11_3 p116 q116; cases e116; replace hx116_0 := (HB.out.cell (World.block_lt_of_cell? w _ hx116_0)).trans hx116_0; replace hx116_1 := (HB.out.cell (World.block_lt_of_cell? w _ hx116_1)).trans hx116_1; replace hx116_2 := (HB.out.cell (World.block_lt_of_cell? w _ hx116_2)).trans hx116_2; replace p116 := eq_true p116; replace q116 := eq_true q116))
                       repeat (go_quiet (first | ((with_reducible refine gate_builtin (b := .append) (xs := #[.tmp 53, .tmp 62]) rfl ?_); (try (refine gate_guard (by rfl) ?_; dsimp only)); at_builtin; refine Kd.R_append (Kd.int .i64) (w0 := w) w.heap.size rfl (.tmp 53) (.tmp 62) 28 3 (.int .i64 0) 8 rfl Try.underlying28 info3 rfl (by decide) (by omega) u9 x9_2 ((rd_T80 (rd_L80 l0 x10_2) x11_3).f1) [.int .i64 ((rd_T80 (rd_L80 l0 x10_2) x11_3).f1)] (fun k_ => some k_ ≠ (.slice (some ad104) t101.length co14 : Value).ownBlock) (fun _ => False) rfl rfl ?aP (fun _ hk => hk.elim) ?aF ?aO ?aB ?aS ?aL ?_; (case aP => exact rfl); (case aB => exact (by repeat (first | (with_reducible first | exact HB.out | apply below_alloc | apply pw_below_drewN | apply below_drew1) | exact HB.out))); (case aF => exact (fun k_ hk => Kd.fresh' (Kd.R_lt (by (with_reducible repeat (first | apply Kd.R_alloc | apply Kd.R_drewN | apply Kd.R_drew)); exact HO_8.out)) k_ hk)); (case aO => exact (by (with_reducible repeat (first | apply Kd.R_alloc | apply Kd.R_drewN | apply Kd.R_drew)); exact HO_9.out)); (case aS => exact (below_size (by repeat (first | (with_reducible first | exact HB.out | apply below_alloc | apply pw_below_drewN | apply below_drew1) | exact HB.out)))); (case aL => have := LMc26.out; omega); intro v113 w27 ho hb hg hat; rw [← Ny112.out] at ho; have n0_ := Aside0.mk (Kd.R_after (ok := (fun _ => True)) (by (with_reducible repeat (first | apply Kd.R_alloc | apply Kd.R_drewN | apply Kd.R_drew)); exact Kd.R_mono HO_8.out (fun _ hk => ⟨trivial, hk⟩)) hg hat); have n1_ := Aside0.mk (hb); have n2_ := Aside0.mk (ho); clear HO_8; clear HB; clear HO_9; have HO_8 := n0_; have HB := n1_; have HO114 := n2_; clear n0_ n1_ n2_; clear ho hb hg hat; have p115 : 0 ≤ (x10_2 : Int) := of_decide_eq_true (by first | (with_reducible assumption) | assumption); have q115 : x10_2 < (l0.length : Int) := of_decide_eq_true (by first | (with_reducible assumption) | assumption); obtain ⟨ad115, A115_0, c115_0, e115, hx115_0, hl115_0, hi115_0⟩ := at_L80 HR0.out x10_2 p115 q115; obtain rfl : ad106 = ad115 := (by injection e115); replace hx115_0 := (HB.out.cell (World.block_lt_of_cell? w _ hx115_0)).trans hx115_0; have HR115_0 := Aside0.mk hi115_0; have HC115_0 := Aside0.mk hl115_0; clear hi115_0 hl115_0; replace p115 := eq_true p115; replace q115 := eq_true q115; have p116 : 0 ≤ (x11_3 : Int) := of_decide_eq_true (by first | (with_reducible assumption) | assumption); have q116 : x11_3 < ((rd_L80 l0 x10_2).length : Int) := of_decide_eq_true (by first | (with_reducible assumption) | assumption); obtain ⟨ad116, e116, hx116_0, hx116_1, hx116_2⟩ := at_T80 HR115_0.out x11_3 p116 q116; cases e116; replace hx116_0 := (HB.out.cell (World.block_lt_of_cell? w _ hx116_0)).trans hx116_0; replace hx116_1 := (HB.out.cell (World.block_lt_of_cell? w _ hx116_1)).trans hx116_1; replace hx116_2 := (HB.out.cell (World.block_lt_of_cell? w _ hx116_2)).trans hx116_2; replace p116 := eq_true p116; replace q116 := eq_true q116)); try go_wp2_with (first | ((with_reducible refine gate_builtin (b := .append) (xs := #[.tmp 53, .tmp 62]) rfl ?_); (try (refine gate_guard (by rfl) ?_; dsimp only)); at_builtin; refine Kd.R_append (Kd.int .i64) (w0 := w) w.heap.size rfl (.tmp 53) (.tmp 62) 28 3 (.int .i64 0) 8 rfl Try.underlying28 info3 rfl (by decide) (by omega) u9 x9_2 ((rd_T80 (rd_L80 l0 x10_2) x11_3).f1) [.int .i64 ((rd_T80 (rd_L80 l0 x10_2) x11_3).f1)] (fun k_ => some k_ ≠ (.slice (some ad104) t101.length co14 : Value).ownBlock) (fun _ => False) rfl rfl ?aP (fun _ hk => hk.elim) ?aF ?aO ?aB ?aS ?aL ?_; (case aP => exact rfl); (case aB => exact (by repeat (first | (with_reducible first | exact HB.out | apply below_alloc | apply pw_below_drewN | apply below_drew1) | exact HB.out))); (case aF => exact (fun k_ hk => Kd.fresh' (Kd.R_lt (by (with_reducible repeat (first | apply Kd.R_alloc | apply Kd.R_drewN | apply Kd.R_drew)); exact HO_8.out)) k_ hk)); (case aO => exact (by (with_reducible repeat (first | apply Kd.R_alloc | apply Kd.R_drewN | apply Kd.R_drew)); exact HO_9.out)); (case aS => exact (below_size (by repeat (first | (with_reducible first | exact HB.out | apply below_alloc | apply pw_below_drewN | apply below_drew1) | exact HB.out)))); (case aL => have := LMc26.out; omega); intro v113 w27 ho hb hg hat; rw [← Ny112.out] at ho; have n0_ := Aside0.mk (Kd.R_after (ok := (fun _ => True)) (by (with_reducible repeat (first | apply Kd.R_alloc | apply Kd.R_drewN | apply Kd.R_drew)); exact Kd.R_mono HO_8.out (fun _ hk => ⟨trivial, hk⟩)) hg hat); have n1_ := Aside0.mk (hb); have n2_ := Aside0.mk (ho); clear HO_8; clear HB; clear HO_9; have HO_8 := n0_; have HB := n1_; have HO114 := n2_; clear n0_ n1_ n2_; clear ho hb hg hat; have p115 : 0 ≤ (x10_2 : Int) := of_decide_eq_true (by first | (with_reducible assumption) | assumption); have q115 : x10_2 < (l0.length : Int) := of_decide_eq_true (by first | (with_reducible assumption) | assumption); obtain ⟨ad115, A115_0, c115_0, e115, hx115_0, hl115_0, hi115_0⟩ := at_L80 HR0.out x10_2 p115 q115; obtain rfl : ad106 = ad115 := (by injection e115); replace hx115_0 := (HB.out.cell (World.block_lt_of_cell? w _ hx115_0)).trans hx115_0; have HR115_0 := Aside0.mk hi115_0; have HC115_0 := Aside0.mk hl115_0; clear hi115_0 hl115_0; replace p115 := eq_true p115; replace q115 := eq_true q115; have p116 : 0 ≤ (x11_3 : Int) := of_decide_eq_true (by first | (with_reducible assumption) | assumption); have q116 : x11_3 < ((rd_L80 l0 x10_2).length : Int) := of_decide_eq_true (by first | (with_reducible assumption) | assumption); obtain ⟨ad116, e116, hx116_0, hx116_1, hx116_2⟩ := at_T80 HR115_0.out x11_3 p116 q116; cases e116; replace hx116_0 := (HB.out.cell (World.block_lt_of_cell? w _ hx116_0)).trans hx116_0; replace hx116_1 := (HB.out.cell (World.block_lt_of_cell? w _ hx116_1)).trans hx116_1; replace hx116_2 := (HB.out.cell (World.block_lt_of_cell? w _ hx116_2)).trans hx116_2; replace p116 := eq_true p116; replace q116 := eq_true q116)))
                       go_roundg k3
                       case measure => have := HJ3.out; have := HK2.out; have := HK3.out; omega
                       case rel => exact ⟨(y112), ((rd_T80 (rd_L80 l0 x10_2) x11_3).f2), (by first | rfl | (simp; done) | (simp [*]; done)), H', ⟨by have := HJ3.out; have := HK2.out; have := HK3.out; omega⟩, ⟨by (with_reducible repeat (first | apply Kd.R_alloc | apply Kd.R_drewN | apply Kd.R_drew)); exact Kd.R_mono HO_8.out (fun _ hk => hk.2)⟩, ⟨by (with_reducible repeat (first | apply Kd.R_alloc | apply Kd.R_drewN | apply Kd.R_drew)); exact HO114.out⟩, ⟨by repeat (first | (with_reducible first | exact HB.out | apply below_alloc | apply pw_below_drewN | apply below_drew1) | exact HB.out)⟩⟩
                      ·rw [if_neg c26] at H
                       exact absurd H (by simp)
                     ·rw [if_neg c25] at H
                      have c25b0 : ((rd t101 ((rd_T80 (rd_L80 l0 x10_2) x11_3).f2)) == (wrap64 ((rd t101 x10_2) - 1))) = false := beq_eq_false_iff_ne.mpr c25
                      have c25b1 : ((rd t101 ((rd_T80 (rd_L80 l0 x10_2) x11_3).f2)) != (wrap64 ((rd t101 x10_2) - 1))) = true := bne_iff_ne.mpr c25
                      have H' := Aside0.mk H
                      clear H
                      have p106 : 0 ≤ (x10_2 : Int) := of_decide_eq_true (by first | (with_reducible assumption) | assumption)
                      have q106 : x10_2 < (l0.length : Int) := of_decide_eq_true (by first | (with_reducible assumption) | assumption)
                      obtain ⟨ad106, A106_0, c106_0, e106, hx106_0, hl106_0, hi106_0⟩ := at_L80 HR0.out x10_2 p106 q106
                      cases e106
                      replace hx106_0 := (HB.out.cell (World.block_lt_of_cell? w _ hx106_0)).trans hx106_0
                      have HR106_0 := Aside0.mk hi106_0
                      have HC106_0 := Aside0.mk hl106_0
                      clear hi106_0 hl106_0
                      replace p106 := eq_true p106
                      replace q106 := eq_true q106
                      have p107 : 0 ≤ (x11_3 : Int) := of_decide_eq_true (by first | (with_reducible assumption) | assumption)
                      have q107 : x11_3 < ((rd_L80 l0 x10_2).length : Int) := of_decide_eq_true (by first | (with_reducible assumption) | assumption)
                      obtain ⟨ad107, e107, hx107_0, hx107_1, hx107_2⟩ := at_T80 HR106_0.out x11_3 p107 q107
                      cases e107
                      replace hx107_0 := (HB.out.cell (World.block_lt_of_cell? w _ hx107_0)).trans hx107_0
                      replace hx107_1 := (HB.out.cell (World.block_lt_of_cell? w _ hx107_1)).trans hx107_1
                      replace hx107_2 := (HB.out.cell (World.block_lt_of_cell? w _ hx107_2)).trans hx107_2
                      replace p107 := eq_true p107
                      replace q107 := eq_true q107
                      have p108 : 0 ≤ (((rd_T80 (rd_L80 l0 x10_2) x11_3).f2) : Int) := of_decide_eq_true (by first | (with_reducible assumption) | assumption)
                      have q108 : ((rd_T80 (rd_L80 l0 x10_2) x11_3).f2) < (t101.length : Int) := of_decide_eq_true (by first | (with_reducible assumption) | assumption)
                      obtain ⟨ad108, e108, hx108_0⟩ := Kd.at_int (Kd.R_reads' HO_8.out).2.2 ((rd_T80 (rd_L80 l0 x10_2) x11_3).f2) p108 q108
                      obtain rfl : ad104 = ad108 := (by injection e108)
                      replace p108 := eq_true p108
                      replace q108 := eq_true q108
                      have p109 : 0 ≤ (x10_2 : Int) := of_decide_eq_true (by first | (with_reducible assumption) | assumption)
                      have q109 : x10_2 < (t101.length : Int) := of_decide_eq_true (by first | (with_reducible assumption) | assumption)
                      obtain ⟨ad109, e109, hx109_0⟩ := Kd.at_int (Kd.R_reads' HO_8.out).2.2 x10_2 p109 q109
                      obtain rfl : ad104 = ad109 := (by injection e109)
                      replace p109 := eq_true p109
                      replace q109 := eq_true q109
                      go_wp2
                      repeat (go_quiet (fail); try go_wp2)
                      go_roundg k3
                      case measure => have := HJ3.out; have := HK2.out; have := HK3.out; omega
                      case rel => exact ⟨(wrap64 (x11_3 + 1)), (by first | rfl | (simp; done) | (simp [*]; done)), H', ⟨by have := HJ3.out; have := HK2.out; have := HK3.out; omega⟩, ⟨by (with_reducible repeat (first | apply Kd.R_alloc | apply Kd.R_drewN | apply Kd.R_drew)); exact HO_8.out⟩, ⟨by (with_reducible repeat (first | apply Kd.R_alloc | apply Kd.R_drewN | apply Kd.R_drew)); exact HO_9.out⟩, ⟨by repeat (first | (with_reducible first | exact HB.out | apply below_alloc | apply pw_below_drewN | apply below_drew1) | exact HB.out)⟩⟩
                    ·rw [if_neg c24] at H
                     exact absurd H (by simp)
                   ·rw [if_neg c23] at H
                    exact absurd H (by simp)
                  ·rw [if_neg c22] at H
                   exact absurd H (by simp)
                 ·rw [if_neg c21] at H
                  exact absurd H (by simp)
                ·rw [if_neg c20] at H
                 exact absurd H (by simp)
               ·rw [if_neg c19] at H
                exact absurd H (by simp)
              ·rw [if_neg c18] at H
               exact absurd H (by simp)
           ·rw [if_neg c17] at H
            have c17b0 : decide (0 < (rd t101 x10_2)) = false := decide_eq_false c17
            clear c17
            simp only [Option.some.injEq, Prod.mk.injEq] at H
            obtain ⟨rfl, rfl⟩ := H
            have p105 : 0 ≤ (x10_2 : Int) := of_decide_eq_true (by first | (with_reducible assumption) | assumption)
            have q105 : x10_2 < (t101.length : Int) := of_decide_eq_true (by first | (with_reducible assumption) | assumption)
            obtain ⟨ad105, e105, hx105_0⟩ := Kd.at_int (Kd.R_reads' HO_8.out).2.2 x10_2 p105 q105
            obtain rfl : ad104 = ad105 := (by injection e105)
            replace p105 := eq_true p105
            replace q105 := eq_true q105
            go_wp2
            repeat (go_quiet (fail); try go_wp2)
            go_ret2
            exact ⟨_, by first | rfl | (simp [errW_none, errW_some] <;> rfl) | (simp [*, errW_none, errW_some] <;> rfl), by (with_reducible repeat (first | apply Kd.R_alloc | apply Kd.R_drewN | apply Kd.R_drew)); exact Kd.R_mono HO_9.out (fun _ hk => trivial), by repeat (first | (with_reducible first | exact HB.out | apply below_alloc | apply pw_below_drewN | apply below_drew1) | exact HB.out)⟩
          ·rw [if_neg c16] at H
           exact absurd H (by simp)
         ·rw [if_neg c15] at H
          exact absurd H (by simp)
     ·rw [if_neg c9] at H
      exact absurd H (by simp)
    ·rw [if_neg c8] at H
     exact absurd H (by simp)
end Go.Proofs.Ytfnjbgggmddgpaa.Q
end
