/- Part 12 of a proof: Dd. Words and walks that a program printed for this claim stand here without what the claim does not use. -/
import Derived.Test.YtfnjbgggmddgpaaDd11
import Derived.Test.YtfnjbgggmddgpaaDd5
section
set_option linter.unusedVariables false
set_option linter.unusedSimpArgs false
namespace Go.Proofs.Ytfnjbgggmddgpaa.Q
open Go.RowKit Go.Proofs.Fn Go.Proofs.YtfnjbgggmddgpaaW.PrintWords Go.Proofs.YtfnjbgggmddgpaaW.PrintMore Go.Proofs.Gr
def Fr (a0 : ByteArray) (P : List S71) (T : List S74) (m r : List Int) : Prop := Evn (fun k => r11_Fires.f k a0 P T m) r
def Af (a0 : ByteArray) (P : List S71) (T : List S74) (m : List Int) (t : Int) (m' : List Int) : Prop := Evn (fun k => r11_After.f k a0 P T m t) (m', true)
structure GG (a0 : ByteArray) (P : List S71) (T : List S74) (st : List (List Int)) (es : List S80) : Prop where
  first : st[0]? = some (P.map (fun x => x.f1))
  len : st.length ≤ 60
  nodup : st.Nodup
  vm : ∀ m ∈ st, VM P.length m
  edge : ∀ e ∈ es, ∃ (i j : Nat) (m m' r : List Int), e.f0 = (i : Int) ∧ e.f2 = (j : Int) ∧ st[i]? = some m ∧ st[j]? = some m' ∧ Fr a0 P T m r ∧ e.f1 ∈ r ∧ Af a0 P T m e.f1 m'
  reach : ∀ j, 0 < j → j < st.length → ∃ e ∈ es, ∃ i : Nat, e.f2 = (j : Int) ∧ e.f0 = (i : Int) ∧ i < j
def Full (a0 : ByteArray) (P : List S71) (T : List S74) (st : List (List Int)) (es : List S80) (n : Nat) : Prop :=
  ∀ i < n, ∀ m r, st[i]? = some m → Fr a0 P T m r → ∀ t ∈ r, ∃ e ∈ es, e.f0 = (i : Int) ∧ e.f1 = t
structure I2 (a0 : ByteArray) (P : List S71) (T : List S74) (i : Nat) (R : List Int) (q : Nat) (st : List (List Int)) (es : List S80) (c : Bool) : Prop where
  g : GG a0 P T st es
  lt : i < st.length
  fr : ∀ m, st[i]? = some m → Fr a0 P T m R
  el : es.length ≤ i * 24 + q
  fi : c = true → Full a0 P T st es i
  fq : c = true → ∀ t ∈ R.take q, ∃ e ∈ es, e.f0 = (i : Int) ∧ e.f1 = t
variable {a0 : ByteArray} {P : List S71} {T : List S74} {i q : Nat} {R : List Int} {st : List (List Int)} {es : List S80} {c : Bool}
theorem I2.drop (h : I2 a0 P T i R q st es c) : I2 a0 P T i R (q + 1) st es false :=
  ⟨h.g, h.lt, h.fr, by have := h.el; omega, (fun h => by cases h), (fun h => by cases h)⟩
theorem I2.old (h : I2 a0 P T i R q st es c) (hq : q < R.length) {m m' : List Int} {j : Nat} (hm : st[i]? = some m) (hj : st[j]? = some m') (ha : Af a0 P T m R[q] m') : I2 a0 P T i R (q + 1) st (es ++ [⟨(i : Int), R[q], (j : Int)⟩]) c := by
  have sub : ∀ e ∈ es, e ∈ es ++ [(⟨(i : Int), R[q], (j : Int)⟩ : S80)] := fun e he => List.mem_append_left _ he
  refine ⟨⟨h.g.first, h.g.len, h.g.nodup, h.g.vm, ?_, ?_⟩, h.lt, h.fr, by have := h.el; simp; omega, ?_, ?_⟩
  · intro e he
    rcases List.mem_append.1 he with he | he
    · exact h.g.edge e he
    · rw [List.mem_singleton.1 he]
      exact ⟨i, j, m, m', R, rfl, rfl, hm, hj, h.fr m hm, List.getElem_mem hq, ha⟩
  · intro j' h1 h2
    obtain ⟨e, he, x⟩ := h.g.reach j' h1 h2
    exact ⟨e, sub e he, x⟩
  · intro hc i' hi' m r h1 h2 t ht
    obtain ⟨e, he, x⟩ := h.fi hc i' hi' m r h1 h2 t ht
    exact ⟨e, sub e he, x⟩
  · intro hc t ht
    rw [List.take_succ_eq_append_getElem hq] at ht
    rcases List.mem_append.1 ht with ht | ht
    · obtain ⟨e, he, x⟩ := h.fq hc t ht
      exact ⟨e, sub e he, x⟩
    · exact ⟨_, List.mem_append_right _ (List.mem_singleton.2 rfl), rfl, (List.mem_singleton.1 ht).symm⟩
theorem I2.new (h : I2 a0 P T i R q st es c) (hq : q < R.length) {m m' : List Int} (hm : st[i]? = some m) (hn : m' ∉ st) (hv : VM P.length m') (hl : st.length < 60) (ha : Af a0 P T m R[q] m') : I2 a0 P T i R (q + 1) (st ++ [m']) (es ++ [⟨(i : Int), R[q], (st.length : Int)⟩]) c := by
  have sub : ∀ e ∈ es, e ∈ es ++ [(⟨(i : Int), R[q], (st.length : Int)⟩ : S80)] := fun e he => List.mem_append_left _ he
  have up : ∀ {k : Nat} {x : List Int}, st[k]? = some x → (st ++ [m'])[k]? = some x := fun {k x} hk => by
    have := (List.getElem?_eq_some_iff.1 hk).1
    rw [List.getElem?_append_left this]; exact hk
  have down : ∀ {k : Nat} {x : List Int}, k < st.length → (st ++ [m'])[k]? = some x → st[k]? = some x := fun {k x} h1 hk => by
    rwa [List.getElem?_append_left h1] at hk
  have last : (st ++ [m'])[st.length]? = some m' := by simp
  have hlt := h.lt
  refine ⟨⟨up h.g.first, by simp; omega, ?_, ?_, ?_, ?_⟩, by simp; omega, fun x hx => h.fr x (down h.lt hx), by have := h.el; simp; omega, ?_, ?_⟩
  · rw [List.nodup_append]
    refine ⟨h.g.nodup, by simp, ?_⟩
    intro a hx b hb
    rw [List.mem_singleton.1 hb]
    intro e; subst e; exact hn hx
  · intro x hx
    rcases List.mem_append.1 hx with hx | hx
    · exact h.g.vm x hx
    · rw [List.mem_singleton.1 hx]; exact hv
  · intro e he
    rcases List.mem_append.1 he with he | he
    · obtain ⟨a, b, x, y, r, h1, h2, h3, h4, h5⟩ := h.g.edge e he
      exact ⟨a, b, x, y, r, h1, h2, up h3, up h4, h5⟩
    · rw [List.mem_singleton.1 he]
      exact ⟨i, st.length, m, m', R, rfl, rfl, up hm, last, h.fr m hm, List.getElem_mem hq, ha⟩
  · intro j' h1 h2
    by_cases e : j' < st.length
    · obtain ⟨e, he, x⟩ := h.g.reach j' h1 e
      exact ⟨e, sub e he, x⟩
    · have : j' = st.length := by simp at h2; omega
      subst this
      exact ⟨_, List.mem_append_right _ (List.mem_singleton.2 rfl), i, rfl, rfl, h.lt⟩
  · intro hc i' hi' m r h1 h2 t ht
    obtain ⟨e, he, x⟩ := h.fi hc i' hi' m r (down (by omega) h1) h2 t ht
    exact ⟨e, sub e he, x⟩
  · intro hc t ht
    rw [List.take_succ_eq_append_getElem hq] at ht
    rcases List.mem_append.1 ht with ht | ht
    · obtain ⟨e, he, x⟩ := h.fq hc t ht
      exact ⟨e, sub e he, x⟩
    · exact ⟨_, List.mem_append_right _ (List.mem_singleton.2 rfl), rfl, (List.mem_singleton.1 ht).symm⟩
def Res (a0 : ByteArray) (P : List S71) (T : List S74) (r : List (List Int) × List S80 × Bool × Int) : Prop :=
  r.2.2.2 = 0 → GG a0 P T r.1 r.2.1 ∧ r.2.1.length ≤ 1440 ∧ (r.2.2.1 = true → Full a0 P T r.1 r.2.1 r.1.length)
theorem explore_l2 (hN : OkN P T) (hi60 : i < 60) (hR : R.length ≤ 24) (m : List Int) (hMay : MayL P T m R)
    (next : ∀ st es c, I2 a0 P T i R R.length st es c → st[i]? = some m → Dp (fun k => r14_Explore.l1 k 60 ((i + 1 : Nat) : Int) a0 P T st es c) (Res a0 P T)) :
    ∀ (n q : Nat) (st : List (List Int)) (es : List S80) (c : Bool), q + n = R.length → I2 a0 P T i R q st es c → st[i]? = some m → Dp (fun k => r14_Explore.l2 k 60 (i : Int) R (q : Int) a0 P T st es c) (Res a0 P T) := by
  intro n
  induction n with
  | zero =>
    intro q st es c hq h hm
    obtain rfl : q = R.length := by omega
    refine Dp.succ ?_
    simp only [r14_Explore.l2, wrap_succ (show i < 9223372036854775807 by omega)]
    exact Dp.neg (by omega) (next st es c h hm)
  | succ n ih =>
    intro q st es c hq h hm
    have hqr : q < R.length := by omega
    have hlt := h.lt
    have hmem : st[i] = m := (List.getElem?_eq_some_iff.1 hm).2
    have hvm : VM P.length m := h.g.vm m (hmem ▸ List.getElem_mem hlt)
    obtain ⟨t, ht, htl, hrd⟩ := hMay.2 _ (List.getElem_mem hqr)
    have h60 := h.g.len
    refine Dp.succ ?_
    simp only [r14_Explore.l2, rd_get hqr, rdL3 hlt, hmem]
    refine Dp.pos (by omega) (Dp.pos (by omega) (Dp.pos (by omega) (Dp.pos (by omega) ?_)))
    have hA := after_dp a0 hN hvm htl
    rw [← ht] at hA
    refine Dp.bind hA (fun r hr hv => Dp.ite (fun ok => ?_) (fun _ => Dp.const (fun hh => by simp at hh)))
    have haf : Af a0 P T m R[q] r.1 := by
      have e : r = (r.1, true) := by rw [← ok]
      unfold Af; rw [← e]; exact hr
    have hvm' := hv ok hrd
    refine Dp.bind (find_dp st r.1 (by omega) (fun x hx => by have := (h.g.vm x hx).1; have := hN.np; omega)) (fun f _ hf => ?_)
    have j4 : ∀ b : Bool, (b = false → f < 0 → st.length < 60) → Dp (fun k => r14_Explore.j4 k 60 (i : Int) R (q : Int) r.1 f b a0 P T st es c) (Res a0 P T) := by
      intro b hb
      have hel := h.el
      refine Dp.succ ?_
      simp only [r14_Explore.j4, wrap_succ (show q < 9223372036854775807 by omega), rd_get hqr]
      refine Dp.ite (fun _ => ih (q + 1) st es false (by omega) h.drop hm) (fun hb2 => ?_)
      refine Dp.ite (fun hf0 => ?_) (fun hf0 => ?_)
      · have hl := hb (by simpa using hb2) hf0
        rcases hf with ⟨_, hn⟩ | ⟨j, rfl, _⟩
        · refine Dp.pos (by omega) (Dp.pos (by omega) (Dp.pos (by omega) (Dp.pos (by omega) ?_)))
          refine ih (q + 1) _ _ c (by omega) (h.new hqr hm hn hvm' hl haf) ?_
          rw [List.getElem?_append_left hlt]; exact hm
        · omega
      · rcases hf with ⟨rfl, _⟩ | ⟨j, rfl, hj⟩
        · omega
        · refine Dp.pos (by omega) (Dp.pos (by omega) (Dp.pos (by omega) ?_))
          exact ih (q + 1) _ _ c (by omega) (h.old hqr hm hj haf) hm
    refine Dp.ite (fun _ => j4 _ (fun hb _ => ?_)) (fun hf0 => j4 _ (fun _ hh => absurd hh hf0))
    simp only [decide_eq_false_iff_not] at hb
    omega
theorem explore_l1 (hN : OkN P T) : ∀ (n i : Nat) (st : List (List Int)) (es : List S80) (c : Bool), i + n = 60 → GG a0 P T st es → i ≤ st.length → es.length ≤ i * 24 → (c = true → Full a0 P T st es i) → Dp (fun k => r14_Explore.l1 k 60 (i : Int) a0 P T st es c) (Res a0 P T) := by
  intro n
  have done : ∀ (i : Nat) (st : List (List Int)) (es : List S80) (c : Bool), i ≤ 60 → GG a0 P T st es → i = st.length → es.length ≤ i * 24 → (c = true → Full a0 P T st es i) → Dp (fun k => r14_Explore.l1 k 60 (i : Int) a0 P T st es c) (Res a0 P T) := by
    intro i st es c h60 hg hi he hf
    subst hi
    refine Dp.succ ?_
    simp only [r14_Explore.l1]
    exact Dp.neg (by omega) (Dp.const (fun _ => ⟨hg, by show es.length ≤ 1440; omega, hf⟩))
  induction n with
  | zero =>
    intro i st es c hi hg hs he hf
    exact done i st es c (by omega) hg (by have := hg.len; omega) he hf
  | succ n ih =>
    intro i st es c hi hg hs he hf
    by_cases hlt : i < st.length
    · have hm : st[i]? = some st[i] := List.getElem?_eq_getElem hlt
      have hvm := hg.vm _ (List.getElem_mem hlt)
      refine Dp.succ ?_
      simp only [r14_Explore.l1, rdL3 hlt]
      refine Dp.pos (by omega) (Dp.pos (by omega) (Dp.bind (fires_dp a0 hN hvm) (fun R hR hMay => ?_)))
      have hRl : R.length ≤ 24 := by have := hMay.1; have := hN.nt; omega
      refine explore_l2 hN (by omega) hRl st[i] hMay ?_ R.length 0 st es c (by omega) ⟨hg, hlt, fun m hm' => ?_, by omega, hf, fun _ t ht => by simp at ht⟩ hm
      · intro st2 es2 c2 h2 hm2
        refine ih (i + 1) st2 es2 c2 (by omega) h2.g (by have := h2.lt; omega) (by have := h2.el; omega) (fun hc i' hi' m r h3 h4 t ht => ?_)
        by_cases e : i' = i
        · subst e
          have e2 : r = R := Evn.unique h4 (h2.fr m h3)
          subst e2
          exact h2.fq hc t (by rw [List.take_length]; exact ht)
        · exact h2.fi hc i' (by omega) m r h3 h4 t ht
      · rw [hm] at hm'
        obtain rfl := Option.some.inj hm'
        exact hR
    · exact done i st es c (by omega) hg (by omega) he hf
theorem explore_dp (hN : OkN P T) {z : Int} (hC : Evn (fun k => r09_Check.f k a0 P T) (0, z)) : Dp (fun k => r14_Explore.f k a0 P T 60) (Res a0 P T) := by
  unfold r14_Explore.f
  refine Dp.bind hC.dp (fun x _ hx => ?_)
  subst hx
  have hnp := hN.np
  refine Dp.pos rfl (Dp.neg (by decide) (Dp.succ ?_))
  simp only [r14_Explore.j0]
  refine Dp.neg (by decide) ?_
  have key : ∀ (n i : Nat), i + n = P.length → Dp (fun k => r14_Explore.l0 k 60 ((P.map (fun x => x.f1)).take i) (i : Int) a0 P T) (Res a0 P T) := by
    intro n
    induction n with
    | zero =>
      intro i hi
      refine Dp.succ ?_
      simp only [r14_Explore.l0]
      refine Dp.neg (by omega) ?_
      rw [List.take_of_length_le (by simp; omega)]
      refine explore_l1 hN 60 0 _ _ true (by omega) ⟨rfl, by simp, by simp, fun m hm => ?_, (fun e he => by cases he), fun j h1 h2 => by simp at h2; omega⟩ (by omega) (by simp) (fun _ i' hi' => by omega)
      rw [List.mem_singleton.1 hm]
      refine ⟨by simp, fun x hx => ?_⟩
      obtain ⟨p, hp, rfl⟩ := List.mem_map.1 hx
      exact hN.ini p hp
    | succ n ih =>
      intro i hi
      have hil : i < P.length := by omega
      refine Dp.succ ?_
      simp only [r14_Explore.l0, wrap_succ (show i < 9223372036854775807 by omega), rd71 hil]
      refine Dp.pos (by omega) (Dp.pos (by omega) (Dp.pos (by simp; omega) ?_))
      have := ih (i + 1) (by omega)
      rw [List.take_succ_eq_append_getElem (by simpa using hil), List.getElem_map] at this
      exact this
  exact key P.length 0 (by omega)
theorem initial_ev (hN : OkN P T) {z : Int} (hC : Evn (fun k => r09_Check.f k a0 P T) (0, z)) : Evn (fun k => r09_Initial.f k a0 P T) (P.map (fun x => x.f1)) := by
  have hnp := hN.np
  have hV : Evn (fun k => r09_Valid.f k a0 P T) true := hC.bind (Evn.const _)
  have key : ∀ (n i : Nat), i + n = P.length → Evn (fun k => r09_Initial.l0 k ((P.map (fun x => x.f1)).take i) (i : Int) a0 P T) (P.map (fun x => x.f1)) := by
    intro n
    induction n with
    | zero =>
      intro i hi
      refine Evn.succ ?_
      simp only [r09_Initial.l0]
      refine Evn.neg (by omega) ?_
      rw [List.take_of_length_le (by simp; omega)]
      exact Evn.const _
    | succ n ih =>
      intro i hi
      have hil : i < P.length := by omega
      refine Evn.succ ?_
      simp only [r09_Initial.l0, wrap_succ (show i < 9223372036854775807 by omega), rd71 hil]
      refine Evn.pos (by omega) (hV.bind (Evn.pos rfl (Evn.pos (by omega) (Evn.pos (by simp; omega) ?_))))
      have := ih (i + 1) (by omega)
      rw [List.take_succ_eq_append_getElem (by simpa using hil), List.getElem_map] at this
      exact this
  exact key P.length 0 (by omega)
def Rn (a0 : ByteArray) (P : List S71) (T : List S74) (m : List Int) (l : List Int) (m' : List Int) : Prop := match l with
  | [] => m = m'
  | t :: l => ∃ m1 R, VM P.length m ∧ Fr a0 P T m R ∧ t ∈ R ∧ Af a0 P T m t m1 ∧ Rn a0 P T m1 l m'
theorem Rn.snoc {m m1 m2 : List Int} {l : List Int} {t : Int} (h : Rn a0 P T m l m1) {R : List Int} (hv : VM P.length m1) (hf : Fr a0 P T m1 R) (ht : t ∈ R) (ha : Af a0 P T m1 t m2) : Rn a0 P T m (l ++ [t]) m2 := by
  induction l generalizing m with
  | nil => obtain rfl : m = m1 := h; exact ⟨m2, R, hv, hf, ht, ha, rfl⟩
  | cons x l ih =>
    obtain ⟨y, R2, h1, h2, h3, h4, h5⟩ := h
    exact ⟨y, R2, h1, h2, h3, h4, ih h5⟩
theorem fire_ev (hN : OkN P T) {z : Int} (hC : Evn (fun k => r09_Check.f k a0 P T) (0, z)) {m m1 R : List Int} {t : Int} (hv : VM P.length m) (hf : Fr a0 P T m R) (ht : t ∈ R) (ha : Af a0 P T m t m1) : Evn (fun k => r11_Fire.f k a0 P T m t) (m1, 0) := by
  have hnp := hN.np
  have hnt := hN.nt
  obtain ⟨R', hR', hM⟩ := fires_dp a0 hN hv
  obtain rfl : R = R' := Evn.unique hf hR'
  obtain ⟨j, rfl, hj, _⟩ := hM.2 t ht
  have hRl := hM.1
  unfold r11_Fire.f
  refine hC.bind (Evn.pos rfl ((valid_ev hv (by omega)).bind (Evn.pos rfl (Evn.neg (by omega) (Evn.succ ?_)))))
  simp only [r11_Fire.j0]
  refine Evn.neg (by simp; omega) (hf.bind ((has_ev ht (by omega)).bind (Evn.pos rfl (ha.bind (Evn.pos rfl (Evn.const _))))))
theorem run_ev (hN : OkN P T) {z : Int} (hC : Evn (fun k => r09_Check.f k a0 P T) (0, z)) {m m' : List Int} {l : List Int} (hv : VM P.length m) (hl : l.length ≤ 4000000) (h : Rn a0 P T m l m') : Evn (fun k => r11_Run.f k a0 P T m l) (m', 0, 0) := by
  have hnp := hN.np
  unfold r11_Run.f
  refine hC.bind (Evn.pos rfl ((valid_ev hv (by omega)).bind (Evn.pos rfl ((copy_ev m (by have := hv.1; omega)).bind ?_))))
  have key : ∀ (n i : Nat) (m : List Int), i + n = l.length → Rn a0 P T m (l.drop i) m' → Evn (fun k => r11_Run.l0 k l m (i : Int) a0 P T) (m', 0, 0) := by
    intro n
    induction n with
    | zero =>
      intro i m hi h
      rw [List.drop_of_length_le (by omega)] at h
      obtain rfl : m = m' := h
      refine Evn.succ ?_
      simp only [r11_Run.l0]
      exact Evn.neg (by omega) (Evn.const _)
    | succ n ih =>
      intro i m hi h
      have hil : i < l.length := by omega
      rw [List.drop_eq_getElem_cons hil] at h
      obtain ⟨m1, R, h1, h2, h3, h4, h5⟩ := h
      refine Evn.succ ?_
      simp only [r11_Run.l0, wrap_succ (show i < 9223372036854775807 by omega), rd_get hil]
      exact Evn.pos (by omega) (Evn.pos (by omega) ((fire_ev hN hC h1 h2 h3 h4).bind (Evn.pos rfl (ih (i + 1) m1 (by omega) h5))))
  exact key l.length 0 m (by omega) h
theorem row_has {n : Nat} {es : List S80} {s : Int} {e : S80} (he : e ∈ es) (hc : cnt n s e = true) : ∃ e' ∈ row n es s, e'.f1 = e.f1 := by
  have one : ∀ (x : S80) (l : List S80), ∃ p ∈ insE x l, p.f1 = x.f1 := by
    intro x l
    induction l with
    | nil => exact ⟨x, by simp [insE], rfl⟩
    | cons p l ih =>
      simp only [insE]
      split
      · obtain ⟨q, hq, e⟩ := ih
        exact ⟨q, List.mem_cons_of_mem _ hq, e⟩
      · split
        · exact ⟨p, List.mem_cons_self, by assumption⟩
        · exact ⟨x, List.mem_cons_self, rfl⟩
  have keep : ∀ (x : S80) (l : List S80) (q : S80), q ∈ l → q ∈ insE x l := by
    intro x l
    induction l with
    | nil => intro q hq; cases hq
    | cons p l ih =>
      intro q hq
      simp only [insE]
      split
      · rcases List.mem_cons.1 hq with h | h
        · exact h ▸ List.mem_cons_self
        · exact List.mem_cons_of_mem _ (ih q h)
      · split
        · exact hq
        · exact List.mem_cons_of_mem _ hq
  have key : ∀ (l a : List S80), (e ∈ l ∨ ∃ p ∈ a, p.f1 = e.f1) → ∃ p ∈ l.foldl (fun l e => insE e l) a, p.f1 = e.f1 := by
    intro l
    induction l with
    | nil =>
      intro a h
      rcases h with h | h
      · cases h
      · exact h
    | cons x l ih =>
      intro a h
      refine ih (insE x a) ?_
      rcases h with h | ⟨p, hp, e1⟩
      · rcases List.mem_cons.1 h with h | h
        · subst h; exact .inr (one e a)
        · exact .inl h
      · exact .inr ⟨p, keep x a p hp, e1⟩
  exact key _ [] (.inl (List.mem_filter.2 ⟨he, hc⟩))
variable {a0 : ByteArray} {P : List S71} {T : List S74} {st : List (List Int)} {es : List S80}
theorem GG.cnt (h : GG a0 P T st es) {e : S80} (he : e ∈ es) : ∃ i j : Nat, i < st.length ∧ j < st.length ∧ e.f0 = (i : Int) ∧ e.f2 = (j : Int) ∧ Q.cnt st.length (i : Int) e = true := by
  obtain ⟨i, j, m, m', r, h1, h2, h3, h4, _⟩ := h.edge e he
  have hi := (List.getElem?_eq_some_iff.1 h3).1
  have hj := (List.getElem?_eq_some_iff.1 h4).1
  refine ⟨i, j, hi, hj, h1, h2, ?_⟩
  simp only [Q.cnt, Bool.and_eq_true, decide_eq_true_eq]
  omega
theorem GG.e_of (h : GG a0 P T st es) {e : S80} (he : e ∈ es) {i j : Nat} (hi : e.f0 = (i : Int)) (hj : e.f2 = (j : Int)) : i < st.length ∧ j < st.length ∧ E (tab st.length es) i j := by
  obtain ⟨i', j', hi', hj', h1, h2, hc⟩ := h.cnt he
  obtain rfl : i = i' := by omega
  obtain rfl : j = j' := by omega
  obtain ⟨e', he', ht⟩ := row_has he hc
  obtain ⟨hm, hc'⟩ := mem_row he'
  refine ⟨hi', hj', e', by rw [tab_get hi']; exact he', ?_⟩
  obtain ⟨a, b, m, m', r, x1, x2, x3, x4, x5, x6, x7⟩ := h.edge e he
  obtain ⟨a', b', n, n', r', y1, y2, y3, y4, y5, y6, y7⟩ := h.edge e' hm
  have : e'.f0 = (i : Int) := by simp only [Q.cnt, Bool.and_eq_true, decide_eq_true_eq] at hc'; exact hc'.2
  obtain rfl : a = a' := by omega
  rw [x3] at y3
  obtain rfl := Option.some.inj y3
  rw [ht] at y7
  have e3 := congrArg Prod.fst (Evn.unique x7 y7)
  simp only at e3
  subst e3
  obtain ⟨z1, z2⟩ := List.getElem?_eq_some_iff.1 x4
  obtain ⟨z3, z4⟩ := List.getElem?_eq_some_iff.1 y4
  have := (List.getElem_inj h.nodup).1 (z2.trans z4.symm)
  omega
theorem GG.walk (h : GG a0 P T st es) : ∀ (n j : Nat), j ≤ n → j < st.length → ∃ k, Walk st.length (E (tab st.length es)) k 0 j := by
  intro n
  induction n with
  | zero =>
    intro j hj hl
    obtain rfl : j = 0 := by omega
    exact ⟨0, .nil 0 hl⟩
  | succ n ih =>
    intro j hj hl
    by_cases h0 : j = 0
    · subst h0; exact ⟨0, .nil 0 hl⟩
    · obtain ⟨e, he, i, h1, h2, h3⟩ := h.reach j (by omega) hl
      obtain ⟨k, hk⟩ := ih i (by omega) (by omega)
      have hE := h.e_of he h2 h1
      exact ⟨k + 1, hk.snoc hl hE.2.2⟩
theorem GG.run (h : GG a0 P T st es) {s z : Nat} {l : List Int} (hp : Path (tab st.length es) s l z) : ∀ {m m' : List Int}, st[s]? = some m → st[z]? = some m' → Rn a0 P T m l m' := by
  induction hp with
  | nil s =>
    intro m m' h1 h2
    rw [h1] at h2
    exact Option.some.inj h2
  | cons s e t l z he ht hp ih =>
    intro m m' h1 h2
    have hs := (List.getElem?_eq_some_iff.1 h1).1
    rw [tab_get hs] at he
    obtain ⟨hm, hc⟩ := mem_row he
    obtain ⟨i, j, x, y, r, x1, x2, x3, x4, x5, x6, x7⟩ := h.edge e hm
    have : e.f0 = (s : Int) := by simp only [Q.cnt, Bool.and_eq_true, decide_eq_true_eq] at hc; exact hc.2
    obtain rfl : s = i := by omega
    obtain rfl : t = j := by omega
    rw [h1] at x3
    obtain rfl := Option.some.inj x3
    exact ⟨y, r, h.vm m ((List.getElem?_eq_some_iff.1 h1).2 ▸ List.getElem_mem hs), x5, x6, x7, ih x4 h2⟩
theorem runs_law (a0 : ByteArray) (P : List S71) (T : List S74) (state t : Int) : Evn (fun k => l16_WitnessRuns.f k a0 P T state t) true := by
  have good : ∀ b : Bool, b = true → Evn (fun k => l16_WitnessRuns.j0 k state t b a0 P T) true := by
    intro b hb
    subst hb
    refine Evn.succ ?_
    simp only [l16_WitnessRuns.j0]
    exact Evn.pos (by simp) (alive_ev.bind (Evn.const _))
  unfold l16_WitnessRuns.f
  obtain ⟨b, hL, hS⟩ := light_dp a0 P T
  refine hL.bind ?_
  cases b with
  | false => exact Evn.neg (by simp) (good _ rfl)
  | true =>
  refine Evn.pos rfl ?_
  obtain ⟨⟨e, z⟩, hC, hN⟩ := check_dp a0 (hS rfl)
  have hV : Evn (fun k => r09_Valid.f k a0 P T) (e == 0) := hC.bind (Evn.const _)
  refine hV.bind ?_
  by_cases he' : ¬ e = 0
  · exact good _ (by simp [he'])
  obtain rfl : e = 0 := Decidable.not_not.1 he'
  clear he'
  have hN := hN rfl
  refine Evn.succ ?_
  simp only [l16_WitnessRuns.j0]
  refine Evn.neg (by simp) ?_
  obtain ⟨⟨st, es, c, e⟩, hX, hR⟩ := explore_dp hN hC
  refine hX.bind ?_
  by_cases he' : ¬ e = 0
  · exact Evn.neg he' (alive_ev.bind (Evn.const _))
  obtain rfl : e = 0 := Decidable.not_not.1 he'
  clear he'
  obtain ⟨hG, hel, hF⟩ := hR rfl
  replace hG : GG a0 P T st es := hG
  have hl60 : st.length ≤ 60 := hG.len
  have h0l : 0 < st.length := (List.getElem?_eq_some_iff.1 hG.first).1
  have hfirst := hG.first
  revert hfirst
  have hI := initial_ev hN hC
  have hnp := hN.np
  refine fun hfirst => Evn.pos rfl (hI.bind ?_)
  have hv0 : VM P.length (P.map (fun x => x.f1)) := hG.vm _ ((List.getElem?_eq_some_iff.1 hfirst).2 ▸ List.getElem_mem h0l)
  revert hfirst hv0
  generalize P.map (fun x => x.f1) = first
  intro hfirst hv0
  have hT := tab_ok (n := st.length) (es := es) (by omega) (by simp only at hel; omega)
  simp only at hel
  have p4 : Evn (fun k => l16_WitnessRuns.j4 k t first a0 P T st es c) true := by
    obtain ⟨l, ok, hFd, h1, _⟩ := fires_both st es c (by omega) (by omega) t
    have hsh := hFd.short hT
    refine Evn.succ ?_
    simp only [l16_WitnessRuns.j4]
    refine h1.bind ?_
    cases ok with
    | false => exact Evn.neg (by simp) (alive_ev.bind (Evn.const _))
    | true =>
      obtain ⟨s, y, hs, hsl, hyl, hp, hg⟩ := hFd.way rfl
      obtain rfl : s = 0 := by omega
      have hm : st[y]? = some st[y] := List.getElem?_eq_getElem hyl
      have hrun := hG.run hp hfirst hm
      obtain ⟨e, heT, het⟩ := List.any_eq_true.1 hg
      rw [tab_get hyl] at heT
      obtain ⟨hem, hec⟩ := mem_row heT
      obtain ⟨i, j, x, x', r, x1, x2, x3, x4, x5, x6, x7⟩ := hG.edge e hem
      have : e.f0 = (y : Int) := by simp only [Q.cnt, Bool.and_eq_true, decide_eq_true_eq] at hec; exact hec.2
      obtain rfl : y = i := by omega
      rw [hm] at x3
      obtain rfl := Option.some.inj x3
      have het2 : e.f1 = t := by simpa using het
      rw [het2] at x6 x7
      have hrun2 := hrun.snoc (hG.vm _ (List.getElem_mem hyl)) x5 x6 x7
      refine Evn.pos rfl ?_
      simp only [if_true]
      have hlen : (l ++ [t]).length = l.length + 1 := by simp
      have hw : wrap64 (((l ++ [t]).length : Int) - 1) = (l.length : Int) := by rw [hlen]; unfold wrap64; omega
      have hrd : rd (l ++ [t]) (l.length : Int) = t := by
        rw [rd_get (by rw [hlen]; omega)]; simp
      refine (run_ev hN hC hv0 (by rw [hlen]; omega) hrun2).bind ?_
      refine Evn.neg (by simp) (Evn.neg (by omega) ?_)
      rw [hw]
      refine Evn.pos (by omega) (Evn.pos (by omega) (Evn.pos hrd (alive_ev.bind (Evn.const _))))
  have p2 : Evn (fun k => l16_WitnessRuns.j2 k t first a0 P T st es c) true := by
    obtain ⟨l, ok, hFd, h1, _⟩ := dead_both st es c (by omega) (by omega)
    have hsh := hFd.short hT
    refine Evn.succ ?_
    simp only [l16_WitnessRuns.j2]
    refine h1.bind ?_
    have skip : Evn (fun k => l16_WitnessRuns.j3 k t first l false a0 P T st es c) true := by
      refine Evn.succ ?_
      simp only [l16_WitnessRuns.j3]
      exact Evn.neg (by simp) p4
    cases ok with
    | false => exact Evn.neg (by simp) skip
    | true =>
      refine Evn.pos rfl ?_
      cases c with
      | false => exact skip
      | true =>
      obtain ⟨s, y, hs, hsl, hyl, hp, hg⟩ := hFd.way rfl
      obtain rfl : s = 0 := by omega
      have hm : st[y]? = some st[y] := List.getElem?_eq_getElem hyl
      have hrun := hG.run hp hfirst hm
      have hvy := hG.vm _ (List.getElem_mem hyl)
      obtain ⟨r, hr, hMay⟩ := fires_dp a0 hN hvy
      rw [tab_get hyl] at hg
      have hempty : row st.length es (y : Int) = [] := by
        have : ((row st.length es (y : Int)).length : Int) = 0 := by simpa using hg
        exact List.length_eq_zero_iff.1 (by omega)
      have hr0 : r = [] := by
        cases r with
        | nil => rfl
        | cons x r =>
          exfalso
          obtain ⟨e, he, e0, e1⟩ := hF rfl y hyl st[y] _ hm hr x List.mem_cons_self
          obtain ⟨i, j, _, _, i0, _, hcn⟩ := hG.cnt he
          obtain rfl : y = i := by omega
          obtain ⟨e', he', _⟩ := row_has he hcn
          rw [hempty] at he'
          cases he'
      subst hr0
      refine Evn.succ ?_
      simp only [l16_WitnessRuns.j3]
      refine Evn.pos (by simp) ((run_ev hN hC hv0 (by omega) hrun).bind (Evn.neg (by simp) ?_))
      have hD : Evn (fun k => r11_Dead.f k a0 P T st[y]) true := by
        unfold r11_Dead.f r11_Good.f
        have hgood : Evn (fun k => (r09_Check.f k a0 P T).bind fun bt102 => (if bt102.1 = 0 then ((r04_Valid.f k st[y] (P.length : Int)).bind fun t104 => (some t104)) else (some false))) true :=
          hC.bind (Evn.pos rfl ((valid_ev hvy (by omega)).bind (Evn.const _)))
        exact hgood.bind (Evn.pos rfl (hr.bind (Evn.const _)))
      exact hD.bind (Evn.pos rfl p4)
  obtain ⟨l, ok, hFd, h1, _⟩ := between_both st es c (by omega) (by omega) 0 state
  have hsh := hFd.short hT
  have hok : ok = decide (0 ≤ state ∧ state < (st.length : Int)) := by
    rw [Bool.eq_iff_iff, decide_eq_true_eq]
    constructor
    · intro h
      obtain ⟨s, y, hs, hsl, hyl, hp, hg⟩ := hFd.way h
      have : (y : Int) = state := by simpa using hg
      omega
    · intro h
      obtain ⟨y, rfl⟩ : ∃ y : Nat, state = (y : Int) := ⟨state.toNat, by omega⟩
      obtain ⟨d, ⟨hd, hL, hle⟩, _⟩ := distances_ev hT (fun i => some ((i : Int) == (y : Int))) (fun i => ((i : Int) == (y : Int))) (fun i hi => rfl)
      obtain ⟨k, hk⟩ := hG.walk y y (by omega) (by omega)
      have := hL.le hk (by simp)
      exact ((hFd.len 0 (by simp) h0l _ hL).2).2 this.1
  have hTo : Evn (fun k => witness_To.f k st es c state) (l, ok) := h1.bind (Evn.const _)
  have p1 : ∀ b : Bool, b = false → Evn (fun k => l16_WitnessRuns.j1 k state t first l ok b a0 P T st es c) true := by
    intro b hb
    subst hb
    refine Evn.succ ?_
    simp only [l16_WitnessRuns.j1]
    refine Evn.neg (by simp) ?_
    cases hk : ok with
    | false => exact Evn.neg (by simp) p2
    | true =>
      subst hk
      obtain ⟨s, y, hs, hsl, hyl, hp, hg⟩ := hFd.way rfl
      obtain rfl : s = 0 := by omega
      have hy : (y : Int) = state := by simpa using hg
      subst hy
      have hm : st[y]? = some st[y] := List.getElem?_eq_getElem hyl
      have hrun := hG.run hp hfirst hm
      refine Evn.pos rfl ((run_ev hN hC hv0 (by omega) hrun).bind (Evn.neg (by simp) (Evn.pos (by omega) (Evn.pos (by omega) ?_))))
      rw [rdL3 hyl]
      have hvy := hG.vm _ (List.getElem_mem hyl)
      have := same2_ev st[y] st[y] (by have := hvy.1; omega)
      rw [show decide (st[y] = st[y]) = true by simp] at this
      exact this.bind (Evn.pos rfl p2)
  refine hTo.bind ?_
  by_cases hs : state ≥ 0
  · refine Evn.pos hs (p1 _ ?_)
    rw [hok]
    have : decide (0 ≤ state ∧ state < (st.length : Int)) = decide (state < (st.length : Int)) := by
      rw [Bool.eq_iff_iff, decide_eq_true_eq, decide_eq_true_eq]; omega
    rw [this]; simp
  · refine Evn.neg hs (p1 _ ?_)
    rw [hok]
    have : decide (0 ≤ state ∧ state < (st.length : Int)) = false := by rw [decide_eq_false_iff_not]; omega
    rw [this]; rfl
end Go.Proofs.Ytfnjbgggmddgpaa.Q
end
