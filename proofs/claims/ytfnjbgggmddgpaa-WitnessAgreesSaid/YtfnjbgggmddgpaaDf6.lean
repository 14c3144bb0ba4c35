/- Part 6 of a proof: Df. Words and walks that a program printed for this claim stand here without what the claim does not use. -/
import Derived.RangeFuncBox
import Derived.Test.YtfnjbgggmddgpaaDf2
import Derived.Test.YtfnjbgggmddgpaaDf3
import Derived.Test.YtfnjbgggmddgpaaDf5
section
set_option linter.unusedVariables false
set_option linter.unusedSimpArgs false
namespace Go.Proofs.Ytfnjbgggmddgpaa.Q
open Go.RowKit Go.Proofs.Fn Go.Proofs.YtfnjbgggmddgpaaW.PrintWords Go.Proofs.YtfnjbgggmddgpaaW.PrintLast Go.Proofs.YtfnjbgggmddgpaaW.PrintMore
attribute [local go_sem] max2_int min2_int max_two min_two max_three min_three max_four min_four
attribute [local go_sem] Oper.semAt_some
theorem upon_in {F : Fence} {n : Nat} {P : Program} {o : Oper} {a : Act} {next : Act → World → Prop} {Q : Exit → Act → World → Prop} {r : Result Next} (h : o.upon P a next Q r)
    (h1 : ∀ f args w', r ≠ .ok (.enter f args) w') (h2 : ∀ row args w', r ≠ .ok (.row row args) w') : o.uponIn F n P a next Q r := by
  cases r with
  | ok x w => cases x <;> first | exact h | exact absurd rfl (h1 _ _ _) | exact absurd rfl (h2 _ _ _) | exact h.elim
  | halt x w => cases x <;> first | exact h | exact h.elim
theorem N_appendIn {F : Fence} {n : Nat} {P : Program} {ops : Array Oper} {Q : Exit → Act → World → Prop} {rest : List Oper} {o : Oper} {a : Act} {α : Type} (d : Kd α) {w0 W : World} (base : Nat) (hgd : o.guard = none) (s x : Operand) (t e : TypeId) (z : Value) (bytes : Nat)
    (ho : o.op = .call { callee := .builtin .append, args := #[s, x], argTypes := #[t, t] })
    (ht : P.underlying t = some (.slice e)) (hinfo : (P.info? e).map (fun i => (i.zero, i.size, i.bytes)) = some (some z, d.sz, bytes)) (hz : z.cells.size = d.sz) (hs0 : 0 < d.sz) (hb0 : 0 < bytes)
    (v : Value) (xs : List α) (p : α) (cs : List Value) (ok okp : Nat → Prop) (hs : a.eval s = v) (hx : a.eval x = .slice (some ⟨W.heap.size, 0, none⟩) 1 1) (hp : Kd.FK d W okp p cs) (hokp : ∀ k, okp k → ok k ∧ some k ≠ v.ownBlock) (hfresh : ∀ k, W.heap.size ≤ k → ok k)
    (HO : Kd.N d e W base ok v xs) (HB : Below base w0 W) (hbase : base ≤ W.heap.size) (hl : (xs.length + 1) * bytes ≤ 140737488355328)
    (h : ∀ v1 w1, Kd.N d e w1 base ok v1 (xs ++ [p]) → Below base w0 w1 → W.grownBy w1 v.ownBlock → (v1.ownBlock = v.ownBlock ∨ ∃ b, v1.ownBlock = some b ∧ W.heap.size ≤ b) → wpListIn F n P ops Q rest (a.put o.dst v1) w1) :
    wpListIn F n P ops Q (o :: rest) a (W.alloc (.cells cs.toArray e)) := by
  refine wpListIn_plain hgd fun K hK => ?_
  have hw : Region.wanted o (yielded ops a.tmps) = true := by simp [Region.wanted, hgd]
  have h1 := Kd.N_append_step (P := P) (ops := ops) (Q := Q) (Kc := K) d base hw s x t e z bytes ho ht hinfo hz hs0 hb0 v xs p cs ok okp hs hx hp hokp hfresh HO HB hbase hl (fun v1 w1 a1 a2 a3 a4 => hK _ _ (h v1 w1 a1 a2 a3 a4))
  rw [if_pos hw] at h1
  unfold Oper.wp at h1
  unfold Oper.wpIn
  refine ⟨?_, ?_⟩
  · simp [Oper.about, ho, resolve, Target.leads, Sem.run_pure]
  · rw [Oper.semAt_plain F _ _ (by rw [ho]; intro c hc'; cases hc')]
    refine upon_in h1 ?_ ?_
    · intro f args w' hq_
      cases hr : (Builtin.append_ #[t, t] o.type #[v, .slice (some ⟨W.heap.size, 0, none⟩) 1 1]).run P (W.alloc (.cells cs.toArray e)) <;> simp [execOp, ho, resolve, invoke, builtin, hs, hx, hr, Result.andThen] at hq_
    · intro f args w' hq_
      cases hr : (Builtin.append_ #[t, t] o.type #[v, .slice (some ⟨W.heap.size, 0, none⟩) 1 1]).run P (W.alloc (.cells cs.toArray e)) <;> simp [execOp, ho, resolve, invoke, builtin, hs, hx, hr, Result.andThen] at hq_
def JL (base bo l D : Nat) (rec : LoopState → Option Code → Loop) (s : Bool) (o : List (List Int)) (W : World) (M ok : Nat → Prop) : Prop :=
  ∃ v, W.heap[bo]? = some (.cells #[v] 22 (0, 0)) ∧ W.heap[l]? = some (.loop (rec (if s then .done else .ready) (if s then some (.exit 0) else none))) ∧ W.heap[D]? = some (.deferred (some [])) ∧
    Kd.N (Kd.slice 3 (Kd.int .i64)) 28 W base (fun k => ok k ∧ k ≠ bo ∧ k ≠ l ∧ k ≠ D) v o ∧ ok bo ∧ ok l ∧ ok D ∧ ∀ k, M k ↔ (k = bo ∨ k = l ∨ k = D ∨ v.ownBlock = some k)
theorem JL.jok (base bo l D : Nat) (rec : LoopState → Option Code → Loop) : JOK (JL base bo l D rec) where
  step := by
    rintro s o W W' M ok ⟨v, h1, h2, h3, h4, h5, h6, h7, h8⟩ hs hm
    exact ⟨v, (hm _ h5 (Array.getElem?_eq_some_iff.1 h1).1).trans h1, (hm _ h6 (Array.getElem?_eq_some_iff.1 h2).1).trans h2, (hm _ h7 (Array.getElem?_eq_some_iff.1 h3).1).trans h3, Kd.N_step h4 (fun k hk hlt => hm k hk.1 hlt), h5, h6, h7, h8⟩
  mono := by
    rintro s o W M ok ok' ⟨v, h1, h2, h3, h4, h5, h6, h7, h8⟩ hm
    exact ⟨v, h1, h2, h3, Kd.N_mono h4 (fun k hk => ⟨hm k hk.1, hk.2⟩), hm _ h5, hm _ h6, hm _ h7, h8⟩
  bound := by
    rintro s o W M ok ⟨v, h1, h2, h3, h4, h5, h6, h7, h8⟩
    exact ⟨v, h1, h2, h3, Kd.N_mono (Kd.N_bound h4) (fun k hk => ⟨⟨hk.1.1, hk.2⟩, hk.1.2⟩), ⟨h5, (Array.getElem?_eq_some_iff.1 h1).1⟩, ⟨h6, (Array.getElem?_eq_some_iff.1 h2).1⟩, ⟨h7, (Array.getElem?_eq_some_iff.1 h3).1⟩, h8⟩
  mu := by
    rintro s o W M ok ⟨v, h1, h2, h3, h4, h5, h6, h7, h8⟩ k hk
    rcases (h8 k).1 hk with rfl | rfl | rfl | h
    · exact ⟨h5, (Array.getElem?_eq_some_iff.1 h1).1⟩
    · exact ⟨h6, (Array.getElem?_eq_some_iff.1 h2).1⟩
    · exact ⟨h7, (Array.getElem?_eq_some_iff.1 h3).1⟩
    · exact ⟨(h4.1 k h).1, Kd.N_lt h4 k h⟩
theorem seq52 (A : Option Addr) (n c : Nat) (kk : Int) (W : World) : Calls Try.prog 52 #[.slice A n c, .int .i64 kk] W fun e W' => e = .returned (.func (.func 65) #[] #[.pointer (some ⟨W.heap.size + 1, 0, none⟩), .pointer (some ⟨W.heap.size, 0, none⟩)]) ∧ W' = (W.alloc (.cells #[.slice A n c] 56)).alloc (.cells #[.int .i64 kk] 3) := by
  go_enter Try.func52, Try.ntmps52
  go_wp2
  go_ret
  exact ⟨rfl, rfl⟩
def witness_Language.f (k : Nat) (l0_0 : List (List Int)) (l0_1 : List S80) (a0_2 : Bool) (a1 : Int) : Option (List (List Int)) :=
  if a1 < 0 ∨ a1 > 6 ∨ l0_0.length = 0 then some [] else (witness_steps.f k l0_0 l0_1 a0_2).bind fun T => if okTab T = true then some (lang T (a1.toNat + 1) [([], 0)] []).1 else none
def PB (w : World) (bo : Nat) (o : List (List Int)) (x : List Int) (v : Value) (okN : Nat → Prop) (W : World) : Exit → Act → World → Prop
  | .normal, _, W' => o.length ≠ 5000 ∧ ∃ v', W'.heap[bo]? = some (.cells #[v'] 22 (0, 0)) ∧ Kd.N (Kd.slice 3 (Kd.int .i64)) 28 W' w.heap.size okN v' (o ++ [x]) ∧ W.heap.size ≤ W'.heap.size ∧ (∀ k, k < W.heap.size → k ≠ bo → some k ≠ v.ownBlock → W'.heap[k]? = W.heap[k]?) ∧ Below w.heap.size w W' ∧ (v'.ownBlock = v.ownBlock ∨ ∃ b, v'.ownBlock = some b ∧ W.heap.size ≤ b)
  | .exit 0, _, W' => o.length = 5000 ∧ W' = W
  | _, _, _ => False
theorem range65 {assign body : Code} {Q : Exit → Act → World → Prop} {a : Act} (w W0 : World) (bo : Nat) (T : List (List S66)) (hT : okTab T = true) (kk : Int) (hkk : 0 ≤ kk ∧ kk ≤ 6) (bk bg : Nat) (Ag : Option Addr) (cg : Nat)
    (hg : a.eval (.tmp 22) = .func (.func 65) #[] #[.pointer (some ⟨bk, 0, none⟩), .pointer (some ⟨bg, 0, none⟩)])
    (hbo : W0.heap[bo]? = some (.cells #[.slice none 0 0] 22 (0, 0))) (hB : Below w.heap.size w W0) (hbw : w.heap.size ≤ bo)
    (hG : Foot (GB T kk bk bg Ag cg) W0 (fun k => k ≠ bo)) (a₁ : Value → Act)
    (hassign : ∀ (l : Nat) (x : Value) (W : World) (K : Act → World → Prop), K (a₁ x) W → assign.wpIn (Fence.wide.inRound l) 0 Try.prog (Exit.then K (fun _ _ _ => False)) { tmps := ((#[23] : Array Tmp).zip #[x]).foldl (fun t (p, v) => t.setIfInBounds p v) a.tmps, defers := [] } W)
    (hbody : ∀ (l : Nat) (o : List (List Int)) (v : Value) (W : World) (okN okx : Nat → Prop) (x : List Int) (A : Option Addr) (c : Nat), W.heap[bo]? = some (.cells #[v] 22 (0, 0)) → Kd.N (Kd.slice 3 (Kd.int .i64)) 28 W w.heap.size okN v o → (∀ k, okN k → k ≠ bo) → (∀ k, W.heap.size ≤ k → okN k) → Kd.F (Kd.int .i64) W okx A x.length x → x.length ≤ c → (∀ k, okx k → okN k ∧ some k ≠ v.ownBlock) → o.length ≤ 5000 → Below w.heap.size w W →
      body.wpIn (Fence.wide.inRound l) 0 Try.prog (PB w bo o x v okN W) (a₁ (.slice A x.length c)) W)
    (hQ : ∀ (v : Value) (W : World) (e : Exit), (e = .normal ∨ e = .exit 0) → W.heap[bo]? = some (.cells #[v] 22 (0, 0)) → Kd.N (Kd.slice 3 (Kd.int .i64)) 28 W w.heap.size (fun k => k ≠ W0.heap.size) v (lang T (kk.toNat + 1) [([], 0)] []).1 → W.heap[W0.heap.size]? = some (.deferred (some [])) → Below w.heap.size w W →
      Q e { a with defers := { target := .collected W0.heap.size, args := #[] } :: a.defers } W) :
    (Code.rangeFunc (.tmp 22) #[23] assign body).wp Try.prog Q a W0 := by
  refine (wpIn_wide (n := 1)).mp (wpIn_rangeFunc ?_)
  intro fn hfn
  obtain ⟨rec, hrec⟩ : ∃ rec : LoopState → Option Code → Loop, rec = fun st pe => { state := st, pending := pe, fn, tmps := a.tmps, params := #[23], assign, body, defers := W0.heap.size } := ⟨_, rfl⟩
  obtain ⟨W1, hW1⟩ : ∃ W1, (W0.alloc (.deferred (some []))).alloc (.loop (rec .ready none)) = W1 := ⟨_, rfl⟩
  have hlb : bo < W0.heap.size := (Array.getElem?_eq_some_iff.1 hbo).1
  have hL1 : W1.heap[W0.heap.size + 1]? = some (.loop (rec .ready none)) := by
    rw [← hW1]; have := World.alloc_heap_new (W0.alloc (.deferred (some []))) (.loop (rec .ready none)); rwa [World.size_alloc] at this
  have hK1 : W1.heap[W0.heap.size]? = some (.deferred (some [])) := by
    rw [← hW1]; exact (Below.heap_alloc _ _ _ (by simp)).trans (World.alloc_heap_new W0 _)
  have hb01 : Below W0.heap.size W0 W1 := by rw [← hW1]; exact ((Below.refl _ W0).alloc (Nat.le_refl _) _).alloc (by simp) _
  have hB1 : Below w.heap.size w W1 := below_then hB hB.size hb01
  refine ⟨W0.heap.size + 1, [{ target := .collected W0.heap.size, args := #[] }], W1, { target := .fn (.func 65) #[.pointer (some ⟨bk, 0, none⟩), .pointer (some ⟨bg, 0, none⟩)], args := #[.func (.yield (W0.heap.size + 1)) #[] #[]] }, W1, 65,
    #[.func (.yield (W0.heap.size + 1)) #[] #[]] ++ #[.pointer (some ⟨bk, 0, none⟩), .pointer (some ⟨bg, 0, none⟩)], W1, ?_, ?_, ?_, ?_, (fun h => by cases h), ?_⟩
  · rw [← hW1, hrec]; exact run_enterLoop_outer _ _ _ _ _
  · simp only [resolve, hg]
    simp [go_sem]
  · intro f' hf'; trivial
  · simp [invoke, go_sem, enters_ Try.func65 (by kernel_rfl) rfl]
  · refine callsIn_wide.2 ?_
    have hY : YH (JL w.heap.size bo (W0.heap.size + 1) W0.heap.size rec) w (W0.heap.size + 1) 0 := by
      intro o W M ok okx x A c ho5 hj hBW hF hxc hMx
      obtain ⟨v, h1, h2, h3, h4, h5, h6, h7, h8⟩ := hj
      simp only [Bool.false_eq_true, if_false] at h2
      have hb1 := (Array.getElem?_eq_some_iff.1 h1).1
      have hb2 := (Array.getElem?_eq_some_iff.1 h2).1
      have hb3 := (Array.getElem?_eq_some_iff.1 h3).1
      have hy := run_yield (P := Try.prog) (args := #[.slice A x.length c]) h2 (by rw [hrec]; rfl)
      rw [hrec] at hy
      refine ⟨fn, _, assign, body, hy, roundIn_of_wpIn hfn ?_⟩
      refine hassign (W0.heap.size + 1) (.slice A x.length c) W _ ?_
      refine ⟨_, run_beginRound h2 (by rw [hrec]), ?_⟩
      obtain ⟨W2, hW2⟩ : ∃ W2, W.putObj (W0.heap.size + 1) (.loop { rec .ready none with state := .busy }) = W2 := ⟨_, rfl⟩
      rw [hW2]
      have hs2 : W2.heap.size = W.heap.size := by rw [← hW2]; simp
      have h22 : W2.heap[W0.heap.size + 1]? = some (.loop { rec .ready none with state := .busy }) := by rw [← hW2]; exact World.putObj_heap_same hb2
      have ho2 : ∀ k, k ≠ W0.heap.size + 1 → W2.heap[k]? = W.heap[k]? := fun k hk => by rw [← hW2]; exact World.putObj_heap_other hk
      have hB2 : Below w.heap.size w W2 := by rw [← hW2]; exact hBW.grown (grownBy_putObj' _ _ _) hBW.size (fun k e => by cases e; have := hB.size; omega)
      clear hW2
      have hvl : some (W0.heap.size + 1) ≠ v.ownBlock := fun e => (h4.1 _ e.symm).2.2.1 rfl
      have hvb : some bo ≠ v.ownBlock := fun e => (h4.1 _ e.symm).2.1 rfl
      have hvD : some W0.heap.size ≠ v.ownBlock := fun e => (h4.1 _ e.symm).2.2.2 rfl
      have hx1 : ∀ k, okx k → k ≠ bo ∧ k ≠ W0.heap.size + 1 ∧ k ≠ W0.heap.size ∧ some k ≠ v.ownBlock := fun k hk =>
        ⟨fun e => hMx k ((h8 k).2 (.inl e)) hk, fun e => hMx k ((h8 k).2 (.inr (.inl e))) hk, fun e => hMx k ((h8 k).2 (.inr (.inr (.inl e)))) hk, fun e => hMx k ((h8 k).2 (.inr (.inr (.inr e.symm)))) hk⟩
      have hN2 : Kd.N (Kd.slice 3 (Kd.int .i64)) 28 W2 w.heap.size (fun k => (ok k ∨ okx k ∨ W.heap.size ≤ k) ∧ k ≠ bo ∧ k ≠ W0.heap.size + 1 ∧ k ≠ W0.heap.size) v o := Kd.N_mono (Kd.N_step h4 (fun k hk _ => ho2 k hk.2.2.1)) (fun k hk => ⟨.inl hk.1, hk.2⟩)
      have hF2 : Kd.F (Kd.int .i64) W2 okx A x.length x := Kd.F_step hF (fun k hk _ => ho2 k (hx1 k hk).2.1)
      refine wpIn_mono (hbody (W0.heap.size + 1) o v W2 _ okx x A c ((ho2 bo (by omega)).trans h1) hN2 (fun k hk => hk.2.1) (fun k hk => ⟨.inr (.inr (by omega)), by omega, by omega, by omega⟩) hF2 hxc (fun k hk => ⟨⟨.inr (.inl hk), (hx1 k hk).1, (hx1 k hk).2.1, (hx1 k hk).2.2.1⟩, (hx1 k hk).2.2.2⟩) ho5 hB2) ?_
      rintro e a3 W3 hp
      cases e with
      | normal =>
        obtain ⟨hne, v', b1, b2, b3, b4, b5, b6⟩ := hp
        have hl3 : W3.heap[W0.heap.size + 1]? = some (.loop { rec .ready none with state := .busy }) := (b4 _ (by omega) (by omega) hvl).trans h22
        have hb3l := (Array.getElem?_eq_some_iff.1 hl3).1
        refine ⟨_, _, run_endRound none hl3, fun k => k = bo ∨ k = W0.heap.size + 1 ∨ k = W0.heap.size ∨ v'.ownBlock = some k, fun k => ok k ∨ okx k ∨ W.heap.size ≤ k, ?_, fun _ h => h, ⟨by simp; omega, ?_⟩, b5.grown (grownBy_putObj' _ _ _) b5.size (fun k e => by cases e; have := hB.size; omega), .inl ⟨hne, rfl, v', ?_, ?_, ?_, ?_, .inl h5, .inl h6, .inl h7, fun _ => Iff.rfl⟩⟩
        · intro k hk
          rcases hk with h | h | h | h
          · exact .inl ((h8 k).2 (.inl h))
          · exact .inl ((h8 k).2 (.inr (.inl h)))
          · exact .inl ((h8 k).2 (.inr (.inr (.inl h))))
          · rcases b6 with h' | ⟨b, h', hle⟩
            · exact .inl ((h8 k).2 (.inr (.inr (.inr (h' ▸ h)))))
            · rw [h'] at h; injection h with h; exact .inr (by omega)
        · intro k hk hnM
          have n1 : k ≠ bo := fun e => hnM ((h8 k).2 (.inl e))
          have n2 : k ≠ W0.heap.size + 1 := fun e => hnM ((h8 k).2 (.inr (.inl e)))
          have n3 : some k ≠ v.ownBlock := fun e => hnM ((h8 k).2 (.inr (.inr (.inr e.symm))))
          exact (World.putObj_heap_other n2).trans ((b4 k (by omega) n1 n3).trans (ho2 k n2))
        · exact (World.putObj_heap_other (by omega)).trans b1
        · rw [World.putObj_heap_same hb3l, hrec]; rfl
        · exact (World.putObj_heap_other (by omega)).trans ((b4 _ (by omega) (by omega) hvD).trans ((ho2 _ (by omega)).trans h3))
        · exact Kd.N_step b2 (fun k hk _ => World.putObj_heap_other hk.2.2.1)
      | exit id =>
        rcases id with _ | id
        · obtain ⟨ho, rfl⟩ := hp
          refine ⟨_, _, run_endRound (some (.exit 0)) h22, M, ok, fun _ h => .inl h, fun _ h => .inl h, ⟨by simp; omega, ?_⟩, hB2.grown (grownBy_putObj' _ _ _) hB2.size (fun k e => by cases e; have := hB.size; omega), .inr ⟨ho, rfl, v, ?_, ?_, ?_, ?_, h5, h6, h7, h8⟩⟩
          · intro k hk hnM
            have n2 : k ≠ W0.heap.size + 1 := fun e => hnM ((h8 k).2 (.inr (.inl e)))
            exact (World.putObj_heap_other n2).trans (ho2 k n2)
          · exact (World.putObj_heap_other (by omega)).trans ((ho2 bo (by omega)).trans h1)
          · rw [World.putObj_heap_same (Array.getElem?_eq_some_iff.1 h22).1, hrec]; rfl
          · exact (World.putObj_heap_other (by omega)).trans ((ho2 _ (by omega)).trans h3)
          · exact Kd.N_step (Kd.N_step h4 (fun k hk _ => ho2 k hk.2.2.1)) (fun k hk _ => World.putObj_heap_other hk.2.2.1)
        · exact hp.elim
      | ret => exact hp.elim
      | goto t => exact hp.elim
      | panic ch => exact hp.elim
      | outgrown => exact hp.elim
    have hJ0 : JL w.heap.size bo (W0.heap.size + 1) W0.heap.size rec false [] W1 (fun k => k = bo ∨ k = W0.heap.size + 1 ∨ k = W0.heap.size ∨ (Value.slice none 0 0).ownBlock = some k) (fun _ => True) :=
      ⟨.slice none 0 0, (hb01.block bo hlb).trans hbo, by simpa using hL1, hK1, Kd.N_nil _ _ _ _ _, trivial, trivial, trivial, fun _ => Iff.rfl⟩
    refine (seq65 (JL.jok _ _ _ _ _) w (W0.heap.size + 1) 0 kk T hT bk bg Ag cg hY W1 _ _ (fun k => k ≠ bo ∧ k < W0.heap.size) hJ0 hB1 (Foot.step (Foot.bound hG) (fun k hk hlt => hb01.block k hk.2)) ?_ hkk).mono ?_
    · rintro k ⟨h1, h2⟩ h3
      rcases h3 with h | h | h | h
      · exact h1 h
      · omega
      · omega
      · simp [Value.ownBlock] at h
    · rintro e W2 ⟨⟨v0, rfl⟩, M', ok', ⟨v, h1, h2, h3, h4, h5, h6, h7, h8⟩, hB'⟩
      have hb2 := (Array.getElem?_eq_some_iff.1 h2).1
      have g1 : ∀ o', (W2.putObj (W0.heap.size + 1) o').heap[bo]? = some (.cells #[v] 22 (0, 0)) := fun o' => (World.putObj_heap_other (by omega)).trans h1
      have g2 : ∀ o', (W2.putObj (W0.heap.size + 1) o').heap[W0.heap.size]? = some (.deferred (some [])) := fun o' => (World.putObj_heap_other (by omega)).trans h3
      have g3 : ∀ o', Kd.N (Kd.slice 3 (Kd.int .i64)) 28 (W2.putObj (W0.heap.size + 1) o') w.heap.size (fun k => k ≠ W0.heap.size) v (lang T (kk.toNat + 1) [([], 0)] []).1 := fun o' => Kd.N_mono (Kd.N_step h4 (fun k hk _ => World.putObj_heap_other hk.2.2.1)) (fun k hk => hk.2.2.2)
      have g4 : ∀ o', Below w.heap.size w (W2.putObj (W0.heap.size + 1) o') := fun o' => hB'.grown (grownBy_putObj' _ _ _) hB'.size (fun k e => by cases e; have := hB.size; omega)
      cases hs : (lang T (kk.toNat + 1) [([], 0)] []).2 with
      | false =>
        rw [hs] at h2
        simp only [Bool.false_eq_true, if_false] at h2
        exact ⟨none, _, by have := run_endLoop (P := Try.prog) h2 (by rw [hrec]; simp); rw [hrec] at this; exact this, hQ v _ .normal (.inl rfl) (g1 _) (g3 _) (g2 _) (g4 _)⟩
      | true =>
        rw [hs] at h2
        simp only [if_true] at h2
        exact ⟨some (.exit 0), _, by have := run_endLoop (P := Try.prog) h2 (by rw [hrec]; simp); rw [hrec] at this; exact this, wpIn_exit (hQ v _ (.exit 0) (.inr rfl) (g1 _) (g3 _) (g2 _) (g4 _))⟩
set_option maxHeartbeats 4000000 in
set_option maxRecDepth 100000 in
theorem witness_Language.calls (k : Nat) (A0_0 : Option Addr) (c0_0 : Nat) (l0_0 : List (List Int)) (A0_1 : Option Addr) (c0_1 : Nat) (l0_1 : List S80) (a0_2 : Bool) (a1 : Int) (r : List (List Int)) (w : World)
    (hr0_0 : Kd.C (Kd.slice 3 (Kd.int .i64)) w A0_0 l0_0.length l0_0) (hc0_0 : l0_0.length ≤ c0_0) (hr0_1 : Kd.C k80 w A0_1 l0_1.length l0_1) (hc0_1 : l0_1.length ≤ c0_1) (h : witness_Language.f k l0_0 l0_1 a0_2 a1 = some r) :
    Calls Try.prog 27 #[.agg #[.slice A0_0 l0_0.length c0_0, .slice A0_1 l0_1.length c0_1, .bool a0_2], .int .i64 a1] w fun e w' => ∃ v0_ : Value, e = .returned (v0_) ∧ Kd.N (Kd.slice 3 (Kd.int .i64)) 28 w' w.heap.size (fun _ => True) v0_ r ∧ Below w.heap.size w w' := by
  have hu25 := Try.underlying25
  unfold witness_Language.f at h
  refine callsIn_wide.1 (callsIn_of_wp_marks (n := 1) Try.func27 rfl trivial (wpIn_wide.mpr ?_) rfl)
  simp only [Try.ntmps27, List.size_toArray, List.length_cons, List.length_nil, Nat.reduceAdd, Nat.reduceSub, Array.replicate_succ, Array.replicate_zero, List.push_toArray, List.append_toArray, List.nil_append, List.cons_append]
  have HR0 := Aside0.mk hr0_0
  have HC0 := Aside0.mk hc0_0
  have HR1 := Aside0.mk hr0_1
  have HC1 := Aside0.mk hc0_1
  clear hr0_0 hc0_0 hr0_1 hc0_1
  by_cases c1 : a1 < 0
  · rw [if_pos (.inl c1)] at h
    obtain rfl := Option.some.inj h
    have d1 := decide_eq_true c1
    clear h c1
    go_wp2
    exact ⟨_, results_tmp rfl _ _ _, _, rfl, Kd.N_nil _ _ _ _ _, below_alloc (Below.refl _ _) _⟩
  by_cases c2 : a1 > 6
  · rw [if_pos (.inr (.inl c2))] at h
    obtain rfl := Option.some.inj h
    have d1 := decide_eq_false c1
    have d2 := tdGi c2
    clear h c1 c2
    go_wp2
    exact ⟨_, results_tmp rfl _ _ _, _, rfl, Kd.N_nil _ _ _ _ _, below_alloc (Below.refl _ _) _⟩
  by_cases c3 : l0_0.length = 0
  · rw [if_pos (.inr (.inr c3))] at h
    obtain rfl := Option.some.inj h
    have d1 := decide_eq_false c1
    have d2 := tdHi c2
    have d3 : ((l0_0.length : Int) == 0) = true := by simp [c3]
    have d4 : ((l0_0.length : Int) != 0) = false := by simp [c3]
    clear h c1 c2
    go_wp2
    exact ⟨_, results_tmp rfl _ _ _, _, rfl, Kd.N_nil _ _ _ _ _, below_alloc (Below.refl _ _) _⟩
  rw [if_neg (by omega)] at h
  obtain ⟨T, h1, h2⟩ := Option.bind_eq_some_iff.1 h
  have hok : okTab T = true := by
    cases ho : okTab T with
    | true => rfl
    | false => rw [ho] at h2; cases h2
  rw [if_pos hok] at h2
  obtain rfl := Option.some.inj h2
  have d1 := decide_eq_false c1
  have d2 := tdHi c2
  have d3 : ((l0_0.length : Int) == 0) = false := beq_eq_false_iff_ne.mpr (by omega)
  have d4 : ((l0_0.length : Int) != 0) = true := bne_iff_ne.mpr (by omega)
  have HKK : Aside0 (0 ≤ a1 ∧ a1 ≤ 6) := ⟨by omega⟩
  have H1 := Aside0.mk h1
  have HOK := Aside0.mk hok
  clear h h1 h2 hok c1 c2 c3
  go_wp2_with fail
  refine (witness_steps.calls k _ _ l0_0 _ _ l0_1 a0_2 T _ (Kd.C_below HR0.out ?b1) HC0.out (Kd.C_below HR1.out ?b2) HC1.out H1.out).mono ?_
  case b1 => repeat (first | exact Below.refl _ _ | apply below_alloc | apply below_drew1)
  case b2 => repeat (first | exact Below.refl _ _ | apply below_alloc | apply below_drew1)
  rintro e w1 ⟨v, rfl, hS, hb⟩
  have hpb : Below w.heap.size w ((w.alloc (.cells #[.slice A0_0 l0_0.length c0_0, .slice A0_1 l0_1.length c0_1, .bool a0_2] 25)).alloc (.cells #[.slice none 0 0] 22)) := ((Below.refl _ w).alloc (Nat.le_refl _) _).alloc (by simp) _
  have hbo := blk_new (w.alloc (.cells #[.slice A0_0 l0_0.length c0_0, .slice A0_1 l0_1.length c0_1, .bool a0_2] 25)) (.cells #[.slice none 0 0] 22)
  rw [World.size_alloc] at hbo
  have hps : ((w.alloc (.cells #[.slice A0_0 l0_0.length c0_0, .slice A0_1 l0_1.length c0_1, .bool a0_2] 25)).alloc (.cells #[.slice none 0 0] 22)).heap.size = w.heap.size + 2 := by simp
  obtain ⟨A, c, rfl, hcap, hC⟩ := Kd.S_reads hS
  have hF := Kd.R_F (Kd.R_mono (Kd.R_bound (Kd.S_R hS)) (fun k hk => hk.2.1))
  have hbo1 : w1.heap[w.heap.size + 1]? = some (.cells #[.slice none 0 0] 22 (0, 0)) := (hb.block _ (by rw [hps]; omega)).trans hbo
  have HB1 := Aside0.mk (below_then hpb hpb.size hb)
  rw [hps] at hF
  have HF := Aside0.mk hF
  have HBO := Aside0.mk hbo1
  clear hpb hbo hps hC hcap hS hb hF hbo1 H1
  go_wp2_with fail
  refine (seq52 A T.length c a1 w1).mono ?_
  rintro e w2 ⟨rfl, rfl⟩
  go_wp2_with fail
  obtain ⟨W0, hW0⟩ : ∃ W0, (w1.alloc (.cells #[.slice A T.length c] 56)).alloc (.cells #[.int .i64 a1] 3) = W0 := ⟨_, rfl⟩
  have hb0 : Below w1.heap.size w1 W0 := by rw [← hW0]; exact ((Below.refl _ w1).alloc (Nat.le_refl _) _).alloc (by simp) _
  have hbk : W0.heap[w1.heap.size + 1]? = some (.cells #[.int .i64 a1] 3 (0, 0)) := by
    rw [← hW0]; have := blk_new (w1.alloc (.cells #[.slice A T.length c] 56)) (.cells #[.int .i64 a1] 3); rwa [World.size_alloc] at this
  have hbg : W0.heap[w1.heap.size]? = some (.cells #[.slice A T.length c] 56 (0, 0)) := by rw [← hW0]; exact blk_alloc (blk_new w1 _) _
  rw [hW0]
  clear hW0
  have hl1 : w.heap.size + 1 < w1.heap.size := (Array.getElem?_eq_some_iff.1 HBO.out).1
  have hG : Foot (GB T a1 (w1.heap.size + 1) w1.heap.size A c) W0 (fun k => k ≠ w.heap.size + 1) := fun W' hW =>
    ⟨(hW _ (by omega) (Array.getElem?_eq_some_iff.1 hbk).1).trans hbk, (hW _ (by omega) (Array.getElem?_eq_some_iff.1 hbg).1).trans hbg, Kd.F_now (Kd.F_step (Kd.F_step HF.out (fun k _ hlt => hb0.block k hlt)) (fun k hk hlt => hW k (by omega) hlt))⟩
  refine range65 w W0 (w.heap.size + 1) T HOK.out a1 HKK.out (w1.heap.size + 1) w1.heap.size A c (by rfl) ((hb0.block _ hl1).trans HBO.out) (below_then HB1.out HB1.out.size hb0) (by omega) hG ?a1 ?assign ?body ?hQ
  case assign =>
    intro l x W K hK
    gi_wp2
    exact hK
  case body =>
    intro l o v W okN okx x A' c' hbox hN hob hfr hF hxc hox ho5 hBW
    obtain ⟨Av, cv, rfl⟩ := Kd.N_slice hN
    have hfk : Kd.FK (Kd.slice 3 (Kd.int .i64)) W okx x [.slice A' x.length c'] := Foot.imp hF (fun W' h => ⟨A', c', rfl, hxc, h⟩)
    have HN := Aside0.mk hN
    have HBW := Aside0.mk hBW
    have HBX := Aside0.mk hbox
    have HOB := Aside0.mk hob
    have HFK := Aside0.mk hfk
    obtain ⟨hcz, hfz⟩ := zc1 HBX
    clear hN hBW hbox hfk hF HF HBO HB1 hb0 hbk hbg hG
    by_cases h5 : o.length = 5000
    · have e1 : ((o.length : Int) == 5000) = true := beq_iff_eq.mpr (by omega)
      have e2 : ((o.length : Int) != 5000) = false := bne_eq_false_iff_eq.mpr (by omega)
      gi_wp2
      exact ⟨h5, rfl⟩
    · have e1 : ((o.length : Int) == 5000) = false := beq_eq_false_iff_ne.mpr (by omega)
      have e2 : ((o.length : Int) != 5000) = true := bne_iff_ne.mpr (by omega)
      gi_wp2_with (gi_at_builtin; refine N_appendIn (Kd.slice 3 (Kd.int .i64)) (w0 := w) w.heap.size rfl (.tmp 27) (.tmp 29) 22 28 (.slice none 0 0) 24 rfl Try.underlying22 info28 rfl (by decide) (by decide) (.slice Av o.length cv) o x [.slice A' x.length c'] okN okx rfl rfl HFK.out hox hfr HN.out HBW.out HBW.out.size (by omega) ?_; intro v' W2 hN' hB' hg' hat'; have hbox2 := (hg'.block _ (Array.getElem?_eq_some_iff.1 HBX.out).1 (fun e => HOB.out _ (HN.out.1 _ e.symm) rfl)).trans HBX.out; obtain ⟨Av', cv', rfl⟩ := Kd.N_slice hN'; have HN2 := Aside0.mk hN'; have HB2 := Aside0.mk hB'; have HG2 := Aside0.mk hg'; have HAT := Aside0.mk hat'; have HBX2 := Aside0.mk hbox2; clear hN' hB' hg' hat' hbox2 hcz hfz; obtain ⟨hcz, hfz⟩ := zc1 HBX2)
      have hl2 : (o ++ [x]).length = o.length + 1 := by simp
      have hset := Boxed.set (.slice Av' (o.length + 1) cv') (show Boxed W2 (w.heap.size + 1) 22 _ from HBX2.out)
      have hN3 := Kd.N_far (p := ⟨w.heap.size + 1, 0, none⟩) HN2.out (fun k hk => HOB.out k hk) (.slice Av' (o.length + 1) cv')
      rw [hl2] at hN3
      refine ⟨h5, _, hset, hN3, Nat.le_trans HG2.out.size (grownBy_setCell' W2 (w.heap.size + 1) _).size, fun k hk h1 h2 => ?_, HB2.out.setCell (p := ⟨w.heap.size + 1, 0, none⟩) (by show w.heap.size ≤ w.heap.size + 1; omega) _, ?_⟩
      · exact (Below.heap_setCell W2 ⟨w.heap.size + 1, 0, none⟩ _ k h1).trans (HG2.out.block k hk h2)
      · have := HAT.out
        rw [hl2] at this
        exact this
  case hQ =>
    intro v W e he hbox hN hD hBW
    have HN := Aside0.mk hN
    have HBW := Aside0.mk hBW
    have HD := Aside0.mk hD
    obtain ⟨hcz, hfz⟩ := zc1 (Aside0.mk hbox)
    have hW0 := hb0.size
    clear hN hBW hbox hD HF HBO HB1 hb0 hbk hbg hG
    obtain ⟨Av, cv, rfl⟩ := Kd.N_slice HN.out
    rcases he with rfl | rfl
    · go_wp2
      refine ⟨by simp, .inl ⟨_, _, rfl, run_takeDeferred HD.out, ?_⟩⟩
      exact ⟨_, results_tmp rfl _ _ _, _, rfl, Kd.N_mono (Kd.N_step HN.out (fun k hk _ => World.putObj_heap_other hk)) (fun _ _ => trivial), HBW.out.grown (grownBy_putObj' _ _ _) HBW.out.size (fun k e => by cases e; omega)⟩
    · go_wp2
      refine ⟨by simp, .inl ⟨_, _, rfl, run_takeDeferred HD.out, ?_⟩⟩
      exact ⟨_, results_tmp rfl _ _ _, _, rfl, Kd.N_mono (Kd.N_step HN.out (fun k hk _ => World.putObj_heap_other hk)) (fun _ _ => trivial), HBW.out.grown (grownBy_putObj' _ _ _) HBW.out.size (fun k e => by cases e; omega)⟩
end Go.Proofs.Ytfnjbgggmddgpaa.Q
end
section
set_option linter.unusedVariables false
set_option linter.unusedSimpArgs false
namespace Go.Proofs.Ytfnjbgggmddgpaa.Q
open Go.RowKit Go.Proofs.Fn Go.Proofs.YtfnjbgggmddgpaaW.PrintWords Go.Proofs.YtfnjbgggmddgpaaW.PrintMore Go.Proofs.Gr
def stp (T : List (List S80)) (p : Pth) : List Pth := (T.getD p.2.toNat []).map (fun e => (p.1 ++ [e.f1], e.f2))
def levs (T : List (List S80)) : Nat → List Pth → List Pth
  | 0, _ => []
  | n + 1, lev => lev ++ levs T n (lev.flatMap (stp T))
def itl (T : List (List S80)) : Nat → List Pth → List Pth
  | 0, lev => lev
  | n + 1, lev => itl T n (lev.flatMap (stp T))
theorem plev_eq (T : List (List S80)) : ∀ (lev : List Pth) (out : List (List Int)) (nxt : List Pth), out.length ≤ 5000 →
    (out.length + lev.length ≤ 5000 → plev (T.map (List.map pr)) lev out nxt = (out ++ lev.map Prod.fst, nxt ++ lev.flatMap (stp T), false)) ∧
    (5000 < out.length + lev.length → (plev (T.map (List.map pr)) lev out nxt).2.2 = true ∧ (plev (T.map (List.map pr)) lev out nxt).1 = (out ++ lev.map Prod.fst).take 5000) := by
  intro lev
  induction lev with
  | nil =>
    intro out nxt ho
    refine ⟨fun _ => by simp [plev], fun h => ?_⟩
    simp at h; omega
  | cons p lev ih =>
    intro out nxt ho
    have hrow : (rd_L66 (T.map (List.map pr)) p.2).map (fun x => (p.1 ++ [x.f0], x.f1)) = stp T p := by
      unfold rd_L66 stp
      rw [List.getD_eq_getElem?_getD, List.getD_eq_getElem?_getD, List.getElem?_map]
      cases T[p.2.toNat]? with
      | none => rfl
      | some r => simp [pr]
    rw [plev, hrow]
    by_cases c : out.length = 5000
    · rw [if_pos c]
      refine ⟨fun h => by simp at h; omega, fun _ => ⟨rfl, ?_⟩⟩
      rw [List.take_append_of_le_length (by omega), List.take_of_length_le (by omega)]
    · rw [if_neg c]
      have h := ih (out ++ [p.1]) (nxt ++ stp T p) (by simp; omega)
      refine ⟨fun hl => ?_, fun hl => ?_⟩
      · rw [h.1 (by simp at hl ⊢; omega)]; simp
      · have := h.2 (by simp at hl ⊢; omega)
        refine ⟨this.1, this.2.trans ?_⟩
        simp
theorem lang_eq (T : List (List S80)) : ∀ (n : Nat) (lev : List Pth) (out : List (List Int)), out.length ≤ 5000 → (lang (T.map (List.map pr)) n lev out).1 = (out ++ (levs T n lev).map Prod.fst).take 5000 := by
  intro n
  induction n with
  | zero => intro lev out ho; simp [lang, levs, List.take_of_length_le ho]
  | succ n ih =>
    intro lev out ho
    have h := plev_eq T lev out [] ho
    rw [lang]
    by_cases c : out.length + lev.length ≤ 5000
    · rw [h.1 c]
      simp only [Bool.false_eq_true, if_false, List.nil_append]
      rw [ih _ _ (by simp; omega), levs, List.map_append, List.append_assoc]
    · have := h.2 (by omega)
      rw [if_pos this.1, this.2, levs, List.map_append, ← List.append_assoc]
      exact (List.take_append_of_le_length (by simp; omega)).symm
def Inl (T : List (List S80)) (n : Nat) (Z : List Pth) : Prop := ∀ p ∈ Z, p.1.length ≤ n ∧ 0 ≤ p.2 ∧ p.2 < (T.length : Int)
theorem inl_stp {n : Nat} {T : List (List S80)} (hT : OkT T.length T) {Z : List Pth} (h : Inl T n Z) : Inl T (n + 1) (Z.flatMap (stp T)) := by
  intro p hp
  obtain ⟨q, hq, hp⟩ := List.mem_flatMap.1 hp
  obtain ⟨e, he, rfl⟩ := List.mem_map.1 hp
  have h1 := h q hq
  have h2 := hT.tgt q.2.toNat (by omega) e he
  exact ⟨by simp; omega, h2.1, h2.2⟩
theorem inl_levs {T : List (List S80)} (hT : OkT T.length T) : ∀ (k n : Nat) (Z : List Pth), Inl T n Z → Inl T (n + k) (levs T k Z) := by
  intro k
  induction k with
  | zero => intro n Z h p hp; cases hp
  | succ k ih =>
    intro n Z h p hp
    rcases List.mem_append.1 hp with hp | hp
    · have := h p hp; omega
    · have := ih (n + 1) _ (inl_stp hT h) p hp; omega
def LG (st : List (List Int)) (es : List S80) (kk : Int) : List (List Int) := if kk < 0 ∨ kk > 6 ∨ st.length = 0 then [] else ((levs (tab st.length es) (kk.toNat + 1) [([], 0)]).take 5000).map Prod.fst
theorem okTab_tab {n : Nat} {es : List S80} (h0 : 0 < n) (hn : n ≤ 1000000) (he : es.length ≤ 1000) : okTab ((tab n es).map (List.map pr)) = true := by
  have hT := tab_ok (n := n) (es := es) hn (by omega)
  have hl := hT.len
  unfold okTab
  rw [Bool.and_eq_true, decide_eq_true_eq, List.all_eq_true, List.length_map, hl]
  refine ⟨⟨h0, hn⟩, fun r hr => ?_⟩
  obtain ⟨q, hq, rfl⟩ := List.mem_map.1 hr
  obtain ⟨i, hi, e⟩ := List.mem_iff_getElem.1 hq
  have e2 : (tab n es).getD i [] = q := by rw [← e]; simp [hi]
  rw [Bool.and_eq_true, decide_eq_true_eq, List.all_eq_true, List.length_map]
  refine ⟨?_, fun x hx => ?_⟩
  · rw [← e2, tab_get (by omega)]
    exact Nat.le_trans (row_len _ _ _) he
  · obtain ⟨y, hy, rfl⟩ := List.mem_map.1 hx
    have := hT.tgt i (by omega) y (by rw [e2]; exact hy)
    exact decide_eq_true this
theorem wlanguage_ev (st : List (List Int)) (es : List S80) (b : Bool) (kk : Int) (hn : st.length ≤ 1000000) (he : es.length ≤ 1000) : Evn (fun k => witness_Language.f k st es b kk) (LG st es kk) := by
  unfold witness_Language.f LG
  by_cases c : kk < 0 ∨ kk > 6 ∨ st.length = 0
  · rw [if_pos c]; exact Evn.pos c (Evn.const _)
  · rw [if_neg c]
    refine Evn.neg c ((steps_ev st es b hn (by omega)).bind (Evn.pos (okTab_tab (by omega) hn he) ?_))
    rw [lang_eq _ _ _ _ (by simp), List.nil_append, List.map_take]
    exact Evn.const _
theorem LG_short (st : List (List Int)) (es : List S80) (kk : Int) (hn : st.length ≤ 1000000) (he : es.length ≤ 1000) : (LG st es kk).length ≤ 5000 ∧ ∀ x ∈ LG st es kk, x.length ≤ 1000 := by
  unfold LG
  by_cases c : kk < 0 ∨ kk > 6 ∨ st.length = 0
  · rw [if_pos c]; exact ⟨by simp, fun x hx => by cases hx⟩
  · rw [if_neg c]
    have hT := tab_ok (n := st.length) (es := es) hn (by omega)
    have hT2 : OkT (tab st.length es).length (tab st.length es) := by rw [hT.len]; exact hT
    refine ⟨by simp; omega, fun x hx => ?_⟩
    obtain ⟨p, hp, rfl⟩ := List.mem_map.1 hx
    have := inl_levs hT2 (kk.toNat + 1) 0 [([], 0)] (by intro p hp; rw [List.mem_singleton.1 hp]; simp [hT.len]; omega) p (List.mem_of_mem_take hp)
    omega
end Go.Proofs.Ytfnjbgggmddgpaa.Q
end
section
set_option linter.unusedVariables false
set_option linter.unusedSimpArgs false
namespace Go.Proofs.Ytfnjbgggmddgpaa.Q
open Go.RowKit Go.Proofs.Fn Go.Proofs.YtfnjbgggmddgpaaW.PrintWords Go.Proofs.Gr
def FD (xs : List Int) : Nat → Int := fun x => if x ≠ 0 ∧ D xs x = 0 then -1 else D xs x
def R (T : List (List S80)) (a b : Nat) : Prop := E T b a
structure Mo (n : Nat) (out : Nat → Int) (q : List Nat) (most : Int) : Prop where
  up : ∀ i, i < n → i ∉ q → out i ≤ most
  nn : 0 ≤ most
  some : ∃ i, i < n ∧ out i = most
theorem diam_l1 {n : Nat} {T : List (List S80)} (hT : OkT n T) (P : Int → Prop) (N s : Nat) (hs : s < n) (most : Int)
    (next : ∀ (q : List Nat) (d : List Int), d.length = n → Bfs n (R T) (fun i => i = 0) (FD d) q s [] (FD d s) → 0 ≤ FD d s → (∀ i, i < n → FD d i + neg n (FD d) ≤ n) → (∀ i, i < n → 0 ≤ D d i) → Mo n (FD d) q most → q.length + neg n (FD d) = N → ∃ r, P r ∧ Evn (fun k => witness_Diameter.l0 k (T.map (List.map pr)) d (QI q) most) r) :
    ∀ (m p : Nat) (q : List Nat) (d : List Int), p + m = (T.getD s []).length → d.length = n → Bfs n (R T) (fun i => i = 0) (FD d) q s (((T.getD s []).drop p).map (fun e => e.f2.toNat)) (FD d s) → 0 ≤ FD d s → (∀ i, i < n → FD d i + neg n (FD d) ≤ n) → (∀ i, i < n → 0 ≤ D d i) → Mo n (FD d) q most → q.length + neg n (FD d) = N → N ≤ 2000000 →
    ∃ r, P r ∧ Evn (fun k => witness_Diameter.l1 k (T.map (List.map pr)) d (QI q) most (s : Int) ((T.getD s []).map pr) ((T.getD s []).length : Int) (p : Int)) r := by
  have hsm := hT.small
  have hrow := hT.rows s hs
  intro m
  induction m with
  | zero =>
    intro p q d hp hd hb h0 hm hpos hM hN hN2
    rw [List.drop_of_length_le (by omega)] at hb
    obtain ⟨r, hP, hr⟩ := next q d hd hb h0 hm hpos hM hN
    refine ⟨r, hP, Evn.succ ?_⟩
    simp only [witness_Diameter.l1]
    (first | refine Evn.pos (by first | assumption | omega | (simp; done) | (simp; omega)) ?_ | refine Evn.neg (by first | assumption | omega | (simp; done) | (simp; omega)) ?_)
    exact hr
  | succ m ih =>
    intro p q d hp hd hb h0 hm hpos hM hN hN2
    have hpl : p < (T.getD s []).length := by omega
    have he : rd_T80 (T.getD s []) (p : Int) ∈ T.getD s [] := by rw [rd80 hpl]; exact List.getElem_mem _
    have htg := hT.tgt s hs _ he
    obtain ⟨t, ht⟩ : ∃ t : Nat, (rd_T80 (T.getD s []) (p : Int)).f2 = (t : Int) := ⟨_, (Int.toNat_of_nonneg htg.1).symm⟩
    have htn : t < n := by omega
    have ht2 : (rd_T66 ((T.getD s []).map pr) (p : Int)).f1 = (t : Int) := by rw [rd66map]; exact ht
    rw [drop80 hpl, List.map_cons, ht, Int.toNat_natCast] at hb
    have hFt : FD d t = if t ≠ 0 ∧ D d t = 0 then -1 else D d t := rfl
    have hFs : FD d s = if s ≠ 0 ∧ D d s = 0 then -1 else D d s := rfl
    by_cases c0 : t = 0
    · have hb2 := hb.old htn (by rw [hFt, if_neg (by omega)]; exact hpos t htn)
      obtain ⟨r, hP, hr⟩ := ih (p + 1) q d (by omega) hd hb2 h0 hm hpos hM hN hN2
      refine ⟨r, hP, Evn.succ ?_⟩
      simp only [witness_Diameter.l1, ht2, List.length_map, wrap_succ (show p < 9223372036854775807 by omega)]
      iterate 4 (first | refine Evn.pos (by first | assumption | omega | (simp; done) | (simp; omega)) ?_ | refine Evn.neg (by first | assumption | omega | (simp; done) | (simp; omega)) ?_)
      exact hr
    · by_cases c : D d t = 0
      · have hft : FD d t = -1 := by rw [hFt, if_pos ⟨c0, c⟩]
        have hfs : FD d s = D d s := by
          rw [hFs]; rw [hFs] at h0; split at h0
          · omega
          · rw [if_neg (by assumption)]
        have hmi := hm s hs
        have hnu : neg n (upd (FD d) t (FD d s + 1)) + 1 = neg n (FD d) := neg_upd htn (by omega) (by omega)
        have hset : ∀ x, x < n → upd (FD d) t (FD d s + 1) x = FD (d.set t (D d s + 1)) x := by
          intro x hx
          have e1 : FD (d.set t (D d s + 1)) x = if x ≠ 0 ∧ upd (D d) t (D d s + 1) x = 0 then -1 else upd (D d) t (D d s + 1) x := by
            have := D_set (xs := d) (r := t) (v := D d s + 1) (by omega) x (by omega)
            unfold FD; rw [this]
          rw [e1]
          by_cases ex : x = t
          · subst ex
            simp only [upd, if_true]
            rw [if_neg (by omega), hfs]
          · simp only [upd, if_neg ex]; rfl
        have hneg : neg n (FD (d.set t (D d s + 1))) = neg n (upd (FD d) t (FD d s + 1)) := (neg_congr hset).symm
        have hb2 := (hb.new hs h0 (show R T t s from ⟨_, he, ht⟩) htn (by omega)).congr hset
        rw [hset s hs] at hb2
        have hut : ∀ x, upd (FD d) t (FD d s + 1) x = if x = t then FD d s + 1 else FD d x := fun x => rfl
        obtain ⟨r, hP, hr⟩ := ih (p + 1) (q ++ [t]) (d.set t (D d s + 1)) (by omega) (by simpa using hd) hb2 (by
          rw [← hset s hs, hut]; split <;> omega) (fun x hx => by
          rw [hneg, ← hset x hx, hut]
          have := hm x hx
          split <;> omega) (fun x hx => by
          rw [D_set (by omega) x (by omega)]
          have := hpos x hx
          show 0 ≤ if x = t then _ else _
          split <;> omega) ⟨fun x hx hq => by
            rw [← hset x hx, hut, if_neg (fun e => hq (by simp [e]))]
            exact hM.up x hx (fun h => hq (by simp [h])), hM.nn, by
            have hnn := hM.nn
            obtain ⟨i, hi, h⟩ := hM.some
            exact ⟨i, hi, by rw [← hset i hi, hut, if_neg (fun e => by subst e; omega)]; exact h⟩⟩ (by rw [hneg]; simp; omega) hN2
        refine ⟨r, hP, Evn.succ ?_⟩
        have hw : wrap64 (D d s + 1) = D d s + 1 := by unfold wrap64; omega
        simp only [witness_Diameter.l1, ht2, List.length_map, rdD, hd, hw, Int.toNat_natCast, wrap_succ (show p < 9223372036854775807 by omega)]
        iterate 10 (first | refine Evn.pos (by first | assumption | omega | (simp; done) | (simp; omega)) ?_ | refine Evn.neg (by first | assumption | omega | (simp; done) | (simp; omega)) ?_)
        simpa [QI] using hr
      · have hb2 := hb.old htn (by rw [hFt, if_neg (by omega)]; exact hpos t htn)
        obtain ⟨r, hP, hr⟩ := ih (p + 1) q d (by omega) hd hb2 h0 hm hpos hM hN hN2
        refine ⟨r, hP, Evn.succ ?_⟩
        simp only [witness_Diameter.l1, ht2, List.length_map, rdD, hd, wrap_succ (show p < 9223372036854775807 by omega)]
        iterate 7 (first | refine Evn.pos (by first | assumption | omega | (simp; done) | (simp; omega)) ?_ | refine Evn.neg (by first | assumption | omega | (simp; done) | (simp; omega)) ?_)
        exact hr
theorem diam_l0 {n : Nat} {T : List (List S80)} (hT : OkT n T) :
    ∀ (N : Nat) (q : List Nat) (d : List Int) (s0 : Nat) (v most : Int), d.length = n → Bfs n (R T) (fun i => i = 0) (FD d) q s0 [] v → (∀ i, i < n → FD d i + neg n (FD d) ≤ n) → (∀ i, i < n → 0 ≤ D d i) → Mo n (FD d) q most → q.length + neg n (FD d) = N → N ≤ 2000000 →
    ∃ r, (∃ out, Lab n (R T) (fun i => i = 0) out ∧ Mo n out [] r) ∧ Evn (fun k => witness_Diameter.l0 k (T.map (List.map pr)) d (QI q) most) r := by
  have hsm := hT.small
  have hln := hT.len
  intro N
  induction N with
  | zero =>
    intro q d s0 v most hd hb hm hpos hM hN hN2
    obtain rfl : q = [] := List.length_eq_zero_iff.1 (by omega)
    refine ⟨most, ⟨FD d, hb.lab, hM⟩, Evn.succ ?_⟩
    simp only [witness_Diameter.l0, QI, List.map_nil]
    (first | refine Evn.pos (by first | assumption | omega | (simp; done) | (simp; omega)) ?_ | refine Evn.neg (by first | assumption | omega | (simp; done) | (simp; omega)) ?_)
    exact Evn.const _
  | succ N ih =>
    intro q d s0 v most hd hb hm hpos hM hN hN2
    cases q with
    | nil =>
      refine ⟨most, ⟨FD d, hb.lab, hM⟩, Evn.succ ?_⟩
      simp only [witness_Diameter.l0, QI, List.map_nil]
      (first | refine Evn.pos (by first | assumption | omega | (simp; done) | (simp; omega)) ?_ | refine Evn.neg (by first | assumption | omega | (simp; done) | (simp; omega)) ?_)
      exact Evn.const _
    | cons s q =>
      have hs := hb.qlt s List.mem_cons_self
      have hb2 := hb.pop (((T.getD s []).drop 0).map (fun e => e.f2.toNat)) (fun i hi hE => by
        obtain ⟨e, he, ht⟩ := hE
        exact List.mem_map.2 ⟨e, by simpa using he, by rw [ht]; simp⟩)
      have hFs : FD d s = D d s := by
        have h := hs.2.1
        have hFs : FD d s = if s ≠ 0 ∧ D d s = 0 then -1 else D d s := rfl
        rw [hFs] at h ⊢
        split at h
        · omega
        · rw [if_neg (by assumption)]
      have hM2 : Mo n (FD d) q (mx most (D d s)) := by
        have e : mx most (D d s) = if most < D d s then D d s else most := rfl
        have h1 := hM.nn
        refine ⟨fun i hi hq => ?_, by rw [e]; split <;> omega, ?_⟩
        · by_cases ei : i = s
          · subst ei; rw [hFs, e]; split <;> omega
          · have := hM.up i hi (by simp [ei, hq]); rw [e]; split <;> omega
        · rw [e]; split
          · exact ⟨s, hs.1, hFs⟩
          · exact hM.some
      obtain ⟨r, hP, hr⟩ := diam_l1 hT _ N s hs.1 (mx most (D d s)) (fun q d hd hb h0 hm hpos hM hN => ih q d s _ _ hd hb hm hpos hM hN (by omega)) _ 0 q d (by rw [Nat.zero_add]) hd hb2 hs.2.1 hm hpos hM2 (by simp at hN; omega) (by omega)
      refine ⟨r, hP, Evn.succ ?_⟩
      have e1 : rd (QI (s :: q)) 0 = (s : Int) := by simp [rd, QI]
      have e2 : (QI (s :: q)).drop (1 : Int).toNat = QI q := by simp [QI]
      have e4 : (QI (s :: q)).length = q.length + 1 := by simp [QI]
      simp only [witness_Diameter.l0, e1, e2, e4, rdD, hd, List.length_map, hln, rdmap]
      iterate 6 (first | refine Evn.pos (by first | assumption | omega | (simp; done) | (simp; omega)) ?_ | refine Evn.neg (by first | assumption | omega | (simp; done) | (simp; omega)) ?_)
      exact hr
theorem diameter_both (st : List (List Int)) (es : List S80) (b : Bool) (hn : st.length ≤ 1000000) (he : es.length ≤ 1000000) :
    ∃ r, (∀ i, i < st.length → ∀ d, Lab st.length (E (tab st.length es)) (fun j => ((j : Int) == (i : Int)) = true) d → d 0 ≤ r) ∧ (st.length = 0 → r = -1) ∧ (0 < st.length → ∃ i, i < st.length ∧ ∀ d, Lab st.length (E (tab st.length es)) (fun j => ((j : Int) == (i : Int)) = true) d → d 0 = r) ∧
      Evn (fun k => witness_Diameter.f k st es b) r ∧ Evn (fun k => r16_Diameter.f k st es b) r := by
  have hT := tab_ok (n := st.length) hn he
  have hln := hT.len
  have hst := steps_ev st es b hn he
  rcases Nat.eq_zero_or_pos st.length with h0 | h0
  · refine ⟨-1, fun i hi => by omega, fun _ => rfl, fun h => by omega, ?_, ?_⟩
    · refine Evn.bind hst ?_
      refine Evn.pos (by rw [List.length_map, hln]; omega) ?_
      exact Evn.const _
    · unfold r16_Diameter.f
      (first | refine Evn.pos (by first | assumption | omega | (simp; done) | (simp; omega)) ?_ | refine Evn.neg (by first | assumption | omega | (simp; done) | (simp; omega)) ?_)
      exact Evn.const _
  · have hz : ∀ i, D (List.replicate st.length 0) i = 0 := by
      intro i
      simp only [D, List.getD_eq_getElem?_getD, List.getElem?_replicate]
      split <;> rfl
    have hF : ∀ i, FD (List.replicate st.length 0) i = if i = 0 then 0 else -1 := by
      intro i
      unfold FD; rw [hz]
      by_cases c : i = 0 <;> simp [c]
    obtain ⟨r, ⟨out, hL, hM⟩, hev⟩ := diam_l0 hT _ [0] (List.replicate st.length 0) 0 0 0 (by simp) ⟨fun i hi => by rw [hF]; split <;> omega, fun i hi => by rw [hF]; split <;> simp_all, fun i hi h => by rw [hF] at h; split at h <;> omega, fun i j hi hj hE h hq => by
        rw [hF] at h
        split at h
        · exact absurd (by simp_all) hq
        · omega, fun x hx => by obtain rfl := List.mem_singleton.1 hx; rw [hF]; simp; omega, fun i hi => by rw [hF]; split <;> omega, by simp⟩ (fun i hi => by
        rw [hF]
        have h1 : neg st.length (FD (List.replicate st.length 0)) ≤ st.length := neg_le _ _
        split <;> omega) (fun i hi => by rw [hz]; omega) ⟨fun i hi hq => by rw [hF]; split <;> omega, by omega, 0, h0, by rw [hF]; simp⟩ rfl (by rw [List.length_singleton]; exact Nat.le_trans (Nat.add_le_add_left (neg_le _ _) 1) (by omega))
    have hrev : ∀ i, i < st.length → ∀ d, Lab st.length (E (tab st.length es)) (fun j => ((j : Int) == (i : Int)) = true) d → d 0 = out i := by
      intro i hi d hd
      refine Lab.rev h0 hi ?_ hL
      exact ⟨hd.lo, fun a ha => (hd.zero a ha).trans (by simp; omega), hd.step, hd.edge⟩
    refine ⟨r, fun i hi d hd => by rw [hrev i hi d hd]; exact hM.up i hi (by simp), fun h => by omega, fun _ => ?_, ?_, ?_⟩
    · obtain ⟨i, hi, e⟩ := hM.some
      exact ⟨i, hi, fun d hd => by rw [hrev i hi d hd]; exact e⟩
    · refine Evn.bind hst ?_
      refine Evn.neg (by rw [List.length_map, hln]; omega) ?_
      refine Evn.pos (by omega) ?_
      refine Evn.pos (by simp only [List.length_map, hln, Int.toNat_natCast]; omega) ?_
      simp only [List.length_map, hln, Int.toNat_natCast]
      exact hev
    · unfold r16_Diameter.f
      (first | refine Evn.pos (by first | assumption | omega | (simp; done) | (simp; omega)) ?_ | refine Evn.neg (by first | assumption | omega | (simp; done) | (simp; omega)) ?_)
      have hnn := hM.nn
      have exd : ∀ i, i < st.length → ∃ d : Nat → Int, Lab st.length (E (tab st.length es)) (fun j => ((j : Int) == (i : Int)) = true) d := by
        intro i hi
        obtain ⟨d, ⟨_, hd⟩, _⟩ := rdistances_ev hT (fun j => (j : Int) == (i : Int))
        exact ⟨_, hd⟩
      have key : ∀ (m i : Nat) (x : Int), i + m = st.length → 0 ≤ x → x ≤ r → (∀ j, j < i → out j ≤ x) → Evn (fun k => r16_Diameter.l0 k x (i : Int) st es b) r := by
        intro m
        induction m with
        | zero =>
          intro i x hi hx0 hx hj
          obtain ⟨z, hz1, hz2⟩ := hM.some
          have := hj z (by omega)
          obtain rfl : x = r := by omega
          refine Evn.succ ?_
          simp only [r16_Diameter.l0]
          (first | refine Evn.pos (by first | assumption | omega | (simp; done) | (simp; omega)) ?_ | refine Evn.neg (by first | assumption | omega | (simp; done) | (simp; omega)) ?_)
          exact Evn.const _
        | succ m ih =>
          intro i x hi hx0 hx hj
          obtain ⟨l, ok, hFd, _, h2⟩ := between_both st es b hn he 0 (i : Int)
          obtain ⟨d, hd⟩ := exd i (by omega)
          have hl := (hFd.len 0 rfl h0 d hd).1
          rw [hrev i (by omega) d hd] at hl
          have hup := hM.up i (by omega) (by simp)
          have e : mx x (l.length : Int) = if x < (l.length : Int) then (l.length : Int) else x := rfl
          refine Evn.succ ?_
          simp only [r16_Diameter.l0, wrap_succ (show i < 9223372036854775807 by omega)]
          (first | refine Evn.pos (by first | assumption | omega | (simp; done) | (simp; omega)) ?_ | refine Evn.neg (by first | assumption | omega | (simp; done) | (simp; omega)) ?_)
          refine Evn.bind h2 ?_
          refine ih (i + 1) _ (by omega) ?_ ?_ ?_
          · show 0 ≤ mx x (l.length : Int)
            rw [e]; split <;> omega
          · show mx x (l.length : Int) ≤ r
            rw [e]; split <;> split at hl <;> omega
          · intro j hj2
            show out j ≤ mx x (l.length : Int)
            by_cases ej : j = i
            · subst ej; rw [e]; split <;> split at hl <;> omega
            · have := hj j (by omega); rw [e]; split <;> omega
      exact key st.length 0 0 (by omega) (by omega) (by omega) (by intro j hj; omega)
end Go.Proofs.Ytfnjbgggmddgpaa.Q
end
section
namespace Go.Proofs.Ytfnjbgggmddgpaa.Q
open Go.RowKit Go.Proofs.Fn Go.Proofs.YtfnjbgggmddgpaaW.PrintWords Go.Proofs.YtfnjbgggmddgpaaW.PrintLast Go.Proofs.YtfnjbgggmddgpaaW.PrintMore
attribute [local go_sem] max2_int min2_int max_two min_two max_three min_three max_four min_four
set_option linter.unusedVariables false
set_option linter.unusedSimpArgs false
def l16_WitnessAgrees.l0 : Nat → Int → List (List Int) → Int → Int → Int → List (List Int) → List (S80) → Bool → Option (Bool)
 | 0, _, _, _, _, _, _, _, _ => none
 | k + 1, x1, x5, x6, x7, x8, x102000, x102001, x102002 => if x8 < (x102000.length : Int) then ((witness_To.f k x102000 x102001 x102002 x8).bind fun bt108 => (if bt108.2 = true then (if (x5.length : Int) < 5000 then (if (bt108.1.length : Int) ≤ 4 then ((r14_Find.f k x5 bt108.1).bind fun t112 => (if t112 < 0 then (some false) else (l16_WitnessAgrees.l0 k x1 x5 x6 (mx x7 (bt108.1.length : Int)) (wrap64 (x8 + 1)) x102000 x102001 x102002))) else (l16_WitnessAgrees.l0 k x1 x5 x6 (mx x7 (bt108.1.length : Int)) (wrap64 (x8 + 1)) x102000 x102001 x102002)) else (l16_WitnessAgrees.l0 k x1 x5 x6 (mx x7 (bt108.1.length : Int)) (wrap64 (x8 + 1)) x102000 x102001 x102002)) else (l16_WitnessAgrees.l0 k x1 x5 x6 x7 (wrap64 (x8 + 1)) x102000 x102001 x102002))) else ((witness_Fires.f k x102000 x102001 x102002 x1).bind fun bt113 => (if bt113.2 = true then (if (x5.length : Int) < 5000 then (if (bt113.1.length : Int) ≤ 4 then ((r14_Find.f k x5 bt113.1).bind fun t117 => (if t117 < 0 then (some false) else (if x7 = x6 then ((l16_alive.f k).bind fun t118 => (some t118)) else (some false)))) else (if x7 = x6 then ((l16_alive.f k).bind fun t119 => (some t119)) else (some false))) else (if x7 = x6 then ((l16_alive.f k).bind fun t120 => (some t120)) else (some false))) else (if x7 = x6 then ((l16_alive.f k).bind fun t121 => (some t121)) else (some false))))
def l16_WitnessAgrees.f (k : Nat) (l0_0 : List (List Int)) (l0_1 : List (S80)) (a0_2 : Bool) (a1 : Int) : Option (Bool) := (l16_few.f l0_0 l0_1 a0_2).bind fun t102 => (if t102 = true then ((witness_Language.f k l0_0 l0_1 a0_2 4).bind fun t104 => ((witness_Diameter.f k l0_0 l0_1 a0_2).bind fun t107 => (l16_WitnessAgrees.l0 k a1 t104 t107 (-1) 0 l0_0 l0_1 a0_2))) else ((l16_alive.f k).bind fun t103 => (some t103)))
set_option maxHeartbeats 8000000 in
set_option maxRecDepth 100000 in
theorem l16_WitnessAgrees.calls (k : Nat) (A0_0 : Option Addr) (c0_0 : Nat) (l0_0 : List (List Int)) (A0_1 : Option Addr) (c0_1 : Nat) (l0_1 : List (S80)) (a0_2 : Bool) (a1 : Int) (r : Bool) (w : World) (hr0_0 : Kd.C (Kd.slice 3 (Kd.int .i64)) w A0_0 l0_0.length l0_0) (hc0_0 : l0_0.length ≤ c0_0) (hr0_1 : Kd.C k80 w A0_1 l0_1.length l0_1) (hc0_1 : l0_1.length ≤ c0_1) (h : l16_WitnessAgrees.f k l0_0 l0_1 a0_2 a1 = some r) :
  Calls Try.prog 8 #[.agg #[.slice A0_0 l0_0.length c0_0, .slice A0_1 l0_1.length c0_1, .bool a0_2], .int .i64 a1] w fun e w' => e = .returned (.bool r) ∧ Below w.heap.size w w' := by
 have hu25 := Try.underlying25
 have HR0_0 := Aside0.mk hr0_0
 have HC0_0 := Aside0.mk hc0_0
 clear hr0_0 hc0_0
 have HR0_1 := Aside0.mk hr0_1
 have HC0_1 := Aside0.mk hc0_1
 clear hr0_1 hc0_1
 have HB := Aside0.mk (Below.refl w.heap.size w)
 have H : ((l16_few.f l0_0 l0_1 a0_2).bind fun t102 => (if t102 = true then ((witness_Language.f k l0_0 l0_1 a0_2 4).bind fun t104 => ((witness_Diameter.f k l0_0 l0_1 a0_2).bind fun t107 => (l16_WitnessAgrees.l0 k a1 t104 t107 (-1) 0 l0_0 l0_1 a0_2))) else ((l16_alive.f k).bind fun t103 => (some t103)))) = some r := h
 clear h
 replace H := Option.bind_eq_some_iff.mp H
 obtain ⟨t102, A30, H⟩ := H
 (try dsimp only at H)
 have A3 := Aside0.mk A30
 clear A30
 by_cases c4 : t102 = true
 ·subst c4
  rw [if_pos rfl] at H
  replace H := Option.bind_eq_some_iff.mp H
  obtain ⟨t104, A50, H⟩ := H
  (try dsimp only at H)
  have A5 := Aside0.mk A50
  clear A50
  replace H := Option.bind_eq_some_iff.mp H
  obtain ⟨t107, A60, H⟩ := H
  (try dsimp only at H)
  have A6 := Aside0.mk A60
  clear A60
  have H' := Aside0.mk H
  clear H
  go_enter Try.func8, Try.ntmps8
  go_wp2_with (first | ((with_reducible refine gate_dst (N := 2) rfl ?_); (try (refine gate_guard (by rfl) ?_; dsimp only)); refine tBx 2 25 #[.slice A0_0 l0_0.length c0_0, .slice A0_1 l0_1.length c0_1, .bool a0_2] ?_; intro gb101 hg w7 hbox hb; have BK101 := Aside0.mk (hbox); have GW101 := tW HB hg; have GE101 := tW HB hg; replace HB := tA HB hb; clear hb hbox hg; obtain ⟨hcz8_0, hcz8_1, hcz8_2, hfz8_0, hfz8_1, hfz8_2⟩ := zc3 BK101) | ((with_reducible refine gate_callee (f := 9) rfl ?_); refine goesL_ (some 14) rfl rfl Try.func9 (by kernel_rfl) rfl #[.agg #[.slice A0_0 l0_0.length c0_0, .slice A0_1 l0_1.length c0_1, .bool a0_2]] rfl (by (try simp only [List.map_toArray, List.map_cons, List.map_nil]); first | done | rfl | (simp only [List.length_drop, List.length_take]; rfl)) ?_; (with_reducible refine (l16_few.calls _ _ l0_0 _ _ l0_1 a0_2 true _ (tG HR0_0 HB) HC0_0.out (tG HR0_1 HB) HC0_1.out A3.out).mono ?_); rintro e w9 ⟨rfl, hb⟩; refine ⟨_, rfl, ?_⟩; replace BK101 := tL BK101 hb; replace HB := tA HB hb; (try clear hb); (try clear hb2); (try clear hk); (try clear hi); obtain ⟨hcz10_0, hcz10_1, hcz10_2, hfz10_0, hfz10_1, hfz10_2⟩ := zc3 BK101) | ((with_reducible refine gate_callee (f := 27) rfl ?_); refine goesL_ (some 18) rfl rfl Try.func27 (by kernel_rfl) rfl #[.agg #[.slice A0_0 l0_0.length c0_0, .slice A0_1 l0_1.length c0_1, .bool a0_2], .int .i64 4] rfl (by (try simp only [List.map_toArray, List.map_cons, List.map_nil]); first | done | rfl | (simp only [List.length_drop, List.length_take]; rfl)) ?_; (with_reducible refine (witness_Language.calls k _ _ l0_0 _ _ l0_1 a0_2 4 t104 _ (tG HR0_0 HB) HC0_0.out (tG HR0_1 HB) HC0_1.out A5.out).mono ?_); rintro e w11 ⟨v105, rfl, ho0, hb⟩; refine ⟨_, rfl, ?_⟩; have HO106 := Aside0.mk (Kd.N_lower ho0 (below_size (tB))); replace BK101 := tL BK101 hb; replace HB := tA HB hb; (try clear hb); (try clear hb2); (try clear hk); (try clear hi); (try clear ho0); obtain ⟨hcz12_0, hcz12_1, hcz12_2, hfz12_0, hfz12_1, hfz12_2⟩ := zc3 BK101) | ((with_reducible refine gate_callee (f := 14) rfl ?_); refine goesL_ (some 20) rfl rfl Try.func14 (by kernel_rfl) rfl #[.agg #[.slice A0_0 l0_0.length c0_0, .slice A0_1 l0_1.length c0_1, .bool a0_2]] rfl (by (try simp only [List.map_toArray, List.map_cons, List.map_nil]); first | done | rfl | (simp only [List.length_drop, List.length_take]; rfl)) ?_; (with_reducible refine (witness_Diameter.calls k _ _ l0_0 _ _ l0_1 a0_2 t107 _ (tG HR0_0 HB) HC0_0.out (tG HR0_1 HB) HC0_1.out A6.out).mono ?_); rintro e w13 ⟨rfl, hb⟩; refine ⟨_, rfl, ?_⟩; replace HO106 := Aside0.mk (Kd.N_below (tR HO106) hb); replace BK101 := tL BK101 hb; replace HB := tA HB hb; (try clear hb); (try clear hb2); (try clear hk); (try clear hi)))
  go_loopg [7, 8] k (fun kq v7 v8 w' => ∃ (x7_1 : Int) (x8_1 : Int), v7 = .int .i64 x7_1 ∧ v8 = .int .i64 x8_1 ∧ Aside0 (l16_WitnessAgrees.l0 kq a1 t104 t107 x7_1 x8_1 l0_0 l0_1 a0_2 = some r) ∧ Aside0 (kq ≤ k) ∧ Aside0 (Kd.N (Kd.slice 3 (Kd.int .i64)) 28 w' w.heap.size (fun _ => True) v105 t104) ∧ Aside0 (w'.heap[gb101]? = some (.cells #[(.slice A0_0 l0_0.length c0_0), (.slice A0_1 l0_1.length c0_1), .bool a0_2] 25 (0, 0))) ∧ Aside0 (Below w.heap.size w w'))
  case atStart => exact ⟨((-1)), (0), tU, tU, H', ⟨Nat.le_refl _⟩, ⟨tR HO106⟩, ⟨tK BK101⟩, ⟨tB⟩⟩
  case round =>
   clear H'
   (try clear c1); (try clear c2); (try clear p2); (try clear c4); (try clear c8); (try clear c9); (try clear hcz10_0 hcz10_1 hcz10_2 hfz10_0 hfz10_1 hfz10_2); (try clear hcz12_0 hcz12_1 hcz12_2 hfz12_0 hfz12_1 hfz12_2); (try clear hcz8_0 hcz8_1 hcz8_2 hfz8_0 hfz8_1 hfz8_2)
   obtain ⟨x7_1, x8_1, rfl, rfl, HA, HK1, HO_5, BK101, HB⟩ := hrel
   cases gk with
   | zero => exact absurd HA.out (by simp [l16_WitnessAgrees.l0])
   | succ k1 =>
    have H := HA.out
    clear HA
    simp only [l16_WitnessAgrees.l0] at H
    by_cases c14 : x8_1 < (l0_0.length : Int)
    ·rw [if_pos c14] at H
     have c14b0 := decide_eq_true c14
     clear c14
     replace H := Option.bind_eq_some_iff.mp H
     obtain ⟨⟨t108, t111⟩, A150, H⟩ := H
     (try dsimp only at H)
     have A15 := Aside0.mk A150
     clear A150
     by_cases c16 : t111 = true
     ·subst c16
      rw [if_pos rfl] at H
      obtain ⟨ji17, hji17⟩ : ∃ j_ : Int, (mx x7_1 (t108.length : Int)) = j_ := ⟨_, rfl⟩
      replace H : (if (t104.length : Int) < 5000 then (if (t108.length : Int) ≤ 4 then ((r14_Find.f k1 t104 t108).bind fun t112 => (if t112 < 0 then (some false) else (l16_WitnessAgrees.l0 k1 a1 t104 t107 ji17 (wrap64 (x8_1 + 1)) l0_0 l0_1 a0_2))) else (l16_WitnessAgrees.l0 k1 a1 t104 t107 ji17 (wrap64 (x8_1 + 1)) l0_0 l0_1 a0_2)) else (l16_WitnessAgrees.l0 k1 a1 t104 t107 ji17 (wrap64 (x8_1 + 1)) l0_0 l0_1 a0_2)) = some r := by first | (rw [hji17] at H; exact H) | (simp only [hji17] at H ⊢; exact H)
      (try rw [hji17] at A15)
      have hji17_ : (if x7_1 < (t108.length : Int) then (t108.length : Int) else x7_1) = ji17 := hji17
      by_cases c18 : (t104.length : Int) < 5000
      ·rw [if_pos c18] at H
       have c18b0 := decide_eq_true c18
       have c18b1 : decide (t104.length < 5000) = true := decide_eq_true (by omega)
       clear c18
       by_cases c19 : (t108.length : Int) ≤ 4
       ·rw [if_pos c19] at H
        have c19b0 := decide_eq_true c19
        have c19b1 : decide (t108.length ≤ 4) = true := decide_eq_true (by omega)
        clear c19
        replace H := Option.bind_eq_some_iff.mp H
        obtain ⟨t112, A200, H⟩ := H
        (try dsimp only at H)
        have A20 := Aside0.mk A200
        clear A200
        by_cases c21 : t112 < 0
        ·rw [if_pos c21] at H
         have c21b0 := decide_eq_true c21
         clear c21
         obtain rfl := Option.some.inj H
         obtain ⟨hcz22_0, hcz22_1, hcz22_2, hfz22_0, hfz22_1, hfz22_2⟩ := zc3 BK101
         go_wp2_with (first | ((with_reducible refine gate_callee (f := 18) rfl ?_); refine goesL_ (some 31) rfl rfl Try.func18 (by kernel_rfl) rfl #[.agg #[.slice A0_0 l0_0.length c0_0, .slice A0_1 l0_1.length c0_1, .bool a0_2], .int .i64 x8_1] rfl (by (try simp only [List.map_toArray, List.map_cons, List.map_nil]); first | done | rfl | (simp only [List.length_drop, List.length_take]; rfl)) ?_; (with_reducible refine (witness_To.calls k1 _ _ l0_0 _ _ l0_1 a0_2 x8_1 t108 true _ (tG HR0_0 HB) HC0_0.out (tG HR0_1 HB) HC0_1.out A15.out).mono ?_); rintro e w23 ⟨v109, rfl, ho0, hb⟩; refine ⟨_, rfl, ?_⟩; replace HO_5 := Aside0.mk (Kd.N_elder' (tR HO_5) (Kd.R_base ho0) hb); have HO110 := Aside0.mk (Kd.R_lower ho0 (below_size (tB))); replace BK101 := tL BK101 hb; replace HB := tA HB hb; (try clear hb); (try clear hb2); (try clear hk); (try clear hi); (try clear ho0); obtain ⟨Ao24, co24, eo24⟩ := Kd.R_slice HO110.out; subst eo24; obtain ⟨Ao25, co25, eo25⟩ := Kd.N_slice HO_5.out; subst eo25) | (go_at_call 32; (with_reducible refine (r14_Find.calls k1 _ _ t104 _ _ t108 t112 _ (tC (Kd.N_reads' HO_5.out).2.2) ((Kd.N_reads' HO_5.out).2.1) (tC (Kd.R_reads' HO110.out).2.2) ((Kd.R_reads' HO110.out).2.1) A20.out).mono ?_); rintro e w' ⟨rfl, ⟨nd, rfl⟩⟩))
         go_ret
         exact ⟨by first | rfl | (simp [errW_none, errW_some] <;> rfl) | (simp only [← hji17]; first | rfl | (simp [errW_none, errW_some] <;> rfl)) | (simp [*, errW_none, errW_some] <;> rfl), tB⟩
        rw [if_neg c21] at H
        have c21b0 := decide_eq_false c21
        clear c21
        have H' := Aside0.mk H
        clear H
        obtain ⟨hcz26_0, hcz26_1, hcz26_2, hfz26_0, hfz26_1, hfz26_2⟩ := zc3 BK101
        go_wp2_with (first | ((with_reducible refine gate_callee (f := 18) rfl ?_); refine goesL_ (some 31) rfl rfl Try.func18 (by kernel_rfl) rfl #[.agg #[.slice A0_0 l0_0.length c0_0, .slice A0_1 l0_1.length c0_1, .bool a0_2], .int .i64 x8_1] rfl (by (try simp only [List.map_toArray, List.map_cons, List.map_nil]); first | done | rfl | (simp only [List.length_drop, List.length_take]; rfl)) ?_; (with_reducible refine (witness_To.calls k1 _ _ l0_0 _ _ l0_1 a0_2 x8_1 t108 true _ (tG HR0_0 HB) HC0_0.out (tG HR0_1 HB) HC0_1.out A15.out).mono ?_); rintro e w27 ⟨v109, rfl, ho0, hb⟩; refine ⟨_, rfl, ?_⟩; replace HO_5 := Aside0.mk (Kd.N_elder' (tR HO_5) (Kd.R_base ho0) hb); have HO110 := Aside0.mk (Kd.R_lower ho0 (below_size (tB))); replace BK101 := tL BK101 hb; replace HB := tA HB hb; (try clear hb); (try clear hb2); (try clear hk); (try clear hi); (try clear ho0); obtain ⟨Ao28, co28, eo28⟩ := Kd.R_slice HO110.out; subst eo28; obtain ⟨Ao29, co29, eo29⟩ := Kd.N_slice HO_5.out; subst eo29) | (go_at_call 32; (with_reducible refine (r14_Find.calls k1 _ _ t104 _ _ t108 t112 _ (tC (Kd.N_reads' HO_5.out).2.2) ((Kd.N_reads' HO_5.out).2.1) (tC (Kd.R_reads' HO110.out).2.2) ((Kd.R_reads' HO110.out).2.1) A20.out).mono ?_); rintro e w' ⟨rfl, ⟨nd, rfl⟩⟩))
        go_roundg k1
        case measure => have := HK1.out; omega
        case rel => exact ⟨(ji17), (wrap64 (x8_1 + 1)), (by first | rfl | (simp; done) | (simp only [← hji17] <;> (first | rfl | simp)) | (simp [*]; done)), tU, H', ⟨by have := HK1.out; omega⟩, ⟨by (with_reducible repeat (first | apply Kd.N_alloc | apply Kd.N_drewN | apply Kd.N_drew)); exact Kd.N_mono HO_5.out (fun _ hk => trivial)⟩, ⟨tK BK101⟩, ⟨tB⟩⟩
       rw [if_neg c19] at H
       have c19b0 := decide_eq_false c19
       have c19b1 : decide (t108.length ≤ 4) = false := decide_eq_false (by omega)
       clear c19
       have H' := Aside0.mk H
       clear H
       obtain ⟨hcz30_0, hcz30_1, hcz30_2, hfz30_0, hfz30_1, hfz30_2⟩ := zc3 BK101
       go_wp2_with (first | ((with_reducible refine gate_callee (f := 18) rfl ?_); refine goesL_ (some 31) rfl rfl Try.func18 (by kernel_rfl) rfl #[.agg #[.slice A0_0 l0_0.length c0_0, .slice A0_1 l0_1.length c0_1, .bool a0_2], .int .i64 x8_1] rfl (by (try simp only [List.map_toArray, List.map_cons, List.map_nil]); first | done | rfl | (simp only [List.length_drop, List.length_take]; rfl)) ?_; (with_reducible refine (witness_To.calls k1 _ _ l0_0 _ _ l0_1 a0_2 x8_1 t108 true _ (tG HR0_0 HB) HC0_0.out (tG HR0_1 HB) HC0_1.out A15.out).mono ?_); rintro e w31 ⟨v109, rfl, ho0, hb⟩; refine ⟨_, rfl, ?_⟩; replace HO_5 := Aside0.mk (Kd.N_elder' (tR HO_5) (Kd.R_base ho0) hb); have HO110 := Aside0.mk (Kd.R_lower ho0 (below_size (tB))); replace BK101 := tL BK101 hb; replace HB := tA HB hb; (try clear hb); (try clear hb2); (try clear hk); (try clear hi); (try clear ho0); obtain ⟨Ao32, co32, eo32⟩ := Kd.R_slice HO110.out; subst eo32; obtain ⟨Ao33, co33, eo33⟩ := Kd.N_slice HO_5.out; subst eo33))
       go_roundg k1
       case measure => have := HK1.out; omega
       case rel => exact ⟨(ji17), (wrap64 (x8_1 + 1)), (by first | rfl | (simp; done) | (simp only [← hji17] <;> (first | rfl | simp)) | (simp [*]; done)), tU, H', ⟨by have := HK1.out; omega⟩, ⟨by (with_reducible repeat (first | apply Kd.N_alloc | apply Kd.N_drewN | apply Kd.N_drew)); exact Kd.N_mono HO_5.out (fun _ hk => trivial)⟩, ⟨tK BK101⟩, ⟨tB⟩⟩
      rw [if_neg c18] at H
      have c18b0 := decide_eq_false c18
      have c18b1 : decide (t104.length < 5000) = false := decide_eq_false (by omega)
      clear c18
      have H' := Aside0.mk H
      clear H
      obtain ⟨hcz34_0, hcz34_1, hcz34_2, hfz34_0, hfz34_1, hfz34_2⟩ := zc3 BK101
      go_wp2_with (first | ((with_reducible refine gate_callee (f := 18) rfl ?_); refine goesL_ (some 31) rfl rfl Try.func18 (by kernel_rfl) rfl #[.agg #[.slice A0_0 l0_0.length c0_0, .slice A0_1 l0_1.length c0_1, .bool a0_2], .int .i64 x8_1] rfl (by (try simp only [List.map_toArray, List.map_cons, List.map_nil]); first | done | rfl | (simp only [List.length_drop, List.length_take]; rfl)) ?_; (with_reducible refine (witness_To.calls k1 _ _ l0_0 _ _ l0_1 a0_2 x8_1 t108 true _ (tG HR0_0 HB) HC0_0.out (tG HR0_1 HB) HC0_1.out A15.out).mono ?_); rintro e w35 ⟨v109, rfl, ho0, hb⟩; refine ⟨_, rfl, ?_⟩; replace HO_5 := Aside0.mk (Kd.N_elder' (tR HO_5) (Kd.R_base ho0) hb); have HO110 := Aside0.mk (Kd.R_lower ho0 (below_size (tB))); replace BK101 := tL BK101 hb; replace HB := tA HB hb; (try clear hb); (try clear hb2); (try clear hk); (try clear hi); (try clear ho0); obtain ⟨Ao36, co36, eo36⟩ := Kd.R_slice HO110.out; subst eo36; obtain ⟨Ao37, co37, eo37⟩ := Kd.N_slice HO_5.out; subst eo37))
      go_roundg k1
      case measure => have := HK1.out; omega
      case rel => exact ⟨(ji17), (wrap64 (x8_1 + 1)), (by first | rfl | (simp; done) | (simp only [← hji17] <;> (first | rfl | simp)) | (simp [*]; done)), tU, H', ⟨by have := HK1.out; omega⟩, ⟨by (with_reducible repeat (first | apply Kd.N_alloc | apply Kd.N_drewN | apply Kd.N_drew)); exact Kd.N_mono HO_5.out (fun _ hk => trivial)⟩, ⟨tK BK101⟩, ⟨tB⟩⟩
     replace c16 := Bool.eq_false_iff.mpr c16
     subst c16
     rw [if_neg (show ¬ (false = true) by decide)] at H
     have H' := Aside0.mk H
     clear H
     obtain ⟨hcz38_0, hcz38_1, hcz38_2, hfz38_0, hfz38_1, hfz38_2⟩ := zc3 BK101
     go_wp2_with (first | ((with_reducible refine gate_callee (f := 18) rfl ?_); refine goesL_ (some 31) rfl rfl Try.func18 (by kernel_rfl) rfl #[.agg #[.slice A0_0 l0_0.length c0_0, .slice A0_1 l0_1.length c0_1, .bool a0_2], .int .i64 x8_1] rfl (by (try simp only [List.map_toArray, List.map_cons, List.map_nil]); first | done | rfl | (simp only [List.length_drop, List.length_take]; rfl)) ?_; (with_reducible refine (witness_To.calls k1 _ _ l0_0 _ _ l0_1 a0_2 x8_1 t108 false _ (tG HR0_0 HB) HC0_0.out (tG HR0_1 HB) HC0_1.out A15.out).mono ?_); rintro e w39 ⟨v109, rfl, ho0, hb⟩; refine ⟨_, rfl, ?_⟩; replace HO_5 := Aside0.mk (Kd.N_elder' (tR HO_5) (Kd.R_base ho0) hb); have HO110 := Aside0.mk (Kd.R_lower ho0 (below_size (tB))); replace BK101 := tL BK101 hb; replace HB := tA HB hb; (try clear hb); (try clear hb2); (try clear hk); (try clear hi); (try clear ho0)))
     go_roundg k1
     case measure => have := HK1.out; omega
     case rel => exact ⟨(x7_1), (wrap64 (x8_1 + 1)), tU, tU, H', ⟨by have := HK1.out; omega⟩, ⟨by (with_reducible repeat (first | apply Kd.N_alloc | apply Kd.N_drewN | apply Kd.N_drew)); exact Kd.N_mono HO_5.out (fun _ hk => trivial)⟩, ⟨tK BK101⟩, ⟨tB⟩⟩
    rw [if_neg c14] at H
    have c14b0 := decide_eq_false c14
    clear c14
    replace H := Option.bind_eq_some_iff.mp H
    obtain ⟨⟨t113, t116⟩, A400, H⟩ := H
    (try dsimp only at H)
    have A40 := Aside0.mk A400
    clear A400
    by_cases c41 : t116 = true
    ·subst c41
     rw [if_pos rfl] at H
     by_cases c42 : (t104.length : Int) < 5000
     ·rw [if_pos c42] at H
      have c42b0 := decide_eq_true c42
      have c42b1 : decide (t104.length < 5000) = true := decide_eq_true (by omega)
      clear c42
      by_cases c43 : (t113.length : Int) ≤ 4
      ·rw [if_pos c43] at H
       have c43b0 := decide_eq_true c43
       have c43b1 : decide (t113.length ≤ 4) = true := decide_eq_true (by omega)
       clear c43
       replace H := Option.bind_eq_some_iff.mp H
       obtain ⟨t117, A440, H⟩ := H
       (try dsimp only at H)
       have A44 := Aside0.mk A440
       clear A440
       by_cases c45 : t117 < 0
       ·rw [if_pos c45] at H
        have c45b0 := decide_eq_true c45
        clear c45
        obtain rfl := Option.some.inj H
        obtain ⟨hcz46_0, hcz46_1, hcz46_2, hfz46_0, hfz46_1, hfz46_2⟩ := zc3 BK101
        go_wp2_with (first | ((with_reducible refine gate_callee (f := 25) rfl ?_); refine goesL_ (some 59) rfl rfl Try.func25 (by kernel_rfl) rfl #[.agg #[.slice A0_0 l0_0.length c0_0, .slice A0_1 l0_1.length c0_1, .bool a0_2], .int .i64 a1] rfl (by (try simp only [List.map_toArray, List.map_cons, List.map_nil]); first | done | rfl | (simp only [List.length_drop, List.length_take]; rfl)) ?_; (with_reducible refine (witness_Fires.calls k1 _ _ l0_0 _ _ l0_1 a0_2 a1 t113 true _ (tG HR0_0 HB) HC0_0.out (tG HR0_1 HB) HC0_1.out A40.out).mono ?_); rintro e w47 ⟨v114, rfl, ho0, hb⟩; refine ⟨_, rfl, ?_⟩; replace HO_5 := Aside0.mk (Kd.N_elder' (tR HO_5) (Kd.R_base ho0) hb); have HO115 := Aside0.mk (Kd.R_lower ho0 (below_size (tB))); replace BK101 := tL BK101 hb; replace HB := tA HB hb; (try clear hb); (try clear hb2); (try clear hk); (try clear hi); (try clear ho0); obtain ⟨Ao48, co48, eo48⟩ := Kd.N_slice HO_5.out; subst eo48; obtain ⟨Ao49, co49, eo49⟩ := Kd.R_slice HO115.out; subst eo49) | (go_at_call 32; (with_reducible refine (r14_Find.calls k1 _ _ t104 _ _ t113 t117 _ (tC (Kd.N_reads' HO_5.out).2.2) ((Kd.N_reads' HO_5.out).2.1) (tC (Kd.R_reads' HO115.out).2.2) ((Kd.R_reads' HO115.out).2.1) A44.out).mono ?_); rintro e w' ⟨rfl, ⟨nd, rfl⟩⟩))
        go_ret
        exact ⟨tE, tB⟩
       rw [if_neg c45] at H
       have c45b0 := decide_eq_false c45
       clear c45
       by_cases c50 : x7_1 = t107
       ·rw [if_pos c50] at H
        have c50b0 := beq_iff_eq.mpr c50
        have c50b1 := bne_eq_false_iff_eq.mpr c50
        clear c50
        replace H := Option.bind_eq_some_iff.mp H
        obtain ⟨t118, A510, H⟩ := H
        (try dsimp only at H)
        have A51 := Aside0.mk A510
        clear A510
        obtain rfl := Option.some.inj H
        obtain ⟨hcz52_0, hcz52_1, hcz52_2, hfz52_0, hfz52_1, hfz52_2⟩ := zc3 BK101
        go_wp2_with (first | ((with_reducible refine gate_callee (f := 25) rfl ?_); refine goesL_ (some 59) rfl rfl Try.func25 (by kernel_rfl) rfl #[.agg #[.slice A0_0 l0_0.length c0_0, .slice A0_1 l0_1.length c0_1, .bool a0_2], .int .i64 a1] rfl (by (try simp only [List.map_toArray, List.map_cons, List.map_nil]); first | done | rfl | (simp only [List.length_drop, List.length_take]; rfl)) ?_; (with_reducible refine (witness_Fires.calls k1 _ _ l0_0 _ _ l0_1 a0_2 a1 t113 true _ (tG HR0_0 HB) HC0_0.out (tG HR0_1 HB) HC0_1.out A40.out).mono ?_); rintro e w53 ⟨v114, rfl, ho0, hb⟩; refine ⟨_, rfl, ?_⟩; replace HO_5 := Aside0.mk (Kd.N_elder' (tR HO_5) (Kd.R_base ho0) hb); have HO115 := Aside0.mk (Kd.R_lower ho0 (below_size (tB))); replace BK101 := tL BK101 hb; replace HB := tA HB hb; (try clear hb); (try clear hb2); (try clear hk); (try clear hi); (try clear ho0); obtain ⟨Ao54, co54, eo54⟩ := Kd.N_slice HO_5.out; subst eo54; obtain ⟨Ao55, co55, eo55⟩ := Kd.R_slice HO115.out; subst eo55) | (go_at_call 32; (with_reducible refine (r14_Find.calls k1 _ _ t104 _ _ t113 t117 _ (tC (Kd.N_reads' HO_5.out).2.2) ((Kd.N_reads' HO_5.out).2.1) (tC (Kd.R_reads' HO115.out).2.2) ((Kd.R_reads' HO115.out).2.1) A44.out).mono ?_); rintro e w' ⟨rfl, ⟨nd, rfl⟩⟩) | (go_at_call 10; (with_reducible refine (l16_alive.calls k1  t118 _ A51.out).mono ?_); rintro e w56 ⟨rfl, hb⟩; replace HO_5 := Aside0.mk (Kd.N_below (tR HO_5) hb); replace HO115 := Aside0.mk (Kd.R_below (tR HO115) hb); replace BK101 := tL BK101 hb; replace HB := tA HB hb; (try clear hb); (try clear hb2); (try clear hk); (try clear hi)))
        go_ret
        exact ⟨tE, tB⟩
       rw [if_neg c50] at H
       have c50b0 := beq_eq_false_iff_ne.mpr c50
       have c50b1 := bne_iff_ne.mpr c50
       obtain rfl := Option.some.inj H
       obtain ⟨hcz57_0, hcz57_1, hcz57_2, hfz57_0, hfz57_1, hfz57_2⟩ := zc3 BK101
       go_wp2_with (first | ((with_reducible refine gate_callee (f := 25) rfl ?_); refine goesL_ (some 59) rfl rfl Try.func25 (by kernel_rfl) rfl #[.agg #[.slice A0_0 l0_0.length c0_0, .slice A0_1 l0_1.length c0_1, .bool a0_2], .int .i64 a1] rfl (by (try simp only [List.map_toArray, List.map_cons, List.map_nil]); first | done | rfl | (simp only [List.length_drop, List.length_take]; rfl)) ?_; (with_reducible refine (witness_Fires.calls k1 _ _ l0_0 _ _ l0_1 a0_2 a1 t113 true _ (tG HR0_0 HB) HC0_0.out (tG HR0_1 HB) HC0_1.out A40.out).mono ?_); rintro e w58 ⟨v114, rfl, ho0, hb⟩; refine ⟨_, rfl, ?_⟩; replace HO_5 := Aside0.mk (Kd.N_elder' (tR HO_5) (Kd.R_base ho0) hb); have HO115 := Aside0.mk (Kd.R_lower ho0 (below_size (tB))); replace BK101 := tL BK101 hb; replace HB := tA HB hb; (try clear hb); (try clear hb2); (try clear hk); (try clear hi); (try clear ho0); obtain ⟨Ao59, co59, eo59⟩ := Kd.N_slice HO_5.out; subst eo59; obtain ⟨Ao60, co60, eo60⟩ := Kd.R_slice HO115.out; subst eo60) | (go_at_call 32; (with_reducible refine (r14_Find.calls k1 _ _ t104 _ _ t113 t117 _ (tC (Kd.N_reads' HO_5.out).2.2) ((Kd.N_reads' HO_5.out).2.1) (tC (Kd.R_reads' HO115.out).2.2) ((Kd.R_reads' HO115.out).2.1) A44.out).mono ?_); rintro e w' ⟨rfl, ⟨nd, rfl⟩⟩))
       go_ret
       exact ⟨tE, tB⟩
      rw [if_neg c43] at H
      have c43b0 := decide_eq_false c43
      have c43b1 : decide (t113.length ≤ 4) = false := decide_eq_false (by omega)
      clear c43
      by_cases c61 : x7_1 = t107
      ·rw [if_pos c61] at H
       have c61b0 := beq_iff_eq.mpr c61
       have c61b1 := bne_eq_false_iff_eq.mpr c61
       clear c61
       replace H := Option.bind_eq_some_iff.mp H
       obtain ⟨t119, A620, H⟩ := H
       (try dsimp only at H)
       have A62 := Aside0.mk A620
       clear A620
       obtain rfl := Option.some.inj H
       obtain ⟨hcz63_0, hcz63_1, hcz63_2, hfz63_0, hfz63_1, hfz63_2⟩ := zc3 BK101
       go_wp2_with (first | ((with_reducible refine gate_callee (f := 25) rfl ?_); refine goesL_ (some 59) rfl rfl Try.func25 (by kernel_rfl) rfl #[.agg #[.slice A0_0 l0_0.length c0_0, .slice A0_1 l0_1.length c0_1, .bool a0_2], .int .i64 a1] rfl (by (try simp only [List.map_toArray, List.map_cons, List.map_nil]); first | done | rfl | (simp only [List.length_drop, List.length_take]; rfl)) ?_; (with_reducible refine (witness_Fires.calls k1 _ _ l0_0 _ _ l0_1 a0_2 a1 t113 true _ (tG HR0_0 HB) HC0_0.out (tG HR0_1 HB) HC0_1.out A40.out).mono ?_); rintro e w64 ⟨v114, rfl, ho0, hb⟩; refine ⟨_, rfl, ?_⟩; replace HO_5 := Aside0.mk (Kd.N_elder' (tR HO_5) (Kd.R_base ho0) hb); have HO115 := Aside0.mk (Kd.R_lower ho0 (below_size (tB))); replace BK101 := tL BK101 hb; replace HB := tA HB hb; (try clear hb); (try clear hb2); (try clear hk); (try clear hi); (try clear ho0); obtain ⟨Ao65, co65, eo65⟩ := Kd.N_slice HO_5.out; subst eo65; obtain ⟨Ao66, co66, eo66⟩ := Kd.R_slice HO115.out; subst eo66) | (go_at_call 10; (with_reducible refine (l16_alive.calls k1  t119 _ A62.out).mono ?_); rintro e w67 ⟨rfl, hb⟩; replace HO_5 := Aside0.mk (Kd.N_below (tR HO_5) hb); replace HO115 := Aside0.mk (Kd.R_below (tR HO115) hb); replace BK101 := tL BK101 hb; replace HB := tA HB hb; (try clear hb); (try clear hb2); (try clear hk); (try clear hi)))
       go_ret
       exact ⟨tE, tB⟩
      rw [if_neg c61] at H
      have c61b0 := beq_eq_false_iff_ne.mpr c61
      have c61b1 := bne_iff_ne.mpr c61
      obtain rfl := Option.some.inj H
      obtain ⟨hcz68_0, hcz68_1, hcz68_2, hfz68_0, hfz68_1, hfz68_2⟩ := zc3 BK101
      go_wp2_with (first | ((with_reducible refine gate_callee (f := 25) rfl ?_); refine goesL_ (some 59) rfl rfl Try.func25 (by kernel_rfl) rfl #[.agg #[.slice A0_0 l0_0.length c0_0, .slice A0_1 l0_1.length c0_1, .bool a0_2], .int .i64 a1] rfl (by (try simp only [List.map_toArray, List.map_cons, List.map_nil]); first | done | rfl | (simp only [List.length_drop, List.length_take]; rfl)) ?_; (with_reducible refine (witness_Fires.calls k1 _ _ l0_0 _ _ l0_1 a0_2 a1 t113 true _ (tG HR0_0 HB) HC0_0.out (tG HR0_1 HB) HC0_1.out A40.out).mono ?_); rintro e w69 ⟨v114, rfl, ho0, hb⟩; refine ⟨_, rfl, ?_⟩; replace HO_5 := Aside0.mk (Kd.N_elder' (tR HO_5) (Kd.R_base ho0) hb); have HO115 := Aside0.mk (Kd.R_lower ho0 (below_size (tB))); replace BK101 := tL BK101 hb; replace HB := tA HB hb; (try clear hb); (try clear hb2); (try clear hk); (try clear hi); (try clear ho0); obtain ⟨Ao70, co70, eo70⟩ := Kd.N_slice HO_5.out; subst eo70; obtain ⟨Ao71, co71, eo71⟩ := Kd.R_slice HO115.out; subst eo71))
      go_ret
      exact ⟨tE, tB⟩
     rw [if_neg c42] at H
     have c42b0 := decide_eq_false c42
     have c42b1 : decide (t104.length < 5000) = false := decide_eq_false (by omega)
     clear c42
     by_cases c72 : x7_1 = t107
     ·rw [if_pos c72] at H
      have c72b0 := beq_iff_eq.mpr c72
      have c72b1 := bne_eq_false_iff_eq.mpr c72
      clear c72
      replace H := Option.bind_eq_some_iff.mp H
      obtain ⟨t120, A730, H⟩ := H
      (try dsimp only at H)
      have A73 := Aside0.mk A730
      clear A730
      obtain rfl := Option.some.inj H
      obtain ⟨hcz74_0, hcz74_1, hcz74_2, hfz74_0, hfz74_1, hfz74_2⟩ := zc3 BK101
      go_wp2_with (first | ((with_reducible refine gate_callee (f := 25) rfl ?_); refine goesL_ (some 59) rfl rfl Try.func25 (by kernel_rfl) rfl #[.agg #[.slice A0_0 l0_0.length c0_0, .slice A0_1 l0_1.length c0_1, .bool a0_2], .int .i64 a1] rfl (by (try simp only [List.map_toArray, List.map_cons, List.map_nil]); first | done | rfl | (simp only [List.length_drop, List.length_take]; rfl)) ?_; (with_reducible refine (witness_Fires.calls k1 _ _ l0_0 _ _ l0_1 a0_2 a1 t113 true _ (tG HR0_0 HB) HC0_0.out (tG HR0_1 HB) HC0_1.out A40.out).mono ?_); rintro e w75 ⟨v114, rfl, ho0, hb⟩; refine ⟨_, rfl, ?_⟩; replace HO_5 := Aside0.mk (Kd.N_elder' (tR HO_5) (Kd.R_base ho0) hb); have HO115 := Aside0.mk (Kd.R_lower ho0 (below_size (tB))); replace BK101 := tL BK101 hb; replace HB := tA HB hb; (try clear hb); (try clear hb2); (try clear hk); (try clear hi); (try clear ho0); obtain ⟨Ao76, co76, eo76⟩ := Kd.N_slice HO_5.out; subst eo76) | (go_at_call 10; (with_reducible refine (l16_alive.calls k1  t120 _ A73.out).mono ?_); rintro e w77 ⟨rfl, hb⟩; replace HO_5 := Aside0.mk (Kd.N_below (tR HO_5) hb); replace HO115 := Aside0.mk (Kd.R_below (tR HO115) hb); replace BK101 := tL BK101 hb; replace HB := tA HB hb; (try clear hb); (try clear hb2); (try clear hk); (try clear hi)))
      go_ret
      exact ⟨tE, tB⟩
     rw [if_neg c72] at H
     have c72b0 := beq_eq_false_iff_ne.mpr c72
     have c72b1 := bne_iff_ne.mpr c72
     obtain rfl := Option.some.inj H
     obtain ⟨hcz78_0, hcz78_1, hcz78_2, hfz78_0, hfz78_1, hfz78_2⟩ := zc3 BK101
     go_wp2_with (first | ((with_reducible refine gate_callee (f := 25) rfl ?_); refine goesL_ (some 59) rfl rfl Try.func25 (by kernel_rfl) rfl #[.agg #[.slice A0_0 l0_0.length c0_0, .slice A0_1 l0_1.length c0_1, .bool a0_2], .int .i64 a1] rfl (by (try simp only [List.map_toArray, List.map_cons, List.map_nil]); first | done | rfl | (simp only [List.length_drop, List.length_take]; rfl)) ?_; (with_reducible refine (witness_Fires.calls k1 _ _ l0_0 _ _ l0_1 a0_2 a1 t113 true _ (tG HR0_0 HB) HC0_0.out (tG HR0_1 HB) HC0_1.out A40.out).mono ?_); rintro e w79 ⟨v114, rfl, ho0, hb⟩; refine ⟨_, rfl, ?_⟩; replace HO_5 := Aside0.mk (Kd.N_elder' (tR HO_5) (Kd.R_base ho0) hb); have HO115 := Aside0.mk (Kd.R_lower ho0 (below_size (tB))); replace BK101 := tL BK101 hb; replace HB := tA HB hb; (try clear hb); (try clear hb2); (try clear hk); (try clear hi); (try clear ho0); obtain ⟨Ao80, co80, eo80⟩ := Kd.N_slice HO_5.out; subst eo80))
     go_ret
     exact ⟨tE, tB⟩
    replace c41 := Bool.eq_false_iff.mpr c41
    subst c41
    rw [if_neg (show ¬ (false = true) by decide)] at H
    by_cases c81 : x7_1 = t107
    ·rw [if_pos c81] at H
     have c81b0 := beq_iff_eq.mpr c81
     have c81b1 := bne_eq_false_iff_eq.mpr c81
     clear c81
     replace H := Option.bind_eq_some_iff.mp H
     obtain ⟨t121, A820, H⟩ := H
     (try dsimp only at H)
     have A82 := Aside0.mk A820
     clear A820
     obtain rfl := Option.some.inj H
     obtain ⟨hcz83_0, hcz83_1, hcz83_2, hfz83_0, hfz83_1, hfz83_2⟩ := zc3 BK101
     go_wp2_with (first | ((with_reducible refine gate_callee (f := 25) rfl ?_); refine goesL_ (some 59) rfl rfl Try.func25 (by kernel_rfl) rfl #[.agg #[.slice A0_0 l0_0.length c0_0, .slice A0_1 l0_1.length c0_1, .bool a0_2], .int .i64 a1] rfl (by (try simp only [List.map_toArray, List.map_cons, List.map_nil]); first | done | rfl | (simp only [List.length_drop, List.length_take]; rfl)) ?_; (with_reducible refine (witness_Fires.calls k1 _ _ l0_0 _ _ l0_1 a0_2 a1 t113 false _ (tG HR0_0 HB) HC0_0.out (tG HR0_1 HB) HC0_1.out A40.out).mono ?_); rintro e w84 ⟨v114, rfl, ho0, hb⟩; refine ⟨_, rfl, ?_⟩; replace HO_5 := Aside0.mk (Kd.N_elder' (tR HO_5) (Kd.R_base ho0) hb); have HO115 := Aside0.mk (Kd.R_lower ho0 (below_size (tB))); replace BK101 := tL BK101 hb; replace HB := tA HB hb; (try clear hb); (try clear hb2); (try clear hk); (try clear hi); (try clear ho0)) | (go_at_call 10; (with_reducible refine (l16_alive.calls k1  t121 _ A82.out).mono ?_); rintro e w85 ⟨rfl, hb⟩; replace HO_5 := Aside0.mk (Kd.N_below (tR HO_5) hb); replace HO115 := Aside0.mk (Kd.R_below (tR HO115) hb); replace BK101 := tL BK101 hb; replace HB := tA HB hb; (try clear hb); (try clear hb2); (try clear hk); (try clear hi)))
     go_ret
     exact ⟨tE, tB⟩
    rw [if_neg c81] at H
    have c81b0 := beq_eq_false_iff_ne.mpr c81
    have c81b1 := bne_iff_ne.mpr c81
    obtain rfl := Option.some.inj H
    obtain ⟨hcz86_0, hcz86_1, hcz86_2, hfz86_0, hfz86_1, hfz86_2⟩ := zc3 BK101
    go_wp2_with (first | ((with_reducible refine gate_callee (f := 25) rfl ?_); refine goesL_ (some 59) rfl rfl Try.func25 (by kernel_rfl) rfl #[.agg #[.slice A0_0 l0_0.length c0_0, .slice A0_1 l0_1.length c0_1, .bool a0_2], .int .i64 a1] rfl (by (try simp only [List.map_toArray, List.map_cons, List.map_nil]); first | done | rfl | (simp only [List.length_drop, List.length_take]; rfl)) ?_; (with_reducible refine (witness_Fires.calls k1 _ _ l0_0 _ _ l0_1 a0_2 a1 t113 false _ (tG HR0_0 HB) HC0_0.out (tG HR0_1 HB) HC0_1.out A40.out).mono ?_); rintro e w87 ⟨v114, rfl, ho0, hb⟩; refine ⟨_, rfl, ?_⟩; replace HO_5 := Aside0.mk (Kd.N_elder' (tR HO_5) (Kd.R_base ho0) hb); have HO115 := Aside0.mk (Kd.R_lower ho0 (below_size (tB))); replace BK101 := tL BK101 hb; replace HB := tA HB hb; (try clear hb); (try clear hb2); (try clear hk); (try clear hi); (try clear ho0)))
    go_ret
    exact ⟨tE, tB⟩
 replace c4 := Bool.eq_false_iff.mpr c4
 subst c4
 rw [if_neg (show ¬ (false = true) by decide)] at H
 replace H := Option.bind_eq_some_iff.mp H
 obtain ⟨t103, A880, H⟩ := H
 (try dsimp only at H)
 have A88 := Aside0.mk A880
 clear A880
 obtain rfl := Option.some.inj H
 go_enter Try.func8, Try.ntmps8
 go_wp2_with (first | ((with_reducible refine gate_dst (N := 2) rfl ?_); (try (refine gate_guard (by rfl) ?_; dsimp only)); refine tBx 2 25 #[.slice A0_0 l0_0.length c0_0, .slice A0_1 l0_1.length c0_1, .bool a0_2] ?_; intro gb101 hg w89 hbox hb; have BK101 := Aside0.mk (hbox); have GW101 := tW HB hg; have GE101 := tW HB hg; replace HB := tA HB hb; clear hb hbox hg; obtain ⟨hcz90_0, hcz90_1, hcz90_2, hfz90_0, hfz90_1, hfz90_2⟩ := zc3 BK101) | ((with_reducible refine gate_callee (f := 9) rfl ?_); refine goesL_ (some 14) rfl rfl Try.func9 (by kernel_rfl) rfl #[.agg #[.slice A0_0 l0_0.length c0_0, .slice A0_1 l0_1.length c0_1, .bool a0_2]] rfl (by (try simp only [List.map_toArray, List.map_cons, List.map_nil]); first | done | rfl | (simp only [List.length_drop, List.length_take]; rfl)) ?_; (with_reducible refine (l16_few.calls _ _ l0_0 _ _ l0_1 a0_2 false _ (tG HR0_0 HB) HC0_0.out (tG HR0_1 HB) HC0_1.out A3.out).mono ?_); rintro e w91 ⟨rfl, hb⟩; refine ⟨_, rfl, ?_⟩; replace BK101 := tL BK101 hb; replace HB := tA HB hb; (try clear hb); (try clear hb2); (try clear hk); (try clear hi)) | ((with_reducible refine gate_callee (f := 10) rfl ?_); refine goesL_ (some 16) rfl rfl Try.func10 (by kernel_rfl) rfl #[] rfl (by (try simp only [List.map_toArray, List.map_cons, List.map_nil]); first | done | rfl | (simp only [List.length_drop, List.length_take]; rfl)) ?_; (with_reducible refine (l16_alive.calls k  t103 _ A88.out).mono ?_); rintro e w92 ⟨rfl, hb⟩; refine ⟨_, rfl, ?_⟩; replace BK101 := tL BK101 hb; replace HB := tA HB hb; (try clear hb); (try clear hb2); (try clear hk); (try clear hi)))
 go_ret
 exact ⟨tE, tB⟩
end Go.Proofs.Ytfnjbgggmddgpaa.Q
end
section
set_option linter.unusedVariables false
set_option linter.unusedSimpArgs false
namespace Go.Proofs.Ytfnjbgggmddgpaa.Q
open Go.RowKit Go.Proofs.Fn Go.Proofs.YtfnjbgggmddgpaaW.PrintWords Go.Proofs.YtfnjbgggmddgpaaW.PrintMore Go.Proofs.Gr
theorem Path.snoc {T : List (List S80)} {s t : Nat} {l : List Int} (h : Path T s l t) {e : S80} (he : e ∈ T.getD t []) {z : Nat} (hz : e.f2 = (z : Int)) : Path T s (l ++ [e.f1]) z := by
  induction h with
  | nil s => exact .cons s e z [] z he hz (.nil z)
  | cons s e' t l z' h1 h2 _ ih => exact .cons s e' t _ z h1 h2 (ih he)
theorem Path.itl {T : List (List S80)} {s t : Nat} {l : List Int} (h : Path T s l t) : ∀ (acc : List Int) (lev : List Pth), (acc, (s : Int)) ∈ lev → (acc ++ l, (t : Int)) ∈ itl T l.length lev := by
  induction h with
  | nil s => intro acc lev h; simpa [Q.itl] using h
  | cons s e t l z h1 h2 _ ih =>
    intro acc lev h
    have h3 : (acc ++ [e.f1], (t : Int)) ∈ lev.flatMap (stp T) := List.mem_flatMap.2 ⟨_, h, List.mem_map.2 ⟨e, by simpa using h1, by rw [h2]⟩⟩
    have h4 := ih _ _ h3
    rw [List.append_assoc] at h4
    exact h4
theorem itl_levs (T : List (List S80)) : ∀ (n k : Nat) (lev : List Pth) (p : Pth), k < n → p ∈ itl T k lev → p ∈ levs T n lev := by
  intro n
  induction n with
  | zero => intro k lev p h; omega
  | succ n ih =>
    intro k lev p h hp
    rw [levs]
    cases k with
    | zero => exact List.mem_append_left _ hp
    | succ k => exact List.mem_append_right _ (ih k _ p (by omega) hp)
theorem path_LG {st : List (List Int)} {es : List S80} {l : List Int} {t : Nat} (h0 : 0 < st.length) (h : Path (tab st.length es) 0 l t) (hl : l.length ≤ 4) (hs : (LG st es 4).length < 5000) : l ∈ LG st es 4 := by
  unfold LG at hs ⊢
  rw [if_neg (by omega)] at hs ⊢
  rw [List.length_map, List.length_take] at hs
  rw [List.take_of_length_le (by omega)]
  have := h.itl [] [([], 0)] (List.mem_singleton.2 rfl)
  rw [List.nil_append] at this
  exact List.mem_map.2 ⟨_, itl_levs _ _ l.length _ _ (by have : (4 : Int).toNat = 4 := rfl; omega) this, rfl⟩
theorem found_ev {L : List (List Int)} {m : List Int} (hL : L.length ≤ 1000000) (hr : ∀ x ∈ L, x.length ≤ 1000000) (h : m ∈ L) : ∃ i : Nat, Evn (fun k => r14_Find.f k L m) (i : Int) := by
  obtain ⟨r, h1, h2⟩ := find_dp L m hL hr
  rcases h2 with ⟨_, h3⟩ | ⟨i, rfl, _⟩
  · exact absurd h h3
  · exact ⟨i, h1⟩
theorem agrees_law (st : List (List Int)) (es : List S80) (b : Bool) (t : Int) : Evn (fun k => l16_WitnessAgrees.f k st es b t) true := by
  unfold l16_WitnessAgrees.f
  rw [few_eq]
  refine Evn.bind (Evn.const _) ?_
  rcases Classical.em (st.length ≤ 16 ∧ es.length ≤ 40) with cc | cc
  case inr => exact Evn.neg (by simpa using cc) (alive_ev.bind (Evn.const _))
  refine Evn.pos (by simpa using cc) ?_
  have hn : st.length ≤ 1000000 := by omega
  have he : es.length ≤ 1000000 := by omega
  have hT := tab_ok (n := st.length) hn he
  have hs := LG_short st es 4 hn (by omega)
  obtain ⟨r, hr1, hr2, hr3, hr4, _⟩ := diameter_both st es b hn he
  refine (wlanguage_ev st es b 4 hn (by omega)).bind (hr4.bind ?_)
  have step : ∀ (l : List Int) (z : Nat) (F : Nat → Option Bool), 0 < st.length → Path (tab st.length es) 0 l z → Evn F true →
      Evn (fun k => if ((LG st es 4).length : Int) < 5000 then (if (l.length : Int) ≤ 4 then ((r14_Find.f k (LG st es 4) l).bind fun t112 => (if t112 < 0 then (some false) else F k)) else F k) else F k) true := by
    intro l z F h0 hp hF
    by_cases c1 : ((LG st es 4).length : Int) < 5000
    · refine Evn.pos c1 ?_
      by_cases c2 : (l.length : Int) ≤ 4
      · refine Evn.pos c2 ?_
        obtain ⟨i, hi⟩ := found_ev (L := LG st es 4) (by omega) (fun x hx => by have := hs.2 x hx; omega) (path_LG h0 hp (by omega) (by omega))
        exact hi.bind (Evn.neg (by omega) hF)
      · exact Evn.neg c2 hF
    · exact Evn.neg c1 hF
  have key : ∀ (m i : Nat) (x : Int), i + m = st.length → -1 ≤ x → x ≤ r → (∀ j, j < i → ∀ d, Lab st.length (E (tab st.length es)) (fun q => ((q : Int) == (j : Int)) = true) d → d 0 ≤ x) →
      Evn (fun k => l16_WitnessAgrees.l0 k t (LG st es 4) r x (i : Int) st es b) true := by
    intro m
    induction m with
    | zero =>
      intro i x hi hx0 hx hj
      have hxr : x = r := by
        rcases Nat.eq_zero_or_pos st.length with h0 | h0
        · have := hr2 h0; omega
        · obtain ⟨a, ha, hd⟩ := hr3 h0
          obtain ⟨d, ⟨_, hL⟩, _⟩ := rdistances_ev hT (fun q => ((q : Int) == (a : Int)))
          have h1 := hd _ hL
          have h2 := hj a (by omega) _ hL
          omega
      have fin : Evn (fun k => if x = r then ((l16_alive.f k).bind fun t118 => (some t118)) else (some false)) true := Evn.pos hxr (alive_ev.bind (Evn.const _))
      refine Evn.succ ?_
      simp only [l16_WitnessAgrees.l0]
      refine Evn.neg (by omega) ?_
      obtain ⟨l, ok, hF, h1, _⟩ := fires_both st es b hn he t
      refine h1.bind ?_
      cases ok with
      | false => exact Evn.neg (by simp) fin
      | true =>
        refine Evn.pos rfl ?_
        obtain ⟨s, z, hsz, hsn, hzn, hp, hg⟩ := hF.way rfl
        obtain rfl : s = 0 := by omega
        unfold hasT at hg
        obtain ⟨e, he, het⟩ := List.any_eq_true.1 hg
        have het2 : e.f1 = t := by simpa using het
        have htg := hT.tgt z hzn e he
        have hp2 := hp.snoc he (z := e.f2.toNat) (by omega)
        rw [het2] at hp2
        simp only [if_true]
        exact step _ _ _ (by omega) hp2 fin
    | succ m ih =>
      intro i x hi hx0 hx hj
      refine Evn.succ ?_
      simp only [l16_WitnessAgrees.l0, wrap_succ (show i < 9223372036854775807 by omega)]
      refine Evn.pos (by omega) ?_
      obtain ⟨l, ok, hF, h1, _⟩ := between_both st es b hn he 0 (i : Int)
      obtain ⟨d, ⟨_, hL⟩, _⟩ := rdistances_ev hT (fun q => ((q : Int) == (i : Int)))
      have hle := hr1 i (by omega) _ hL
      have hlen := hF.len 0 rfl (by omega) _ hL
      refine Evn.bind (a := (l, ok)) ?_ ?_
      · unfold witness_To.f
        exact h1.bind (Evn.const _)
      cases ok with
      | false =>
        refine Evn.neg (by simp) (ih (i + 1) x (by omega) hx0 hx (fun j hji d' hd' => ?_))
        by_cases c : j = i
        · subst c
          have h3 := hF.len 0 rfl (by omega) _ hd'
          have : ¬ 0 ≤ d' 0 := fun h => by simp [h] at h3
          omega
        · exact hj j (by omega) d' hd'
      | true =>
        refine Evn.pos rfl ?_
        obtain ⟨s, z, hsz, hsn, hzn, hp, hg⟩ := hF.way rfl
        obtain rfl : s = 0 := by omega
        have h0 : 0 ≤ D d 0 := hlen.2.1 rfl
        rw [if_neg (by omega)] at hlen
        refine step _ _ _ (by omega) hp (ih (i + 1) _ (by omega) ?_ ?_ (fun j hji d' hd' => ?_))
        · dsimp only; unfold mx; split <;> omega
        · dsimp only; unfold mx; split <;> omega
        · dsimp only
          have hmx : x ≤ mx x (l.length : Int) ∧ (l.length : Int) ≤ mx x (l.length : Int) := by unfold mx; split <;> omega
          by_cases c : j = i
          · subst c
            have h3 := (hF.len 0 rfl (by omega) _ hd').1
            split at h3 <;> omega
          · have := hj j (by omega) d' hd'
            omega
  refine key st.length 0 (-1) (by omega) (by omega) ?_ (fun j h => by omega)
  rcases Nat.eq_zero_or_pos st.length with h0 | h0
  · have := hr2 h0; omega
  · obtain ⟨a, ha, hd⟩ := hr3 h0
    obtain ⟨d, ⟨_, hL⟩, _⟩ := rdistances_ev hT (fun q => ((q : Int) == (a : Int)))
    have h1 := hd _ hL
    have := hL.lo 0 h0
    omega
end Go.Proofs.Ytfnjbgggmddgpaa.Q
end
