/- Part 3 of a proof: Dm. Words and walks that a program printed for this claim stand here without what the claim does not use. -/
import Derived.ChangeArms
import Derived.DataReads
import Derived.WideShapes
import Derived.IntWalk
import Derived.Test.YtficdonjodadlaaDm0
import Derived.Test.YtficdonjodadlaaDm2
set_option linter.unusedSimpArgs false
set_option linter.unusedVariables false
section
set_option linter.unusedVariables false
set_option linter.unusedSimpArgs false
namespace Go.Ev
open Go.RowKit
section
set_option maxHeartbeats 1000000
variable {C C2 : Cx} {N N2 : Nm} {st st' : St} {a a' : Act} {w w' : World} {ρ : List (Nat × Nat)} {V : Nat → Prop} {fx : Fx} {call : CallF} {o : Oper}
def pack (vs : List Value) : Value := if h : vs.toArray.size = 1 then vs.toArray[0] else .tuple vs.toArray
def Callable (P : Program) (g : FuncId) : Prop := ∃ fn, P.funcs[g]? = some fn ∧ (fn.name == "runtime.NumGoroutine") = false ∧ fn.body.isNone = false
theorem exec_call {P : Program} {cl : Call} {f : Operand} {g : FuncId} {caps : Array Value} (ho : o.op = .call cl) (hc : cl.callee = .value f) (hf : a.eval f = .func (.func g) #[] caps) (hg : Callable P g) : (execOp a.eval o).run P w = .ok (.enter g (cl.args.map a.eval ++ caps)) w := by
  obtain ⟨fn, h1, h2, h3⟩ := hg
  unfold execOp
  simp only [ho, resolve, hc, hf, Deferred.ofValue, Sem.run_bind, Sem.run_pure, Result.andThen_ok, invoke, callFunc, Array.empty_append]
  have hp : (program).run P w = .ok P w := rfl
  simp only [hp, Result.andThen_ok, h1, h2, h3, Bool.false_eq_true, if_false, Sem.run_pure]
theorem outs_sound (ok : C.Ok) : ∀ {res : List (ResultVar × TypeId)} {st st' : St} {rs : List RV}, Rel C N st a w → C.T.outs st res = some (rs, st') →
    ∃ vs hs, ((res.map (·.1)).mapM (fun | .tmp t => pure (a.tmps.getD t undef) | .cell x t => do loadVar t (← asAddr (a.tmps.getD x undef)) : ResultVar → Sem Value)).run C.P w = .ok vs w ∧ RVsRep C N w (res.map (·.2)) rs vs hs ∧ Rel C N st' a w ∧ HsOk C N st' w hs ∧ From N st hs ∧ Less st' st
  | [], st, st', rs, h, hs => by
    simp only [Tab.outs, Option.some.injEq, Prod.mk.injEq] at hs
    obtain ⟨rfl, rfl⟩ := hs
    exact ⟨[], [], by simp, ⟨rfl, rfl⟩, h, HsOk.nil, fun h hm => (by cases hm), fun j hj => hj⟩
  | (rv, t) :: res, st, st', rs, h, hs => by
    have fin : ∀ {v : V1} {val : Value} {s1 s2 : St} {r : RV} {rs2 : List RV}, SlotV C N st.sh w v val → C.T.outV st t v = some (s1, r) → C.T.outs s1 res = some (rs2, s2) → ((fun | .tmp t => pure (a.tmps.getD t undef) | .cell x t => do loadVar t (← asAddr (a.tmps.getD x undef)) : ResultVar → Sem Value) rv).run C.P w = .ok val w →
        ∃ vs hs, (((rv :: res.map (·.1))).mapM (fun | .tmp t => pure (a.tmps.getD t undef) | .cell x t => do loadVar t (← asAddr (a.tmps.getD x undef)) : ResultVar → Sem Value)).run C.P w = .ok vs w ∧ RVsRep C N w (t :: res.map (·.2)) (r :: rs2) vs hs ∧ Rel C N s2 a w ∧ HsOk C N s2 w hs ∧ From N st hs ∧ Less s2 st := by
      intro v val s1 s2 r rs2 hv h1 h2 hr
      obtain ⟨hs1, k1, k2, k3, k4, k5⟩ := outV_sound ok h hv h1
      obtain ⟨vs, hs2, m1, m2, m3, m4, m5, m6⟩ := outs_sound ok k2 h2
      refine ⟨val :: vs, hs1 ++ hs2, ?_, ⟨val, vs, hs1, hs2, rfl, rfl, k1, m2⟩, m3, k3.append m4 m5 m6, fun hd hm b hb => ?_, fun j hj => k5 j (m6 j hj)⟩
      · rw [List.mapM_cons]
        simp only [Sem.run_bind, hr, Result.andThen_ok, m1, Sem.run_pure]
      · rcases List.mem_append.1 hm with hm | hm
        · exact k4 hd hm b hb
        · obtain ⟨j, hj, e⟩ := m5 hd hm b hb
          exact ⟨j, k5 j hj, e⟩
    cases rv with
    | tmp d =>
      simp only [Tab.outs] at hs
      split at hs
      · rename_i v hv
        rw [Option.bind_eq_some_iff] at hs
        obtain ⟨⟨s1, r⟩, h1, hs⟩ := hs
        simp only at hs
        rw [Option.bind_eq_some_iff] at hs
        obtain ⟨⟨rs2, s2⟩, h2, hs⟩ := hs
        simp only [Option.some.injEq, Prod.mk.injEq] at hs
        obtain ⟨rfl, rfl⟩ := hs
        have hsl := h.slots d
        rw [hv] at hsl
        exact fin hsl h1 h2 rfl
      · cases hs
    | cell d t' =>
      simp only [Tab.outs] at hs
      split at hs
      · rename_i x hx
        split at hs
        · rename_i e; subst e
          rw [Option.bind_eq_some_iff] at hs
          obtain ⟨v, h0, hs⟩ := hs
          rw [Option.bind_eq_some_iff] at hs
          obtain ⟨⟨s1, r⟩, h1, hs⟩ := hs
          simp only at hs
          rw [Option.bind_eq_some_iff] at hs
          obtain ⟨⟨rs2, s2⟩, h2, hs⟩ := hs
          simp only [Option.some.injEq, Prod.mk.injEq] at hs
          obtain ⟨rfl, rfl⟩ := hs
          have hsl := h.slots d
          rw [hx] at hsl
          obtain ⟨val, l1, l2⟩ := load_sound ok h hsl h0
          exact fin l2 h1 h2 (loadAt_asAddr l1)
        · cases hs
      · cases hs
theorem run_results {P : Program} {fn : Func} {tmps : Array Value} {vs : List Value} (h : (fn.results.toList.mapM (fun | .tmp t => pure (tmps.getD t undef) | .cell x t => do loadVar t (← asAddr (tmps.getD x undef)) : ResultVar → Sem Value)).run P w = .ok vs w) : (results fn tmps).run P w = .ok (pack vs) w := by
  unfold results
  rw [Sem.run_bind, Array.mapM_eq_mapM_toList, map_eq_pure_bind, Sem.run_bind]
  have h2 : (fn.results.toList.mapM (fun x => match x with | .tmp t => pure (tmps.getD t undef) | .cell x t => do loadVar t (← asAddr (tmps.getD x undef)) : ResultVar → Sem Value)).run P w = .ok vs w := h
  erw [h2]
  rfl
def RunOk (P : Program) (T : Tab) (call : CallF) : Prop := ∀ g args mem rs ts mem', call g args mem = some (rs, ts, mem') → Callable P g ∧ ∀ (C : Cx) (N : Nm) (vs : List Value), C.P = P → C.T = T → C.Ok → Rel C N ⟨args.map (fun x => .v (.a x)), mem⟩ { tmps := vs.toArray, defers := [] } C.w0 →
  Calls P g vs.toArray C.w0 (fun e w' => ∃ N' rvs hs, e = .returned (pack rvs) ∧ Rel C N' ⟨[], mem'⟩ { tmps := #[], defers := [] } w' ∧ RVsRep C N' w' ts rs rvs hs ∧ HsOk C N' ⟨[], mem'⟩ w' hs)
theorem callee_sound (ok : C.Ok) (hrun : RunOk C.P C.T call) {g : FuncId} {caps : List Nat} {ts : List TypeId} {os : List Operand} {keys : List Nat} {rs : List RV} {ts' : List TypeId} (h : Rel C N st a w) (hs : st.callee1 C.T call g caps ts os keys ρ = some (rs, ts', st')) :
    Callable C.P g ∧ Calls C.P g (os.map a.eval ++ caps.map N.β).toArray w (fun e w' => ∃ N' rvs hs, e = .returned (pack rvs) ∧ Rel C N' st' a w' ∧ RVsRep C N' w' ts' rs rvs hs ∧ HsOk C N' st' w' hs) := by
  unfold St.callee1 at hs
  split at hs
  · rename_i hc
    simp only [Bool.and_eq_true, List.all_eq_true, Bool.not_eq_true', List.contains_eq_mem, decide_eq_false_iff_not] at hc
    obtain ⟨⟨⟨⟨hn1, hn2⟩, hb⟩, ho⟩, hv⟩ := hc
    rw [Option.bind_eq_some_iff] at hs
    obtain ⟨xs, h1, hs⟩ := hs
    rw [Option.bind_eq_some_iff] at hs
    obtain ⟨ps, h2, hs⟩ := hs
    rw [Option.bind_eq_some_iff] at hs
    obtain ⟨⟨rs2, ts2, m⟩, h3, hs⟩ := hs
    simp only at hs
    rw [Option.bind_eq_some_iff] at hs
    obtain ⟨s1, h4, hs⟩ := hs
    simp only [Option.some.injEq, Prod.mk.injEq] at hs
    obtain ⟨rfl, rfl, rfl⟩ := hs
    obtain ⟨V, hV⟩ : ∃ V : Nat → Prop, V = fun k => ∃ o ∈ os, k ∈ (st.get o).viewKeys := ⟨_, rfl⟩
    have hVρ : ∀ k, V k → k ∉ ρ.map (·.1) := by
      intro k hk
      rw [hV] at hk
      obtain ⟨o, ho, hk⟩ := hk
      exact hv o ho k hk
    have L := callTr (C := C) (N := N) (w := w) (V := V) (nk := C.T.nk g) (xs := xs ++ ps) hn1 hn2 ho
    obtain ⟨a1, a2⟩ := args_sound ok h L (fun o ho k hk => by rw [hV]; exact ⟨o, ho, hk⟩) h1
    obtain ⟨c1, c2⟩ := caps_sound h L h2
    have okC := callCx_ok (ρ := ρ) ok h hVρ
    have hrel := call_rel (nk := C.T.nk g) (xs := xs ++ ps) (vs := os.map a.eval ++ caps.map N.β) ok h hn1 hn2 ho hVρ (by simp [a1, c1]) (fun i hi => by
      by_cases hx : i < xs.length
      · rw [show (xs ++ ps).getD i .U = xs.getD i .U by simp only [List.getD]; rw [List.getElem?_append_left hx], show (os.map a.eval ++ caps.map N.β).getD i undef = (os.map a.eval).getD i undef by simp only [List.getD]; rw [List.getElem?_append_left (by simp; omega)]]
        exact a2 i (by omega)
      · rw [show (xs ++ ps).getD i .U = ps.getD (i - xs.length) .U by simp only [List.getD]; rw [List.getElem?_append_right (by omega)], show (os.map a.eval ++ caps.map N.β).getD i undef = (caps.map N.β).getD (i - xs.length) undef by simp only [List.getD]; rw [List.getElem?_append_right (by simp; omega)]; simp [a1]]
        exact c2 _ (by rw [List.length_append] at hi; omega))
    obtain ⟨r1, r2⟩ := hrun g _ _ _ _ _ h3
    refine ⟨r1, (r2 (callCx C N st w ρ V) _ _ rfl rfl okC hrel).mono (fun e w' he => ?_)⟩
    obtain ⟨N', rvs, hs, e1, e2, e3, e4⟩ := he
    obtain ⟨N1, k1, ⟨sh1, sh2, k2⟩, k3⟩ := back_sound ok h hn1 hn2 e2 h4
    exact ⟨N1, rvs, hs, e1, k1, e3.tr k2, k3 hs e4⟩
  · cases hs
theorem call_sound (ok : C.Ok) (hrun : RunOk C.P C.T call) : CallOk C fx call o := by
  intro cl f st st' ho hc hs N a w K Q h hk
  unfold Tab.step at hs
  simp only [ho, hc] at hs
  split at hs
  · rename_i g caps hf
    rw [Option.bind_eq_some_iff] at hs
    obtain ⟨⟨rs, ts, s1⟩, h1, hs⟩ := hs
    unfold St.callee at h1
    obtain ⟨hcb, hcalls⟩ := callee_sound ok hrun h h1
    have hsl := h.get f
    rw [hf] at hsl
    obtain ⟨cs, ⟨hv, _⟩, hv2⟩ := hsl rfl
    have hfv : a.eval f = .func (.func g) #[] (caps.map N.β).toArray := by rw [hv2, hv]; rfl
    have hex := exec_call (w := w) ho hc hfv hcb
    unfold Oper.wp
    rw [hex]
    simp only [Oper.upon]
    rw [show cl.args.map a.eval ++ (caps.map N.β).toArray = (cl.args.toList.map a.eval ++ caps.map N.β).toArray by apply Array.ext'; simp]
    refine hcalls.mono (fun e w' he => ?_)
    obtain ⟨N', rvs, hs', rfl, e2, e3, e4⟩ := he
    simp only at hs ⊢
    split at hs
    · simp only [Option.some.injEq] at hs
      subst hs
      obtain ⟨rfl, _⟩ := e3
      exact hk N' _ _ (e2.set undef_slot)
    · rename_i r t
      obtain ⟨v, vs2, g1, g2, rfl, rfl, p1, p2, p3⟩ := e3
      subst p2; subst p3
      rw [List.append_nil] at e4
      obtain ⟨N2, q⟩ := placeV_sound ok e2 p1 e4 hs
      exact hk N2 _ _ q
    · rename_i hn1 hn2
      rw [Option.bind_eq_some_iff] at hs
      obtain ⟨xs, h2, hs⟩ := hs
      simp only [Option.some.injEq] at hs
      subst hs
      obtain ⟨m1, m2⟩ := frozenT_sound (hs := hs') (sh := s1.sh) ok (fun _ h => h) e3 h2
      refine hk _ _ _ ((e2.frzL e4).set (x := .tup xs) ⟨rvs, ?_, m1, m2⟩)
      unfold pack
      rw [dif_neg]
      intro hl
      have hl : rvs.length = 1 := by simpa using hl
      cases ts with
      | nil =>
        cases rs with
        | nil => rw [e3.1] at hl; simp at hl
        | cons => exact e3
      | cons t ts =>
        cases rs with
        | nil => exact e3
        | cons r rs =>
          obtain ⟨v, vs2, g1, g2, rfl, rfl, p1, p2⟩ := e3
          have : vs2 = [] := by simpa using hl
          subst this
          cases ts with
          | nil =>
            cases rs with
            | nil => exact hn2 _ _ rfl rfl
            | cons => exact p2
          | cons t2 ts =>
            cases rs with
            | nil => exact p2
            | cons r2 rs => obtain ⟨_, _, _, _, q, _⟩ := p2; cases q
  · cases hs
theorem Rel.pad {env : List SV} {mem : Mem} {vs : List Value} (h : Rel C N ⟨env, mem⟩ { tmps := vs.toArray, defers := [] } w) (n : Nat) : Rel C N ⟨env ++ List.replicate n U, mem⟩ { tmps := vs.toArray ++ Array.replicate n undef, defers := [] } w := by
  have hl := h.len
  simp only [List.size_toArray] at hl
  refine ⟨by simp [hl], rfl, fun i => ?_, h.rows, ⟨h.frm.own, h.frm.sep, h.frm.fz, h.frm.frame, h.frm.os, h.frm.tape, h.frm.output, h.frm.size⟩⟩
  show Slot C N _ w ((env ++ List.replicate n U).getD i U) _
  by_cases hi : i < env.length
  · have := h.slots i
    rw [show (env ++ List.replicate n U).getD i U = env.getD i U by simp only [List.getD]; rw [List.getElem?_append_left hi]]
    have e : (vs.toArray ++ Array.replicate n undef).getD i undef = vs.toArray.getD i undef := by
      simp only [Array.getD_eq_getD_getElem?]
      rw [Array.getElem?_append_left (by simp; omega)]
    rw [e]
    exact this
  · rw [show (env ++ List.replicate n U).getD i U = U by simp only [List.getD]; rw [List.getElem?_append_right (by omega), List.getElem?_replicate]; split <;> rfl]
    exact fun hu => by cases hu
theorem Rel.noEnv (h : Rel C N st a w) : Rel C N ⟨[], st.mem⟩ { tmps := #[], defers := [] } w :=
  ⟨rfl, rfl, fun i => (fun hu => by cases hu), h.rows, ⟨h.frm.own, h.frm.sep, h.frm.fz, h.frm.frame, h.frm.os, h.frm.tape, h.frm.output, h.frm.size⟩⟩
def FnsOk (T : Tab) (P : Program) : Prop := ∀ g fx, T.fns.lookup g = some fx → ∃ fn, P.funcs[g]? = some fn ∧ (fn.name == "runtime.NumGoroutine") = false ∧ fn.body = some fx.code ∧ fn.ntmps = fx.ntmps ∧ fn.results.toList = fx.res.map (·.1)
theorem run_sound {P : Program} {T : Tab} {ext : CallF} (hm : P.follows .mixedOrders = true) (hF : FnsOk T P) (hext : RunOk P T ext) : ∀ k, RunOk P T (T.run ext k)
  | 0 => fun g args mem rs ts mem' h => by cases h
  | k + 1 => by
    intro g args mem rs ts mem' h
    simp only [Tab.run] at h
    split at h
    · rename_i fx hfx
      obtain ⟨fn, f1, f2, f3, f4, f5⟩ := hF g fx hfx
      refine ⟨⟨fn, f1, f2, by rw [f3]; rfl⟩, fun C N vs hP hT ok hrel => ?_⟩
      subst hP; subst hT
      rw [Option.bind_eq_some_iff] at h
      obtain ⟨⟨e, s1⟩, h1, h⟩ := h
      simp only at h
      have hlen := hrel.len
      simp only [List.size_toArray, List.length_map] at hlen
      refine calls_of_wp f1 f3 ?_
      have hpad := hrel.pad (fn.ntmps - vs.length)
      have hsz : vs.toArray.size = vs.length := by simp
      rw [hsz]
      rw [f4, hlen] at hpad
      rw [f4, hlen]
      refine code_sound ok hm (fun o => call_sound ok (run_sound hm hF hext k)) _ h1 hpad (fun N' a' w' h' => ?_)
      have fin : ∀ {e}, (C.T.outs s1 fx.res).bind (fun (rs, st) => some (rs, fx.res.map (·.2), st.mem)) = some (rs, ts, mem') → (e = Exit.normal ∨ e = Exit.ret) → bodyPost C.P fn (fun e w' => ∃ N' rvs hs, e = .returned (pack rvs) ∧ Rel C N' ⟨[], mem'⟩ { tmps := #[], defers := [] } w' ∧ RVsRep C N' w' ts rs rvs hs ∧ HsOk C N' ⟨[], mem'⟩ w' hs) e a' w' := by
        intro e ho he
        rw [Option.bind_eq_some_iff] at ho
        obtain ⟨⟨rs2, s2⟩, o1, o2⟩ := ho
        simp only [Option.some.injEq, Prod.mk.injEq] at o2
        obtain ⟨rfl, rfl, rfl⟩ := o2
        obtain ⟨rvs, hs, r1, r2, r3, r4, _⟩ := outs_sound ok h' o1
        rw [← f5] at r1
        have hR := run_results r1
        have : a'.defers = [] ∧ ∃ v, (results fn a'.tmps).run C.P w' = .ok v w' ∧ ∃ N' rvs hs, Ending.returned v = .returned (pack rvs) ∧ Rel C N' ⟨[], s2.mem⟩ { tmps := #[], defers := [] } w' ∧ RVsRep C N' w' (fx.res.map (·.2)) rs2 rvs hs ∧ HsOk C N' ⟨[], s2.mem⟩ w' hs :=
          ⟨h'.dfr, _, hR, N', rvs, hs, rfl, r3.noEnv, r2, ⟨r4.own, r4.sep⟩⟩
        rcases he with rfl | rfl <;> exact this
      cases e with
      | normal => exact fin h (.inl rfl)
      | ret => exact fin h (.inr rfl)
      | exit id => cases h
    · exact hext g args mem rs ts mem' h
end
end Go.Ev
end
section
set_option linter.unusedVariables false
set_option linter.unusedSimpArgs false
namespace Go.Ev
open Go.RowKit
section
set_option maxHeartbeats 1000000
def GoodFn (P : Program) (g : FuncId) (fx : Fx) : Prop := ∃ fn, P.funcs[g]? = some fn ∧ (fn.name == "runtime.NumGoroutine") = false ∧ fn.body = some fx.code ∧ fn.ntmps = fx.ntmps ∧ fn.results.toList = fx.res.map (·.1)
theorem fns_lookup {fx : Fx} {g : FuncId} : ∀ {l : List (Nat × Fx)}, l.lookup g = some fx → (g, fx) ∈ l
  | [], h => by cases h
  | (i, x) :: l, h => by
    rw [List.lookup_cons] at h
    split at h
    · rename_i e; cases h; rw [show g = i by simpa using e]; simp
    · exact List.mem_cons_of_mem _ (fns_lookup h)
theorem fnsOk_of {T : Tab} {P : Program} (h : ∀ x ∈ T.fns, GoodFn P x.1 x.2) : FnsOk T P := fun g fx hl => h _ (fns_lookup hl)
def repB (T : Tab) : Nat → TypeId → IV → List Value → Bool
  | 0, _, _, _ => false
  | n + 1, t, v, cs =>
    match T.ty t, v, cs with
    | .int k, .I m, [.int k' m'] => decide (k = k') && decide (m = m')
    | .bool, .B b, [.bool b'] => b == b'
    | .str, .S s, [.string s'] => decide (s = s')
    | .slice _, .N, [.slice none 0 0] => true
    | .fn, .N, [.nilFunc] => true
    | .ptr _, .N, [.pointer none] => true
    | .agg fs, .A l, cs => decide (l.length = fs.length) && decide (cs.length = T.sz t) && cs.all Value.oneCell' && (List.range fs.length).all fun j => repB T n (fs.getD j (0, 0)).1 (l.getD j .N) ((cs.drop (fs.getD j (0, 0)).2).take (T.sz (fs.getD j (0, 0)).1))
    | _, _, _ => false
theorem repB_sound {T : Tab} {w : World} {E : Nat → Prop} : ∀ {n : Nat} {t : TypeId} {v : IV} {cs : List Value}, repB T n t v cs = true → Rep T w E t v cs
  | 0, t, v, cs, h => by cases h
  | n + 1, t, v, cs, h => by
    unfold repB at h
    split at h
    · rename_i k m k' m' ht
      simp only [Bool.and_eq_true, decide_eq_true_eq] at h
      obtain ⟨rfl, rfl⟩ := h
      exact .int ht
    · rename_i b b' ht
      have : b = b' := by simpa using h
      subst this; exact .bool ht
    · rename_i s s' ht
      have : s = s' := by simpa using h
      subst this; exact .str ht
    · rename_i ht; exact .nil ht
    · rename_i ht; exact .fn ht
    · rename_i ht; exact .ptr ht
    · rename_i fs l ht
      simp only [Bool.and_eq_true, decide_eq_true_eq, List.all_eq_true, List.mem_range] at h
      obtain ⟨⟨⟨h1, h2⟩, h3⟩, h4⟩ := h
      exact .agg ht h1 h2 h3 (fun j hj => repB_sound (h4 j (by omega)))
    · cases h
def flatB (T : Tab) : Nat → TypeId → Bool
  | 0, _ => false
  | n + 1, t => match T.ty t with | .int _ | .bool | .str => true | .agg fs => fs.all fun f => flatB T n f.1 | _ => false
theorem flatB_sound {T : Tab} {w w' : World} {E E' : Nat → Prop} : ∀ {n : Nat} {t : TypeId} {v : IV} {cs : List Value}, flatB T n t = true → Rep T w E t v cs → Rep T w' E' t v cs
  | 0, t, v, cs, h, _ => by cases h
  | n + 1, t, v, cs, h, hr => by
    unfold flatB at h
    cases hr with
    | int ht => exact .int ht
    | bool ht => exact .bool ht
    | str ht => exact .str ht
    | slice ht => rw [ht] at h; cases h
    | none ht => rw [ht] at h; cases h
    | nil ht => rw [ht] at h; cases h
    | fn ht => rw [ht] at h; cases h
    | ptr ht => rw [ht] at h; cases h
    | agg ht hl hc h1 hr =>
      rename_i fs l
      rw [ht] at h
      simp only [List.all_eq_true] at h
      exact .agg ht hl hc h1 (fun j hj => flatB_sound (h _ (getD_mem (by omega))) (hr j hj))
def infoB (P : Program) (T : Tab) (t : TypeId) : Bool :=
  match P.info? t with
  | some i =>
    match i.zero with
    | some z => decide (i.size = T.sz t) && decide (i.bytes = (T.row t).bytes) && decide (z.cells.size = T.sz t) && repB T 9 t (T.row t).zero z.cells.toList &&
      (if isAgg T t then (match z with | .agg _ => true | _ => false) else decide (T.sz t = 1) && (match z with | .agg _ | .tuple _ => false | _ => true))
    | none => false
  | none => false
def descB (P : Program) (T : Tab) (t : TypeId) : Bool :=
  match T.ty t, P.underlying t with
  | .no, _ => true
  | .int k, some (.int k') => decide (k = k')
  | .bool, some .bool | .str, some .string => true
  | .slice e, some (.slice e') => decide (e = e')
  | .ptr e, some (.pointer e') => decide (e = e')
  | .fn, some (.func ..) => true
  | .agg fs, some (.struct Fs) => decide (Fs.toList.map (fun f => (f.type, f.offset)) = fs) && !(P.stoodInHeld t) && !(P.eqGuardType P.depth t) && Fs.toList.all (fun f => !(f.name == "_"))
  | _, _ => false
def tileB (T : Tab) (t : TypeId) : Bool :=
  match T.ty t with
  | .agg fs => (List.range fs.length).all fun j => decide (0 < T.sz (fs.getD j (0, 0)).1) && decide ((fs.getD j (0, 0)).2 + T.sz (fs.getD j (0, 0)).1 ≤ T.sz t) && ((List.range j).all fun i => decide ((fs.getD i (0, 0)).2 + T.sz (fs.getD i (0, 0)).1 ≤ (fs.getD j (0, 0)).2)) && T.okT (fs.getD j (0, 0)).1
  | _ => true
def rowB (P : Program) (T : Tab) (t : TypeId) : Bool := descB P T t && tileB T t && (!(T.okT t) || infoB P T t) && (!(T.row t).flat || flatB T 9 t)
theorem row_out {T : Tab} {t : TypeId} (h : T.tys.length ≤ t) : T.row t = ⟨.no, 0, 0, false, .N⟩ := by unfold Tab.row; simp [List.getD, h]
theorem tabOk_of {P : Program} {T : Tab} (h : (List.range T.tys.length).all (rowB P T) = true) : T.Ok P := by
  have hrow : ∀ t, T.ty t ≠ .no → rowB P T t = true := by
    intro t ht
    rcases Nat.lt_or_ge t T.tys.length with hlt | hge
    · exact List.all_eq_true.1 h t (List.mem_range.2 hlt)
    · exact absurd (by unfold Tab.ty; rw [row_out hge]) ht
  have hdesc : ∀ t, T.ty t ≠ .no → descB P T t = true := fun t ht => by have := hrow t ht; simp only [rowB, Bool.and_eq_true] at this; exact this.1.1.1
  have htile : ∀ t, T.ty t ≠ .no → tileB T t = true := fun t ht => by have := hrow t ht; simp only [rowB, Bool.and_eq_true] at this; exact this.1.1.2
  have hokT : ∀ t, T.ty t ≠ .no → T.okT t = true := fun t ht => by unfold Tab.okT; cases hh : T.ty t <;> first | rfl | exact absurd hh ht
  have hinfo : ∀ t, T.ty t ≠ .no → infoB P T t = true := fun t ht => by
    have := hrow t ht
    simp only [rowB, Bool.and_eq_true, Bool.or_eq_true, Bool.not_eq_true'] at this
    rcases this.1.2 with h1 | h1
    · rw [hokT t ht] at h1; cases h1
    · exact h1
  have hflat : ∀ t, (T.row t).flat = true → flatB T 9 t = true := fun t hf => by
    rcases Nat.lt_or_ge t T.tys.length with hlt | hge
    · have := List.all_eq_true.1 h t (List.mem_range.2 hlt)
      simp only [rowB, Bool.and_eq_true, Bool.or_eq_true, Bool.not_eq_true'] at this
      rcases this.2 with h1 | h1
      · rw [hf] at h1; cases h1
      · exact h1
    · rw [row_out hge] at hf; cases hf
  refine { int := fun t k ht => ?_, bool := fun t ht => ?_, str := fun t ht => ?_, slice := fun t e ht => ?_, agg := fun t fs ht => ?_, fn := fun t ht => ?_, ptr := fun t e ht => ?_, info := fun t ht => ?_, tile := fun t fs ht j hj => ?_, flat := fun t hf w E w' E' v cs hr => flatB_sound (hflat t hf) hr, plain := fun t fs ht => ?_ }
  · have := hdesc t (by rw [ht]; simp)
    unfold descB at this; rw [ht] at this
    split at this <;> simp_all
  · have := hdesc t (by rw [ht]; simp)
    unfold descB at this; rw [ht] at this
    split at this <;> simp_all
  · have := hdesc t (by rw [ht]; simp)
    unfold descB at this; rw [ht] at this
    split at this <;> simp_all
  · have := hdesc t (by rw [ht]; simp)
    unfold descB at this; rw [ht] at this
    split at this <;> simp_all
  · have := hdesc t (by rw [ht]; simp)
    unfold descB at this; rw [ht] at this
    split at this <;> simp_all
  · have := hdesc t (by rw [ht]; simp)
    unfold descB at this; rw [ht] at this
    split at this <;> simp_all
  · have := hdesc t (by rw [ht]; simp)
    unfold descB at this; rw [ht] at this
    split at this <;> simp_all
  · have hi := hinfo t ht
    unfold infoB at hi
    split at hi
    · rename_i i e1
      split at hi
      · rename_i z e2
        simp only [Bool.and_eq_true, decide_eq_true_eq] at hi
        obtain ⟨⟨⟨⟨h1, h2⟩, h3⟩, h4⟩, h5⟩ := hi
        refine ⟨i, z, e1, h1, h2, e2, h3, fun ha => ?_, fun ha => ?_, fun ha => ?_, ?_⟩
        · rw [ha] at h5; simp only [Bool.false_eq_true, if_false, Bool.and_eq_true, decide_eq_true_eq] at h5; exact h5.1
        · rw [ha] at h5; simp only [if_true] at h5
          cases z <;> first | exact ⟨_, rfl⟩ | cases h5
        · rw [ha] at h5; simp only [Bool.false_eq_true, if_false, Bool.and_eq_true, decide_eq_true_eq] at h5
          cases z <;> first | rfl | (cases h5.2)
        · cases hh : T.ty t <;> first | exact absurd hh ht | exact fun w E => repB_sound h4
      · cases hi
    · cases hi
  · have hn : T.ty t ≠ .no := by rw [ht]; simp
    have := htile t hn
    unfold tileB at this
    rw [ht] at this
    simp only [List.all_eq_true, List.mem_range, Bool.and_eq_true, decide_eq_true_eq] at this
    obtain ⟨⟨⟨h1, h2⟩, h3⟩, h4⟩ := this j hj
    exact ⟨h1, h2, h3, okT_iff h4⟩
  · have := hdesc t (by rw [ht]; simp)
    unfold descB at this; rw [ht] at this
    split at this <;> first | (simp_all; done) | skip
    rename_i fs' Fs e1 e2
    cases e1
    simp only [Bool.and_eq_true, decide_eq_true_eq, Bool.not_eq_true', List.all_eq_true] at this
    obtain ⟨⟨⟨h1, h2⟩, h3⟩, h4⟩ := this
    refine ⟨h2, h3, fun Fs' hF f hf he => ?_⟩
    rw [e2] at hF; cases hF
    have := h4 f hf
    rw [he] at this
    simp at this
end
end Go.Ev
end
section
set_option linter.unusedVariables false
set_option linter.unusedSimpArgs false
namespace Go.Ev
open Go.RowKit Go.WideShapes
section
set_option maxHeartbeats 1000000
variable {T : Tab} {P : Program}
inductive Wf (T : Tab) : TypeId → IV → Prop
  | int {t k n} (h : T.ty t = .int k) (hw : (Lit.int k n).wf = true) : Wf T t (.I n)
  | bool {t b} (h : T.ty t = .bool) : Wf T t (.B b)
  | str {t s} (h : T.ty t = .str) (hs : s.size ≤ maxLen) : Wf T t (.S s)
  | slice {t e l} (h : T.ty t = .slice e) (hl : l.length ≤ maxLen) (hr : ∀ x ∈ l, Wf T e x) : Wf T t (.L l)
  | agg {t fs l} (h : T.ty t = .agg fs) (hl : l.length = fs.length) (hr : ∀ j, j < fs.length → Wf T (fs.getD j (0, 0)).1 (l.getD j .N)) : Wf T t (.A l)
def covB (T : Tab) (n : Nat) : Nat → List (TypeId × Nat) → Bool
  | c, [] => decide (c = n)
  | c, f :: fs => decide (f.2 = c) && covB T n (c + T.sz f.1) fs
theorem covB_spec {n : Nat} : ∀ {fs : List (TypeId × Nat)} {c : Nat}, covB T n c fs = true → ∀ i, c ≤ i → i < n → ∃ j, j < fs.length ∧ (fs.getD j (0, 0)).2 ≤ i ∧ i < (fs.getD j (0, 0)).2 + T.sz (fs.getD j (0, 0)).1
  | [], c, h, i, h1, h2 => by simp only [covB, decide_eq_true_eq] at h; omega
  | f :: fs, c, h, i, h1, h2 => by
    simp only [covB, Bool.and_eq_true, decide_eq_true_eq] at h
    by_cases hi : i < c + T.sz f.1
    · exact ⟨0, by simp, by simp [List.getD]; omega, by simp [List.getD]; omega⟩
    · obtain ⟨j, g1, g2, g3⟩ := covB_spec h.2 i (by omega) h2
      exact ⟨j + 1, by simpa using g1, by simpa [List.getD] using g2, by simpa [List.getD] using g3⟩
def dataB (T : Tab) : Nat → TypeId → Bool
  | 0, _ => false
  | n + 1, t => match T.ty t with | .int _ | .bool | .str => true | .slice e => T.okE e && dataB T n e | .agg fs => covB T (T.sz t) 0 fs && fs.all fun f => dataB T n f.1 | _ => false
theorem cellsOf_eq (ok : T.Ok P) {t : TypeId} (h : T.ty t ≠ .no) : P.cellsOf t = T.sz t := by
  obtain ⟨i, z, h1, h2, _⟩ := ok.info t h
  unfold Program.cellsOf
  rw [h1]; exact h2
theorem mem_cells {w : World} {base : Nat} {a : Addr} {n : Nat} {cs : List Value} (h : w.cells? base a n = some cs) : cs.length = n ∧ ∀ i u, cs[i]? = some u → w.cell? (a.add i) = some u := by
  unfold World.cells? at h
  split at h
  · have hl : cs.length = n := by rw [mapM_some_length h]; simp
    refine ⟨hl, fun i u hu => ?_⟩
    have hi : i < n := by rw [← hl]; exact (List.getElem?_eq_some_iff.1 hu).1
    have h1 := mapM_some_get h i i (by rw [List.getElem?_eq_getElem (by simpa using hi)]; simp)
    rw [h1, hu]
  · cases h
theorem cell_plain {w : World} {a : Addr} {u : Value} (h : w.cell? a = some u) : a = ⟨a.block, a.off, none⟩ ∧ a.block < w.heap.size := by
  unfold World.cell? at h
  split at h
  · rename_i c e f hb
    split at h
    · cases h
    · rename_i hs
      refine ⟨?_, (Array.getElem?_eq_some_iff.1 hb).1⟩
      cases a with
      | mk b o s => cases s with
        | none => rfl
        | some x => exact absurd rfl hs
  · cases h
theorem choose_list {α : Type} {Q : Nat → α → Prop} : ∀ n, (∀ i, i < n → ∃ y, Q i y) → ∃ l : List α, l.length = n ∧ ∀ i y, l[i]? = some y → Q i y
  | 0, _ => ⟨[], rfl, fun i y h => by simp at h⟩
  | n + 1, h => by
    obtain ⟨l, h1, h2⟩ := choose_list n (fun i hi => h i (by omega))
    obtain ⟨y, hy⟩ := h n (by omega)
    refine ⟨l ++ [y], by simp [h1], fun i z hz => ?_⟩
    by_cases hi : i < l.length
    · rw [List.getElem?_append_left hi] at hz; exact h2 i z hz
    · have hlt := (List.getElem?_eq_some_iff.1 hz).1
      have : i = n := by simp at hlt; omega
      subst this
      rw [List.getElem?_append_right (by omega), h1, Nat.sub_self] at hz
      have : y = z := by simpa using hz
      exact this ▸ hy
theorem open_sound (ok : T.Ok P) {H : Type} {enc : TypeId × Value → H} {w : World} {spare : Nat → Bool} {held : Bool} : ∀ (n : Nat) {t : TypeId} {fuel : Nat} {cs : List Value} {x : DataW H × List MemPlace}, dataB T n t = true → DataW.trod enc P w 0 spare held fuel t cs = some x →
    ∃ u, Rep T w (fun b => b < w.heap.size) t u cs ∧ Wf T t u
  | 0, t, fuel, cs, x, hd, _ => by cases hd
  | n + 1, t, fuel, cs, x, hd, h => by
    unfold dataB at hd
    split at hd
    · rename_i k ht
      obtain ⟨m, rfl, _, hw⟩ := DataW.trod_int (ok.int t k ht) h
      exact ⟨.I m, .int ht, .int ht hw⟩
    · rename_i ht
      obtain ⟨b, rfl, _⟩ := DataW.trod_bool (ok.bool t ht) h
      exact ⟨.B b, .bool ht, .bool ht⟩
    · rename_i ht
      obtain ⟨s, rfl, _, hw⟩ := DataW.trod_string (ok.str t ht) h
      exact ⟨.S s, .str ht, .str ht hw⟩
    · rename_i e ht
      simp only [Bool.and_eq_true] at hd
      obtain ⟨he1, he2⟩ := okE_iff hd.1
      rcases DataW.trod_slice (ok.slice t e ht) h with ⟨rfl, _⟩ | ⟨a, len, cap, elems, rest, m, _, rfl, _, _, hl, hm, hlen, hel, _⟩
      · exact ⟨.L [], .none ht (fun _ => rfl), .slice ht (Nat.zero_le _) (fun x hx => by cases hx)⟩
      · rw [cellsOf_eq ok he2] at hel
        have each : ∀ i, i < len → ∃ p : List Value × IV, p.1.length = T.sz e ∧ Rep T w (fun b => b < w.heap.size) e p.2 p.1 ∧ Wf T e p.2 ∧ ∀ j v, p.1[j]? = some v → w.cell? ((a.add (i * T.sz e)).add j) = some v := by
          intro i hi
          have h1 := hel i hi
          rw [List.getElem?_eq_getElem (by omega), Option.bind_eq_some_iff] at h1
          obtain ⟨c, h2, h3⟩ := h1
          obtain ⟨h4, h5⟩ := mem_cells h2
          obtain ⟨u, h6, h7⟩ := open_sound ok n hd.2 h3
          exact ⟨(c, u), h4, h6, h7, h5⟩
        obtain ⟨L, hL, hQ⟩ := choose_list len each
        have hQ' : ∀ i, i < len → ∃ p, L[i]? = some p ∧ p.1.length = T.sz e ∧ Rep T w (fun b => b < w.heap.size) e p.2 p.1 ∧ Wf T e p.2 ∧ ∀ j v, p.1[j]? = some v → w.cell? ((a.add (i * T.sz e)).add j) = some v := by
          intro i hi
          have : i < L.length := by omega
          exact ⟨L[i], List.getElem?_eq_getElem this, hQ i _ (List.getElem?_eq_getElem this)⟩
        refine ⟨.L (L.map (·.2)), ?_, .slice ht (by simp only [List.length_map]; omega) (fun y hy => ?_)⟩
        · by_cases h0 : len = 0
          · subst h0
            have : L = [] := List.eq_nil_of_length_eq_zero hL
            subst this
            exact .none ht (fun hn => by cases hn)
          ·
            obtain ⟨p, q1, q2, q3, q4, q5⟩ := hQ' 0 (by omega)
            have hp : ∃ v, p.1[0]? = some v := ⟨_, List.getElem?_eq_getElem (by omega)⟩
            obtain ⟨v, hv⟩ := hp
            have hc := q5 0 v hv
            rw [Nat.zero_mul] at hc
            have ea : (a.add 0).add 0 = a := by simp [Addr.add]
            rw [ea] at hc
            obtain ⟨e1, e2⟩ := cell_plain hc
            rw [e1]
            have hll : (L.map (·.2)).length = len := by simp [hL]
            rw [← hll]
            refine .slice (cf := fun i => (L.getD i ([], .N)).1) ht e2 (by rw [hll]; exact hl) (fun i hi => ?_) (fun i j y hi hj => ?_) (fun i hi => ?_)
            · rw [hll] at hi
              obtain ⟨p, q1, q2, q3, q4, q5⟩ := hQ' i hi
              simp only [List.getD, q1, Option.getD_some]; exact q2
            · rw [hll] at hi
              obtain ⟨p, q1, q2, q3, q4, q5⟩ := hQ' i hi
              simp only [List.getD, q1, Option.getD_some] at hj
              have := q5 j y hj
              rw [e1] at this
              simp only [Addr.add_mid] at this
              rw [Nat.add_assoc] at this
              exact this
            · rw [hll] at hi
              obtain ⟨p, q1, q2, q3, q4, q5⟩ := hQ' i hi
              rw [show (L.map (·.2)).getD i .N = p.2 by simp [List.getD, q1]]
              simp only [List.getD, q1, Option.getD_some]
              exact q3
        · obtain ⟨p, hp, rfl⟩ := List.mem_map.1 hy
          obtain ⟨i, hi, rfl⟩ := List.getElem_of_mem hp
          obtain ⟨p, q1, q2, q3, q4, q5⟩ := hQ' i (by omega)
          rw [List.getElem?_eq_getElem hi] at q1
          cases q1
          exact q4
    · rename_i fs ht
      simp only [Bool.and_eq_true, List.all_eq_true] at hd
      obtain ⟨hcov, hd⟩ := hd
      obtain ⟨Fs, g1, g2⟩ := ok.agg t fs ht
      have tl := ok.tile t fs ht
      obtain ⟨xs, m, _, _, hl, hxs, hall⟩ := DataW.trod_struct g1 h
      rw [cellsOf_eq ok (by rw [ht]; simp)] at hl
      have hfl : fs.length = Fs.size := by rw [← g2]; simp
      have each : ∀ i, i < fs.length → ∃ u, Rep T w (fun b => b < w.heap.size) (fs.getD i (0, 0)).1 u ((cs.drop (fs.getD i (0, 0)).2).take (T.sz (fs.getD i (0, 0)).1)) ∧ Wf T (fs.getD i (0, 0)).1 u := by
        intro i hi
        have hiF : i < Fs.size := by omega
        have e1 : fs.getD i (0, 0) = (Fs[i].type, Fs[i].offset) := by rw [← g2]; simp [List.getD, hiF]
        have h1 := hall i _ (Array.getElem?_eq_getElem hiF)
        rw [List.getElem?_eq_getElem (by omega)] at h1
        have h2 := (tl i hi).2.2.2
        rw [e1] at h2 ⊢
        rw [cellsOf_eq ok h2] at h1
        have h3 := hd (fs.getD i (0, 0)) (getD_mem hi)
        rw [e1] at h3
        exact open_sound ok n h3 h1
      obtain ⟨L, hL, hQ⟩ := choose_list fs.length each
      have hQ' : ∀ i, i < fs.length → Rep T w (fun b => b < w.heap.size) (fs.getD i (0, 0)).1 (L.getD i .N) ((cs.drop (fs.getD i (0, 0)).2).take (T.sz (fs.getD i (0, 0)).1)) ∧ Wf T (fs.getD i (0, 0)).1 (L.getD i .N) := by
        intro i hi
        have : i < L.length := by omega
        have h1 := hQ i _ (List.getElem?_eq_getElem this)
        simpa [List.getD, this] using h1
      refine ⟨.A L, .agg ht hL hl (fun v hv => ?_) (fun j hj => (hQ' j (by omega)).1), .agg ht hL (fun j hj => (hQ' j hj).2)⟩
      obtain ⟨i, hi, rfl⟩ := List.getElem_of_mem hv
      obtain ⟨j, c1, c2, c3⟩ := covB_spec hcov i (Nat.zero_le _) (by omega)
      refine (hQ' j c1).1.one _ (List.mem_iff_getElem?.2 ⟨i - (fs.getD j (0, 0)).2, ?_⟩)
      rw [window_get, if_pos (by omega), show (fs.getD j (0, 0)).2 + (i - (fs.getD j (0, 0)).2) = i by omega, List.getElem?_eq_getElem hi]
    · cases hd
theorem open_arg (ok : T.Ok P) {H : Type} {enc : TypeId × Value → H} {w : World} {spare : Nat → Bool} {held : Bool} {base n : Nat} {t : TypeId} {v : Value} {d : DataW H} {p : List MemPlace} (hd : dataB T n t = true) (hval : Value.okWide P w .any base t v) (h : DataW.Trod enc P w 0 spare held t v d p) :
    ∃ u, Wf T t u ∧ ∃ cs, Rep T w (fun b => b < w.heap.size) t u cs ∧ v = mkV (isAgg T t) cs := by
  obtain ⟨fuel, hf⟩ := h
  obtain ⟨u, h1, h2⟩ := open_sound ok n hd hf
  refine ⟨u, h2, _, h1, ?_⟩
  cases hu : isAgg T t with
  | true =>
    unfold isAgg at hu
    split at hu
    · rename_i fs ht
      obtain ⟨Fs, g1, g2⟩ := ok.agg t fs ht
      obtain ⟨cs, rfl, _⟩ := okWide_struct g1 hval
      simp [mkV, Value.cells]
    · cases hu
  | false =>
    simp only [mkV, Bool.false_eq_true, if_false]
    cases n with
    | zero => cases hd
    | succ n =>
      unfold dataB at hd
      split at hd
      · rename_i k ht; obtain ⟨m, rfl⟩ := okWide_int (ok.int t k ht) hval; rfl
      · rename_i ht; obtain ⟨m, rfl⟩ := okWide_bool (ok.bool t ht) hval; rfl
      · rename_i ht; obtain ⟨m, rfl⟩ := okWide_string (ok.str t ht) hval; rfl
      · rename_i e ht; obtain ⟨a, len, cap, rfl⟩ := okWide_slice (ok.slice t e ht) hval; rfl
      · rename_i fs ht; simp [isAgg, ht] at hu
      · cases hd
def argAt (T : Tab) (t : TypeId) (u : IV) : At := T.mk1 2 t u
theorem arg_slot (ok : T.Ok P) {w : World} {t : TypeId} {u : IV} {cs : List Value} (h : Rep T w (fun b => b < w.heap.size) t u cs) :
    SlotV ⟨P, T, w, fun _ b => b < w.heap.size, fun _ => False, fun _ => undef⟩ ⟨fun _ => undef, fun _ => False⟩ (fun _ => none) w (.a (argAt T t u)) (mkV (isAgg T t) cs) := by
  have okC : (⟨P, T, w, fun _ b => b < w.heap.size, fun _ => False, fun _ => undef⟩ : Cx).Ok := ⟨ok, fun _ _ _ _ h => h, fun p b hb => ⟨hb, fun h => h⟩, fun b hb => hb.elim⟩
  have := mk1_sound (C := ⟨P, T, w, fun _ b => b < w.heap.size, fun _ => False, fun _ => undef⟩) (N := ⟨fun _ => undef, fun _ => False⟩) (sh := fun _ => none) (p := 2) okC (h.mono (fun b hb => .inl hb) (fun _ _ => rfl))
  exact slot_of this.1 this.2
theorem law_calls (ok : T.Ok P) {call : CallF} (hrun : RunOk P T call) {g : FuncId} {xs : List At} {n : Nat} {t : TypeId} {m : Mem} {w : World} {vs : List Value} (hx : xs.length = vs.length)
    (hs : ∀ i, i < xs.length → SlotV ⟨P, T, w, fun _ b => b < w.heap.size, fun _ => False, fun _ => undef⟩ ⟨fun _ => undef, fun _ => False⟩ (fun _ => none) w (.a (xs.getD i .U)) (vs.getD i undef))
    (h : call g xs (List.replicate n none) = some ([.one (.at (.bool true))], [t], m)) : Calls P g vs.toArray w (fun e w' => e = .returned (.bool true) ∧ Below w.heap.size w w') := by
  obtain ⟨C, hC⟩ : ∃ C : Cx, C = ⟨P, T, w, fun _ b => b < w.heap.size, fun _ => False, fun _ => undef⟩ := ⟨_, rfl⟩
  have okC : C.Ok := by subst hC; exact ⟨ok, fun _ _ _ _ h => h, fun p b hb => ⟨hb, fun h => h⟩, fun b hb => hb.elim⟩
  have rowN : ∀ k, (⟨xs.map (fun x => .v (.a x)), List.replicate n none⟩ : St).row k = none := by
    intro k
    simp only [St.row, List.getElem?_replicate]
    split <;> rfl
  have hsh : (⟨xs.map (fun x => .v (.a x)), List.replicate n none⟩ : St).sh = fun _ => none := by
    funext k; unfold St.sh; rw [rowN]; rfl
  have hrel : Rel C ⟨fun _ => undef, fun _ => False⟩ ⟨xs.map (fun x => .v (.a x)), List.replicate n none⟩ { tmps := vs.toArray, defers := [] } w := by
    refine ⟨by simp [hx], rfl, fun i => ?_, fun k r hr => (by rw [rowN] at hr; cases hr), ⟨fun k b hk _ => (by rw [rowN] at hk; cases hk), fun k k' b hk _ _ _ => (by rw [rowN] at hk; cases hk), fun b hb => hb.elim, fun b hb hx => (by subst hC; rfl), by subst hC; rfl, by subst hC; rfl, by subst hC; rfl, by subst hC; exact Nat.le_refl _⟩⟩
    rw [hsh]
    by_cases hi : i < xs.length
    · rw [show (⟨xs.map (fun x => .v (.a x)), List.replicate n none⟩ : St).env.getD i U = .v (.a (xs.getD i .U)) by simp [List.getD, hi]]
      rw [show (vs.toArray).getD i undef = vs.getD i undef by simp [Array.getD_eq_getD_getElem?, List.getD]]
      subst hC
      exact hs i hi
    · rw [show (⟨xs.map (fun x => .v (.a x)), List.replicate n none⟩ : St).env.getD i U = U by simp [List.getD, Nat.le_of_not_lt hi]]
      exact fun hu => by cases hu
  have hw : C.w0 = w := by subst hC; rfl
  obtain ⟨_, hr⟩ := hrun g xs _ _ _ _ h
  have := hr C ⟨fun _ => undef, fun _ => False⟩ vs (by subst hC; rfl) (by subst hC; rfl) okC (by rw [hw]; exact hrel)
  rw [hw] at this
  refine this.mono (fun e w' he => ?_)
  obtain ⟨N', rvs, hs', rfl, e2, e3, e4⟩ := he
  obtain ⟨v, vs2, h1, h2, rfl, rfl, p1, p2, p3⟩ := e3
  subst p2; subst p3
  obtain ⟨cs, ⟨q1, q2, q3, q4, q5, q6⟩, hv⟩ := p1
  have hcs : cs = [.bool true] := q5
  have hag : isAgg C.T t = false := q6
  refine ⟨by rw [hv, hag, hcs]; rfl, ?_⟩
  have fr := e2.frm
  exact ⟨by rw [fr.os, hw], by rw [fr.tape, hw], by rw [fr.output, hw], by rw [← hw]; exact fr.size, fun b hb => by rw [fr.frame b (by rw [hw]; exact hb) (by subst hC; exact fun h => h), hw]⟩
end
end Go.Ev
end
section
set_option linter.unusedVariables false
set_option linter.unusedSimpArgs false
namespace Go.Ev
section
variable {T : Tab} {fx : Fx} {call : CallF} {k cur : Nat} {st st' : St} {Q : Ex → St → Prop}
def Runs (T : Tab) (fx : Fx) (call : CallF) (k cur : Nat) (c : Code) (st : St) (Q : Ex → St → Prop) : Prop := ∃ e st', T.code fx call k cur c st = some (e, st') ∧ Q e st'
def thenR (next : St → Prop) (Q : Ex → St → Prop) : Ex → St → Prop | .normal, s => next s | e, s => Q e s
def blockR (id : Nat) (Q : Ex → St → Prop) : Ex → St → Prop | .exit i, s => if i = id then Q .normal s else Q (.exit i) s | e, s => Q e s
theorem runs_mono {c : Code} {Q' : Ex → St → Prop} (h : Runs T fx call k cur c st Q) (hq : ∀ e s, Q e s → Q' e s) : Runs T fx call k cur c st Q' := by
  obtain ⟨e, s, h1, h2⟩ := h; exact ⟨e, s, h1, hq _ _ h2⟩
theorem runs_skip (h : Q .normal st) : Runs T fx call k cur .skip st Q := ⟨_, _, by simp only [Tab.code], h⟩
theorem runs_exit {id : Nat} (h : Q (.exit id) st) : Runs T fx call k cur (.exit id) st Q := ⟨_, _, by simp only [Tab.code], h⟩
theorem runs_ret (h : Q .ret st) : Runs T fx call k cur .ret st Q := ⟨_, _, by simp only [Tab.code], h⟩
theorem runs_region {id : Nat} {ops : Array Oper} {d : Bool} (h : T.region fx call d ops st = some st') (hq : Q .normal st') : Runs T fx call k cur (.region id ops d) st Q := ⟨_, _, by simp only [Tab.code, h, Option.bind_some], hq⟩
theorem runs_seq {a b : Code} (h : Runs T fx call k cur a st (thenR (fun s => Runs T fx call k cur b s Q) Q)) : Runs T fx call k cur (.seq a b) st Q := by
  obtain ⟨e, s, h1, h2⟩ := h
  cases e with
  | normal =>
    obtain ⟨e2, s2, h3, h4⟩ := h2
    exact ⟨e2, s2, by simp only [Tab.code, h1, Option.bind_some, h3], h4⟩
  | exit id => exact ⟨_, s, by simp only [Tab.code, h1, Option.bind_some], h2⟩
  | ret => exact ⟨_, s, by simp only [Tab.code, h1, Option.bind_some], h2⟩
theorem runs_cond {c : Operand} {a b : Code} {t : Bool} (hc : st.get c = .v (.a (.bool t))) (h1 : t = true → Runs T fx call k cur a st Q) (h2 : t = false → Runs T fx call k cur b st Q) : Runs T fx call k cur (.cond c a b) st Q := by
  cases t with
  | true => obtain ⟨e, s, h3, h4⟩ := h1 rfl; exact ⟨e, s, by simp only [Tab.code, hc, if_true, h3], h4⟩
  | false => obtain ⟨e, s, h3, h4⟩ := h2 rfl; exact ⟨e, s, by simp only [Tab.code, hc, Bool.false_eq_true, if_false, h3], h4⟩
theorem runs_block {id : Nat} {c : Code} (h : Runs T fx call k id c st (blockR id Q)) : Runs T fx call k cur (.block id c) st Q := by
  obtain ⟨e, s, h1, h2⟩ := h
  cases e with
  | normal => exact ⟨_, s, by simp only [Tab.code, h1, Option.bind_some], h2⟩
  | ret => exact ⟨_, s, by simp only [Tab.code, h1, Option.bind_some], h2⟩
  | exit i =>
    by_cases hi : i = id
    · simp only [blockR, if_pos hi] at h2
      exact ⟨.normal, s, by simp only [Tab.code, h1, Option.bind_some, if_pos hi], h2⟩
    · simp only [blockR, if_neg hi] at h2
      exact ⟨.exit i, s, by simp only [Tab.code, h1, Option.bind_some, if_neg hi], h2⟩
theorem runs_loop {c : Code} (I : Nat → St → Prop) (n : Nat) (hn : n < k) (h0 : I n st) (h : ∀ n s, I n s → Runs T fx call k cur c (s.fresh ((fx.clr.lookup cur).getD ([], []))) (thenR (fun s' => ∃ m, m < n ∧ I m s') Q)) : Runs T fx call k cur (.loop c) st Q := by
  have key : ∀ (r n : Nat) (s : St), n < r → I n s → ∃ e s', iter (fun st => T.code fx call k cur c (st.fresh ((fx.clr.lookup cur).getD ([], [])))) r s = some (e, s') ∧ Q e s' := by
    intro r
    induction r with
    | zero => intro n s hr _; omega
    | succ r ih =>
      intro n s hr hI
      obtain ⟨e, s1, h1, h2⟩ := h n s hI
      cases e with
      | normal =>
        obtain ⟨m, hm, hI2⟩ := h2
        obtain ⟨e2, s2, h3, h4⟩ := ih m s1 (by omega) hI2
        exact ⟨e2, s2, by simp only [iter, h1, Option.bind_some, h3], h4⟩
      | exit id => exact ⟨_, s1, by simp only [iter, h1, Option.bind_some], h2⟩
      | ret => exact ⟨_, s1, by simp only [iter, h1, Option.bind_some], h2⟩
  obtain ⟨e, s, h1, h2⟩ := key k n st hn h0
  exact ⟨e, s, by simp only [Tab.code, h1], h2⟩
theorem runs_run {ext : CallF} {f : FuncId} {args : List At} {mem : Mem} {R : List RV → Mem → Prop} (hf : T.fns.lookup f = some fx)
    (h : Runs T fx (T.run ext k) k 0 fx.code ⟨args.map (fun x => .v (.a x)) ++ List.replicate (fx.ntmps - args.length) U, mem⟩ (fun e s => (∀ id, e ≠ .exit id) ∧ ∃ rs s', T.outs s fx.res = some (rs, s') ∧ R rs s'.mem)) :
    ∃ rs m, T.run ext (k + 1) f args mem = some (rs, fx.res.map (·.2), m) ∧ R rs m := by
  obtain ⟨e, s, h1, h2, rs, s', h3, h4⟩ := h
  refine ⟨rs, s'.mem, ?_, h4⟩
  simp only [Tab.run, hf, h1, Option.bind_some]
  cases e with
  | exit id => exact absurd rfl (h2 id)
  | normal => simp only [h3, Option.bind_some]
  | ret => simp only [h3, Option.bind_some]
theorem Runs_skip : Runs T fx call k cur .skip st Q ↔ Q .normal st := ⟨fun ⟨e, s, h1, h2⟩ => by simp only [Tab.code, Option.some.injEq, Prod.mk.injEq] at h1; obtain ⟨rfl, rfl⟩ := h1; exact h2, runs_skip⟩
theorem Runs_exit {id : Nat} : Runs T fx call k cur (.exit id) st Q ↔ Q (.exit id) st := ⟨fun ⟨e, s, h1, h2⟩ => by simp only [Tab.code, Option.some.injEq, Prod.mk.injEq] at h1; obtain ⟨rfl, rfl⟩ := h1; exact h2, runs_exit⟩
theorem Runs_ret : Runs T fx call k cur .ret st Q ↔ Q .ret st := ⟨fun ⟨e, s, h1, h2⟩ => by simp only [Tab.code, Option.some.injEq, Prod.mk.injEq] at h1; obtain ⟨rfl, rfl⟩ := h1; exact h2, runs_ret⟩
def Yes (x : Option St) (Q : St → Prop) : Prop := ∃ s, x = some s ∧ Q s
theorem Runs_region {id : Nat} {ops : Array Oper} {d : Bool} : Runs T fx call k cur (.region id ops d) st Q ↔ Yes (T.region fx call d ops st) (Q .normal) := by
  constructor
  · rintro ⟨e, s, h1, h2⟩
    simp only [Tab.code] at h1
    rw [Option.bind_eq_some_iff] at h1
    obtain ⟨s1, h3, h4⟩ := h1
    simp only [Option.some.injEq, Prod.mk.injEq] at h4
    obtain ⟨rfl, rfl⟩ := h4
    exact ⟨s1, h3, h2⟩
  · rintro ⟨s, h1, h2⟩; exact runs_region h1 h2
theorem Runs_seq {a b : Code} : Runs T fx call k cur (.seq a b) st Q ↔ Runs T fx call k cur a st (thenR (fun s => Runs T fx call k cur b s Q) Q) := by
  refine ⟨?_, runs_seq⟩
  rintro ⟨e, s, h1, h2⟩
  simp only [Tab.code] at h1
  rw [Option.bind_eq_some_iff] at h1
  obtain ⟨⟨e1, s1⟩, h3, h4⟩ := h1
  refine ⟨e1, s1, h3, ?_⟩
  cases e1 with
  | normal => exact ⟨e, s, h4, h2⟩
  | exit id => simp only [Option.some.injEq, Prod.mk.injEq] at h4; obtain ⟨rfl, rfl⟩ := h4; exact h2
  | ret => simp only [Option.some.injEq, Prod.mk.injEq] at h4; obtain ⟨rfl, rfl⟩ := h4; exact h2
theorem thenR_normal {n : St → Prop} {Q : Ex → St → Prop} {s : St} : thenR n Q .normal s = n s := (rfl)
theorem thenR_exit {n : St → Prop} {Q : Ex → St → Prop} {s : St} {id : Nat} : thenR n Q (.exit id) s = Q (.exit id) s := (rfl)
theorem thenR_ret {n : St → Prop} {Q : Ex → St → Prop} {s : St} : thenR n Q .ret s = Q .ret s := (rfl)
theorem blockR_normal {i : Nat} {Q : Ex → St → Prop} {s : St} : blockR i Q .normal s = Q .normal s := (rfl)
theorem blockR_exit {i : Nat} {Q : Ex → St → Prop} {s : St} {id : Nat} : blockR i Q (.exit id) s = if id = i then Q .normal s else Q (.exit id) s := (rfl)
theorem blockR_ret {i : Nat} {Q : Ex → St → Prop} {s : St} : blockR i Q .ret s = Q .ret s := (rfl)
theorem get_set {d e : Tmp} {v : SV} : (st.set (some d) v).get (.tmp e) = if d = e ∧ d < st.env.length then v else st.get (.tmp e) := by
  simp only [St.get, St.set, List.getD, List.getElem?_set]
  by_cases h1 : d = e
  · subst h1
    by_cases h2 : d < st.env.length
    · simp [h2]
    · simp [h2, Nat.le_of_not_lt h2]
  · simp [h1]
theorem get_const {v : Value} : st.get (.const v) = .v (.a (constAt v)) := (rfl)
theorem len_set {d : Option Tmp} {v : SV} : (st.set d v).env.length = st.env.length := by cases d <;> simp [St.set]
theorem row_set {d : Option Tmp} {v : SV} {j : Nat} : (st.set d v).row j = st.row j := by cases d <;> rfl
theorem get1_eq (st : St) (o : Operand) : get1 st o = match st.get o with | .v (.a x) => some x | _ => none := (rfl)
theorem getI_eq (st : St) (o : Operand) : getI st o = match st.get o with | .v (.a (.int k n)) => some (k, n) | _ => none := (rfl)
theorem natI_nat (n : Nat) : natI (n : Int) = some n := by simp [natI]
theorem clear_len (l : List Nat) : ∀ st : St, (st.clear l).env.length = st.env.length := by
  induction l with
  | nil => intro st; rfl
  | cons d l ih => intro st; rw [St.clear, ih]; simp
theorem clear_get (l : List Nat) (t : Tmp) : ∀ st : St, t ∉ l → (st.clear l).get (.tmp t) = st.get (.tmp t) := by
  induction l with
  | nil => intro st _; rfl
  | cons d l ih =>
    intro st h
    rw [St.clear, ih _ (fun hm => h (List.mem_cons_of_mem _ hm))]
    have : d ≠ t := fun e => h (e ▸ List.mem_cons_self)
    simp [St.get, List.getD, this]
theorem clear_row (l : List Nat) (j : Nat) : ∀ st : St, (st.clear l).row j = st.row j := by
  induction l with
  | nil => intro st; rfl
  | cons d l ih => intro st; rw [St.clear, ih]; rfl
end
end Go.Ev
end
section
set_option linter.unusedVariables false
set_option linter.unusedSimpArgs false
namespace Go.Ev
open Go.RowKit
section
variable {C : Cx} {N : Nm} {P : Program} {T : Tab}
theorem ext_bool (okC : C.Ok) {env : List SV} {mem : Mem} {vs : List Value} {g : FuncId} {t : TypeId} {b : Bool} (ht : C.T.ty t = .bool) (h : Rel C N ⟨env, mem⟩ { tmps := vs.toArray, defers := [] } C.w0)
    (hc : Calls C.P g vs.toArray C.w0 (fun e w' => e = .returned (.bool b) ∧ Below C.w0.heap.size C.w0 w')) :
    Calls C.P g vs.toArray C.w0 (fun e w' => ∃ N' rvs hs, e = .returned (pack rvs) ∧ Rel C N' ⟨[], mem⟩ { tmps := #[], defers := [] } w' ∧ RVsRep C N' w' [t] [.one (.at (.bool b))] rvs hs ∧ HsOk C N' ⟨[], mem⟩ w' hs) := by
  refine hc.mono (fun e w' he => ?_)
  obtain ⟨rfl, hb⟩ := he
  have hag : isAgg C.T t = false := by simp [isAgg, ht]
  refine ⟨N, [.bool b], [], rfl, (h.grow okC hb).noEnv, ⟨.bool b, [], [], [], rfl, rfl, ⟨[.bool b], ⟨rfl, rfl, rfl, fun p t' v e => (by cases e), rfl, hag⟩, by rw [hag]; rfl⟩, rfl, rfl⟩, HsOk.nil⟩
theorem arg_of {args : List At} {mem : Mem} {vs : List Value} (h : Rel C N ⟨args.map (fun x => .v (.a x)), mem⟩ { tmps := vs.toArray, defers := [] } C.w0) {i : Nat} {x : At} (hx : args[i]? = some x) : SlotV C N (⟨args.map (fun x => .v (.a x)), mem⟩ : St).sh C.w0 (.a x) (vs.getD i undef) := by
  have := h.slots i
  rw [show (⟨args.map (fun x => .v (.a x)), mem⟩ : St).env.getD i U = .v (.a x) by simp [List.getD, hx]] at this
  rw [show (vs.toArray).getD i undef = vs.getD i undef by simp [Array.getD_eq_getD_getElem?, List.getD]] at this
  exact this
end
end Go.Ev
end
section
set_option linter.unusedVariables false
set_option linter.unusedSimpArgs false
namespace Go.Ev
universe u
inductive Tg {α : Sort u} (a : α) : Type where | mk
def Ys {α : Type} (x : Option α) (Q : α → Prop) (_ : Tg Q) : Prop := ∃ s, x = some s ∧ Q s
section
variable {α β : Type} {Q : α → Prop} {t : Tg Q}
theorem Ys_some {s : α} : Ys (some s) Q t = Q s := propext ⟨(fun ⟨s', h1, h2⟩ => by cases h1; exact h2), fun h => ⟨s, rfl, h⟩⟩
theorem Ys_none : Ys (none : Option α) Q t = False := propext ⟨(fun ⟨s', h1, h2⟩ => by cases h1), False.elim⟩
theorem Ys_bind {x : Option β} {f : β → Option α} : Ys (x.bind f) Q t = Ys x (fun y => Ys (f y) Q t) .mk := by
  cases x with
  | none => simp only [Option.bind_none, Ys_none]
  | some y => simp only [Option.bind_some, Ys_some]
theorem Ys_map {x : Option β} {f : β → α} : Ys (x.map f) Q t = Ys x (fun y => Q (f y)) .mk := by
  cases x with
  | none => simp only [Option.map_none, Ys_none]
  | some y => simp only [Option.map_some, Ys_some]
theorem Ys_out {x : Option α} (h : Ys x Q t) : ∃ s, x = some s ∧ Q s := h
theorem Ys_in {x : Option α} (h : ∃ s, x = some s ∧ Q s) : Ys x Q t := h
theorem Ys_ite {c : Prop} [Decidable c] {x y : Option α} (h1 : c → Ys x Q t) (h2 : ¬c → Ys y Q t) : Ys (if c then x else y) Q t := by
  by_cases h : c
  · rw [if_pos h]; exact h1 h
  · rw [if_neg h]; exact h2 h
end
attribute [go_sem] Ys_some Ys_none
attribute [go_sem ↓] Ys_bind Ys_map
def CondR (x : SV) (p q : Prop) (_ : Tg p) (_ : Tg q) : Prop := match x with | .v (.a (.bool t)) => if t = true then p else q | _ => False
section
variable {p q : Prop} {t1 : Tg p} {t2 : Tg q}
theorem CondR_true : CondR (.v (.a (.bool true))) p q t1 t2 = p := by simp only [CondR, if_true]
theorem CondR_false : CondR (.v (.a (.bool false))) p q t1 t2 = q := by simp only [CondR, Bool.false_eq_true, if_false]
theorem condR {t : Bool} (h1 : t = true → p) (h2 : t = false → q) : CondR (.v (.a (.bool t))) p q t1 t2 := by
  cases t
  · rw [CondR_false]; exact h2 rfl
  · rw [CondR_true]; exact h1 rfl
end
attribute [go_sem] CondR_true CondR_false
section
variable {T : Tab} {fx : Fx} {call : CallF} {k cur : Nat} {st st' : St} {Q : Ex → St → Prop} {t : Tg Q}
def Rn (T : Tab) (fx : Fx) (call : CallF) (k cur : Nat) (c : Code) (st : St) (Q : Ex → St → Prop) (_ : Tg Q) : Prop := Runs T fx call k cur c st Q
theorem rn {c : Code} (h : Rn T fx call k cur c st Q .mk) : Runs T fx call k cur c st Q := h
theorem nr {c : Code} (h : Runs T fx call k cur c st Q) : Rn T fx call k cur c st Q t := h
theorem Runs_Seq {a b : Code} : Rn T fx call k cur (.seq a b) st Q t = Rn T fx call k cur a st (thenR (fun s => Rn T fx call k cur b s Q t) Q) .mk := propext Runs_seq
theorem Runs_Region {id : Nat} {ops : Array Oper} : Rn T fx call k cur (.region id ops false) st Q t = Ys (T.ops fx call ops ops.toList st) (Q .normal) .mk := by
  have := propext (Runs_region (T := T) (fx := fx) (call := call) (k := k) (cur := cur) (id := id) (ops := ops) (d := false) (st := st) (Q := Q))
  rw [Rn, this]; rfl
theorem Runs_Draw {id : Nat} {ops : Array Oper} (h : drawOk fx ops = true) : Rn T fx call k cur (.region id ops true) st Q t = Ys (T.dops fx call ops (drawW fx ops) (drawPlan ops) st) (Q .normal) .mk := by
  have := propext (Runs_region (T := T) (fx := fx) (call := call) (k := k) (cur := cur) (id := id) (ops := ops) (d := true) (st := st) (Q := Q))
  rw [Rn, this]; simp only [Tab.region, h, if_true]; rfl
theorem Runs_Cond {c : Operand} {a b : Code} : Rn T fx call k cur (.cond c a b) st Q t = CondR (st.get c) (Rn T fx call k cur a st Q t) (Rn T fx call k cur b st Q t) .mk .mk := by
  apply propext
  constructor
  · rintro ⟨e, s, h1, h2⟩
    simp only [Tab.code] at h1
    split at h1
    · rename_i t ht
      rw [ht]
      refine condR (fun h => ?_) (fun h => ?_)
      · rw [if_pos h] at h1; exact ⟨e, s, h1, h2⟩
      · rw [if_neg (by simp [h])] at h1; exact ⟨e, s, h1, h2⟩
    · cases h1
  · intro h
    unfold CondR at h
    split at h
    · rename_i t ht
      refine runs_cond ht (fun h' => ?_) (fun h' => ?_)
      · rw [if_pos h'] at h; exact h
      · rw [if_neg (by simp [h'])] at h; exact h
    · exact h.elim
theorem Runs_Block {id : Nat} {c : Code} : Rn T fx call k cur (.block id c) st Q t = Rn T fx call k id c st (blockR id Q) .mk := by
  refine propext ⟨?_, runs_block⟩
  rintro ⟨e, s, h1, h2⟩
  simp only [Tab.code] at h1
  rw [Option.bind_eq_some_iff] at h1
  obtain ⟨⟨e1, s1⟩, h3, h4⟩ := h1
  simp only [Option.some.injEq, Prod.mk.injEq] at h4
  obtain ⟨rfl, rfl⟩ := h4
  refine ⟨e1, s1, h3, ?_⟩
  cases e1 with
  | normal => exact h2
  | ret => exact h2
  | exit i =>
    by_cases hi : i = id
    · simp only [blockR, if_pos hi] at h2 ⊢; exact h2
    · simp only [blockR, if_neg hi] at h2 ⊢; exact h2
theorem Runs_Skip : Rn T fx call k cur .skip st Q t = Q .normal st := propext Runs_skip
theorem Runs_Exit {id : Nat} : Rn T fx call k cur (.exit id) st Q t = Q (.exit id) st := propext Runs_exit
theorem Runs_Ret : Rn T fx call k cur .ret st Q t = Q .ret st := propext Runs_ret
attribute [go_sem ↓] Runs_Seq Runs_Region Runs_Cond Runs_Skip Runs_Exit Runs_Ret Runs_Block thenR_normal thenR_exit thenR_ret blockR_normal blockR_exit blockR_ret
theorem asL_L {l : List IV} : asL (.L l) = l := (rfl)
theorem asL_N : asL .N = [] := (rfl)
theorem bind_s {α β : Type} {a : α} {f : α → Option β} : (some a).bind f = f a := (rfl)
theorem bind_n {α β : Type} {f : α → Option β} : (none : Option α).bind f = none := (rfl)
theorem map_s {α β : Type} {a : α} {f : α → β} : (some a).map f = some (f a) := (rfl)
theorem map_n {α β : Type} {f : α → β} : (none : Option α).map f = none := (rfl)
theorem ops_nil {ops : Array Oper} : T.ops fx call ops [] st = some st := (rfl)
theorem ops_cons {ops : Array Oper} {o : Oper} {l : List Oper} : T.ops fx call ops (o :: l) st = (T.one fx call ops o st).bind (T.ops fx call ops l) := (rfl)
theorem get_set_ne {d e : Tmp} {v : SV} (h : d ≠ e) : (st.set (some d) v).get (.tmp e) = st.get (.tmp e) := by rw [get_set, if_neg (fun hh => h hh.1)]
theorem get_set_eq {d : Tmp} {v : SV} (h : d < st.env.length) : (st.set (some d) v).get (.tmp d) = v := by rw [get_set, if_pos ⟨rfl, h⟩]
theorem len_kill {j : Nat} : (st.kill j).env.length = st.env.length := by simp [St.kill, St.map, St.putRow]
theorem get_map {φ : At → At} (hφ : φ .U = .U) {t : Tmp} : (st.map φ).get (.tmp t) = (st.get (.tmp t)).map φ := by
  simp only [St.get, St.map]
  rw [← getD_map (SV.map φ), U_map φ hφ]
theorem get_put {j : Nat} {r : Option Row} {t : Tmp} : (st.putRow j r).get (.tmp t) = st.get (.tmp t) := (rfl)
theorem len_put {j : Nat} {r : Option Row} : (st.putRow j r).env.length = st.env.length := (rfl)
theorem get_kill {j : Nat} {t : Tmp} : (st.kill j).get (.tmp t) = (st.get (.tmp t)).map (At.kill j) := by
  show (st.map (At.kill j)).get (.tmp t) = _
  exact get_map rfl
theorem get_ren {i j : Nat} {t : Tmp} : (st.map (At.ren i j)).get (.tmp t) = (st.get (.tmp t)).map (At.ren i j) := get_map rfl
theorem len_map {φ : At → At} : (st.map φ).env.length = st.env.length := by simp [St.map]
theorem get_fresh {l ks : List Nat} {t : Tmp} (h : t ∉ l) : (st.fresh (l, ks)).get (.tmp t) = (st.get (.tmp t)).map (At.killL ks) := by
  unfold St.fresh
  show ((st.clear l).map (At.killL ks)).get (.tmp t) = _
  rw [get_map rfl, clear_get l t st h]
theorem len_fresh {l ks : List Nat} : (st.fresh (l, ks)).env.length = st.env.length := by
  simp [St.fresh, St.killL, clear_len]
theorem row_fresh {l ks : List Nat} {j : Nat} (h : j ∉ ks) : (st.fresh (l, ks)).row j = (st.row j).map (Row.map (At.killL ks)) := by
  unfold St.fresh
  rw [row_killL, if_neg h, clear_row]
theorem map_a {φ : At → At} {x : At} : SV.map φ (.v (.a x)) = .v (.a (φ x)) := (rfl)
theorem map_g {φ : At → At} {t : TypeId} {l : List At} : SV.map φ (.v (.g t l)) = .v (.g t (l.map φ)) := (rfl)
theorem map_U {φ : At → At} : SV.map φ U = .v (.a (φ .U)) := (rfl)
theorem kill_int {j : Nat} {k : IntKind} {n : Int} : At.kill j (.int k n) = .int k n := (rfl)
theorem kill_bool {j : Nat} {b : Bool} : At.kill j (.bool b) = .bool b := (rfl)
theorem kill_str {j : Nat} {b : ByteArray} : At.kill j (.str b) = .str b := (rfl)
theorem kill_iv {j p : Nat} {t : TypeId} {v : IV} : At.kill j (.iv p t v) = .iv p t v := (rfl)
theorem kill_pv {j p : Nat} {t : TypeId} {v : IV} : At.kill j (.pv p t v) = .pv p t v := (rfl)
theorem kill_nil {j : Nat} : At.kill j .nil = .nil := (rfl)
theorem kill_own {j i : Nat} : At.kill j (.own i) = if i = j then .U else .own i := (rfl)
theorem kill_sub {j i n : Nat} : At.kill j (.sub i n) = if i = j then .U else .sub i n := (rfl)
theorem kill_ptr {j i : Nat} {p : List Nat} {t : TypeId} : At.kill j (.ptr i p t) = if i = j then .U else .ptr i p t := (rfl)
theorem kill_fn {j : Nat} {f : FuncId} {c : List Nat} : At.kill j (.fn f c) = if j ∈ c then .U else .fn f c := (rfl)
theorem ren_int {i j : Nat} {k : IntKind} {n : Int} : At.ren i j (.int k n) = .int k n := (rfl)
theorem ren_bool {i j : Nat} {b : Bool} : At.ren i j (.bool b) = .bool b := (rfl)
theorem ren_str {i j : Nat} {b : ByteArray} : At.ren i j (.str b) = .str b := (rfl)
theorem ren_iv {i j p : Nat} {t : TypeId} {v : IV} : At.ren i j (.iv p t v) = .iv p t v := (rfl)
theorem ren_pv {i j p : Nat} {t : TypeId} {v : IV} : At.ren i j (.pv p t v) = .pv p t v := (rfl)
theorem ren_nil {i j : Nat} : At.ren i j .nil = .nil := (rfl)
theorem ren_own {i j n : Nat} : At.ren i j (.own n) = if n = i then .own j else .own n := (rfl)
theorem ren_ptr {i j n : Nat} {p : List Nat} {t : TypeId} : At.ren i j (.ptr n p t) = if n = i then .ptr j p t else .ptr n p t := (rfl)
theorem ren_sub {i j n m : Nat} : At.ren i j (.sub n m) = if n = i then .sub j m else .sub n m := (rfl)
theorem killL_int {ks : List Nat} {k : IntKind} {n : Int} : At.killL ks (.int k n) = .int k n := (rfl)
theorem killL_bool {ks : List Nat} {b : Bool} : At.killL ks (.bool b) = .bool b := (rfl)
theorem killL_str {ks : List Nat} {b : ByteArray} : At.killL ks (.str b) = .str b := (rfl)
theorem killL_iv {ks : List Nat} {p : Nat} {t : TypeId} {v : IV} : At.killL ks (.iv p t v) = .iv p t v := (rfl)
theorem killL_pv {ks : List Nat} {p : Nat} {t : TypeId} {v : IV} : At.killL ks (.pv p t v) = .pv p t v := (rfl)
theorem killL_Nil {ks : List Nat} : At.killL ks .nil = .nil := (rfl)
theorem killL_own {ks : List Nat} {j : Nat} : At.killL ks (.own j) = if ks.contains j then .U else .own j := (rfl)
theorem killL_sub {ks : List Nat} {j n : Nat} : At.killL ks (.sub j n) = if ks.contains j then .U else .sub j n := (rfl)
theorem killL_ptr {ks : List Nat} {j : Nat} {p : List Nat} {t : TypeId} : At.killL ks (.ptr j p t) = if ks.contains j then .U else .ptr j p t := (rfl)
theorem killL_fn {ks : List Nat} {f : FuncId} {c : List Nat} : At.killL ks (.fn f c) = if c.any ks.contains then .U else .fn f c := (rfl)
theorem rmap_arr {φ : At → At} {p : Nat} {e : TypeId} {l : List IV} : Row.map φ (.arr p e l) = .arr p e l := (rfl)
theorem rmap_box {φ : At → At} {x : Bool} {t : TypeId} {o : List Nat} {c : V1} : Row.map φ (.box x t o c) = .box x t o (c.map φ) := (rfl)
theorem vmap_a {φ : At → At} {x : At} : V1.map φ (.a x) = .a (φ x) := (rfl)
theorem vmap_g {φ : At → At} {t : TypeId} {l : List At} : V1.map φ (.g t l) = .g t (l.map φ) := (rfl)
theorem row_put {j i : Nat} {r : Option Row} : (st.putRow j r).row i = if i = j then r else st.row i := by rw [St.row_put]
attribute [go_sem] ops_nil ops_cons len_kill get_put len_put get_kill get_ren len_map get_fresh len_fresh row_fresh map_a map_g map_U kill_int kill_bool kill_str kill_iv kill_pv kill_nil kill_own kill_sub kill_ptr kill_fn ren_int ren_bool ren_str ren_iv ren_pv ren_nil ren_own ren_ptr ren_sub killL_int killL_bool killL_str killL_iv killL_pv killL_Nil killL_own killL_sub killL_ptr killL_fn rmap_arr rmap_box vmap_a vmap_g row_put St.row_kill get_set_ne get_set_eq get_const len_set row_set get1_eq getI_eq natI_nat
theorem asNil_nil {t : TypeId} : At.asNil t .nil = .nil := (rfl)
theorem asNil_own_ {t k : Nat} : At.asNil t (.own k) = .own k := (rfl)
theorem asNil_N {p t : Nat} : At.asNil t (.iv p t .N) = .nil := by simp [At.asNil]
attribute [go_sem] asNil_nil asNil_own_ asNil_N
attribute [go_sem] bind_s bind_n map_s map_n St.setA asL_L asL_N Tab.bin cmpI Tab.step St.load Tab.mk1 constAt Bool.false_eq_true if_true if_false and_true true_and and_false false_and Nat.reduceEqDiff Nat.reduceLT St.newRow St.noRow St.placeArr
end
attribute [irreducible] CondR Ys Rn
end Go.Ev
end
section
set_option linter.unusedVariables false
set_option linter.unusedSimpArgs false
namespace Go.Ev
inductive Stp (α ρ : Type) where
  | next (a : α) | stop (a : α) | ret (r : ρ)
def foldS {α β ρ : Type} (f : α → β → Stp α ρ) : α → List β → Stp α ρ
  | a, [] => .stop a
  | a, x :: l => match f a x with | .next b => foldS f b l | r => r
def Sl (n : Nat) : List (Nat × SV) → List (Nat × Option Row) → St → Prop
  | [], [], s => s.env.length = n
  | [], r :: M, s => s.row r.1 = r.2 ∧ Sl n [] M s
  | v :: L, M, s => s.get (.tmp v.1) = v.2 ∧ Sl n L M s
theorem Sl_nil {n : Nat} {s : St} : Sl n [] [] s = (s.env.length = n) := by simp only [Sl]
theorem Sl_row {n : Nat} {s : St} {j : Nat} {r : Option Row} {M : List (Nat × Option Row)} : Sl n [] ((j, r) :: M) s = (s.row j = r ∧ Sl n [] M s) := by simp only [Sl]
theorem Sl_slot {n : Nat} {s : St} {j : Nat} {v : SV} {L : List (Nat × SV)} {M : List (Nat × Option Row)} : Sl n ((j, v) :: L) M s = (s.get (.tmp j) = v ∧ Sl n L M s) := by cases M <;> simp only [Sl]
def KeepL (c : List Nat × List Nat) : List (Nat × SV) → Prop
  | [] => True
  | v :: L => (v.1 ∉ c.1 ∧ v.2.map (At.killL c.2) = v.2) ∧ KeepL c L
def KeepM (c : List Nat × List Nat) : List (Nat × Option Row) → Prop
  | [] => True
  | r :: M => (r.1 ∉ c.2 ∧ r.2.map (Row.map (At.killL c.2)) = r.2) ∧ KeepM c M
theorem Sl_fresh {n : Nat} {c : List Nat × List Nat} {M : List (Nat × Option Row)} {s : St} : ∀ {L : List (Nat × SV)}, KeepL c L → KeepM c M → Sl n L M s → Sl n L M (s.fresh c)
  | v :: L, hL, hM, h => by
    have h' : s.get (.tmp v.1) = v.2 ∧ Sl n L M s := by cases M <;> simpa only [Sl] using h
    have : (s.fresh c).get (.tmp v.1) = v.2 ∧ Sl n L M (s.fresh c) := ⟨by rw [get_fresh (l := c.1) (ks := c.2) hL.1.1, h'.1, hL.1.2], Sl_fresh hL.2 hM h'.2⟩
    cases M <;> simpa only [Sl] using this
  | [], hL, hM, h => by
    induction M with
    | nil => simp only [Sl] at h ⊢; rw [← h]; exact len_fresh (l := c.1) (ks := c.2)
    | cons r M ih =>
      simp only [Sl] at h ⊢
      exact ⟨by rw [row_fresh (l := c.1) (ks := c.2) hM.1.1, h.1, hM.1.2], ih hM.2 h.2⟩
attribute [go_sem] Sl_nil Sl_row Sl_slot
section
variable {T : Tab} {fx : Fx} {call : CallF} {k cur : Nat} {st st' : St} {Q : Ex → St → Prop}
theorem runs_for {α β ρ : Type} {c : Code} (xs : List β) (step : α → β → Stp α ρ) (a0 : α) (N : Nat) (L : Nat → α → List (Nat × SV)) (M : Nat → α → List (Nat × Option Row)) (I : Nat → α → Prop)
    (hk : xs.length < k) (h0 : Sl N (L 0 a0) (M 0 a0) st) (hI : I 0 a0)
    (hL : ∀ i a, KeepL ((fx.clr.lookup cur).getD ([], [])) (L i a)) (hM : ∀ i a, KeepM ((fx.clr.lookup cur).getD ([], [])) (M i a))
    (hb : ∀ i x a s, xs[i]? = some x → i < xs.length → I i a → Sl N (L i a) (M i a) s → Runs T fx call k cur c s (fun e s' => match step a x with
      | .next b => e = .normal ∧ Sl N (L (i + 1) b) (M (i + 1) b) s' ∧ I (i + 1) b
      | .stop b => foldS step a0 xs = .stop b → e ≠ .normal ∧ Q e s'
      | .ret r => foldS step a0 xs = .ret r → e ≠ .normal ∧ Q e s'))
    (he : ∀ a s, I xs.length a → foldS step a0 xs = .stop a → Sl N (L xs.length a) (M xs.length a) s → Runs T fx call k cur c s (fun e s' => e ≠ .normal ∧ Q e s')) :
    Runs T fx call k cur (.loop c) st Q := by
  refine runs_loop (fun n s => ∃ i a, n = xs.length - i ∧ i ≤ xs.length ∧ foldS step a (xs.drop i) = foldS step a0 xs ∧ I i a ∧ Sl N (L i a) (M i a) s) xs.length hk ⟨0, a0, rfl, Nat.zero_le _, rfl, hI, h0⟩ ?_
  rintro n s ⟨i, a, rfl, hi, hf, hIa, hS⟩
  have hS' := Sl_fresh (hL i a) (hM i a) hS
  by_cases hlt : i < xs.length
  · refine runs_mono (hb i xs[i] a _ (List.getElem?_eq_getElem hlt) hlt hIa hS') (fun e s' h => ?_)
    rw [List.drop_eq_getElem_cons hlt] at hf
    simp only [foldS] at hf
    generalize foldS step a0 xs = r0 at h hf ⊢
    generalize step a xs[i] = z at h hf
    cases z with
    | next b =>
      obtain ⟨rfl, h2, h3⟩ := h
      exact ⟨xs.length - (i + 1), by omega, i + 1, b, rfl, hlt, hf, h3, h2⟩
    | stop b =>
      obtain ⟨h1, h2⟩ := h hf.symm
      cases e with
      | normal => exact absurd rfl h1
      | exit id => exact h2
      | ret => exact h2
    | ret r =>
      obtain ⟨h1, h2⟩ := h hf.symm
      cases e with
      | normal => exact absurd rfl h1
      | exit id => exact h2
      | ret => exact h2
  · have hi' : i = xs.length := by omega
    subst hi'
    rw [List.drop_length] at hf
    refine runs_mono (he a _ hIa hf.symm hS') (fun e s' h => ?_)
    obtain ⟨h1, h2⟩ := h
    cases e with
    | normal => exact absurd rfl h1
    | exit id => exact h2
    | ret => exact h2
theorem runs_forN {α ρ : Type} {c : Code} (n : Nat) (step : α → Nat → Stp α ρ) (a0 : α) (N : Nat) (L : Nat → α → List (Nat × SV)) (M : Nat → α → List (Nat × Option Row)) (I : Nat → α → Prop)
    (hk : n < k) (h0 : Sl N (L 0 a0) (M 0 a0) st) (hI : I 0 a0)
    (hL : ∀ i a, KeepL ((fx.clr.lookup cur).getD ([], [])) (L i a)) (hM : ∀ i a, KeepM ((fx.clr.lookup cur).getD ([], [])) (M i a))
    (hb : ∀ i a s, i < n → I i a → Sl N (L i a) (M i a) s → Runs T fx call k cur c s (fun e s' => match step a i with
      | .next b => e = .normal ∧ Sl N (L (i + 1) b) (M (i + 1) b) s' ∧ I (i + 1) b
      | .stop b => foldS step a0 (List.range n) = .stop b → e ≠ .normal ∧ Q e s'
      | .ret r => foldS step a0 (List.range n) = .ret r → e ≠ .normal ∧ Q e s'))
    (he : ∀ a s, I n a → foldS step a0 (List.range n) = .stop a → Sl N (L n a) (M n a) s → Runs T fx call k cur c s (fun e s' => e ≠ .normal ∧ Q e s')) :
    Runs T fx call k cur (.loop c) st Q := by
  refine runs_for (List.range n) step a0 N L M I (by simpa using hk) h0 hI hL hM (fun i x a s hx hi hIa hS => ?_) (fun a s hIa hf hS => he a s (by simpa using hIa) hf (by simpa using hS))
  have hi' : i < n := by simpa using hi
  have : x = i := by rw [List.getElem?_range hi'] at hx; exact (Option.some.inj hx).symm
  subst this
  exact hb x a s hi' hIa hS
def Fin (T : Tab) (fx : Fx) (R : List RV → Prop) (e : Ex) (s : St) : Prop := (∀ id, e ≠ .exit id) ∧ Ys (T.outs s fx.res) (fun y => R y.1) .mk
theorem Fin_ret {R : List RV → Prop} {s : St} : Fin T fx R .ret s = Ys (T.outs s fx.res) (fun y => R y.1) .mk := propext ⟨fun h => h.2, fun h => ⟨fun id h => (by cases h), h⟩⟩
theorem Fin_normal {R : List RV → Prop} {s : St} : Fin T fx R .normal s = Ys (T.outs s fx.res) (fun y => R y.1) .mk := propext ⟨fun h => h.2, fun h => ⟨fun id h => (by cases h), h⟩⟩
attribute [go_sem ↓] Fin_ret Fin_normal
def ans (call : CallF) (g : FuncId) (xs : List At) (n : Nat) : Option (List RV × List TypeId) := (call g xs (List.replicate n none)).map fun y => (y.1, y.2.1)
theorem fn_ans {ext : CallF} {f : FuncId} {args : List At} {n : Nat} {rs : List RV} {ts : List TypeId} (hf : T.fns.lookup f = some fx) (hts : fx.res.map (·.2) = ts)
    (h : Runs T fx (T.run ext k) k 0 fx.code ⟨args.map (fun x => .v (.a x)) ++ List.replicate (fx.ntmps - args.length) U, List.replicate n none⟩ (Fin T fx (fun y => y = rs))) : ans (T.run ext (k + 1)) f args n = some (rs, ts) := by
  have := runs_run (T := T) (ext := ext) (f := f) (fx := fx) (k := k) (args := args) (mem := List.replicate n none) (R := fun y _ => y = rs) hf (runs_mono h fun e s h => ⟨h.1, by obtain ⟨⟨y, s'⟩, h1, h2⟩ := Ys_out h.2; exact ⟨y, s', h1, h2⟩⟩)
  obtain ⟨rs', m, h1, h2⟩ := this
  subst h2
  rw [ans, h1, Option.map_some, hts]
def v1 : SV → Option V1 | .v x => some x | _ => none
theorem v1_v {x : V1} : v1 (.v x) = some x := (rfl)
theorem outs_nil : T.outs st [] = some ([], st) := (rfl)
theorem outs_tmp {d : Nat} {t : TypeId} {l : List (ResultVar × TypeId)} : T.outs st ((.tmp d, t) :: l) = (v1 (st.get (.tmp d))).bind fun v => (T.outV st t v).bind fun (st, r) => (T.outs st l).bind fun (rs, st) => some (r :: rs, st) := by
  simp only [Tab.outs, St.get, v1]
  cases st.env.getD d U <;> rfl
theorem outV_a {t : TypeId} {x : At} : T.outV st t (.a x) = (T.out1 st t x).bind fun (st, r) => some (st, .one r) := (rfl)
attribute [go_sem] v1_v outs_nil outs_tmp outV_a
theorem callee_ans {g : FuncId} {ts : List TypeId} {os : List Operand} (h : os.flatMap (fun o => (st.get o).caps) = []) : st.callee T call g [] ts os = (st.args T [] ts os).bind fun xs => (ans call g xs (T.nk g)).bind fun y => some (y.1, y.2, st) := by
  have hr : st.reach 60 [] [] = [] := (rfl)
  unfold St.callee
  rw [List.nil_append, h, hr]
  simp only [St.callee1, St.pairs, List.map_nil, nodup, List.all_nil, St.handOk, List.contains_nil, Bool.not_false, Bool.true_and, Bool.and_self, List.all_eq_true, implies_true, if_true]
  congr 1; funext xs
  simp only [List.mapM_nil]
  show (call g (xs ++ []) (st.handOver (T.nk g) [])).bind _ = _
  rw [List.append_nil, ans]
  have h2 : st.handOver (T.nk g) [] = List.replicate (T.nk g) none := (rfl)
  rw [h2]
  cases call g xs (List.replicate (T.nk g) none) with
  | none => rfl
  | some y => rfl
end
end Go.Ev
end
section
set_option linter.unusedVariables false
set_option linter.unusedSimpArgs false
namespace Go.Ev
section
variable {T : Tab} {fx : Fx} {call : CallF} {k cur : Nat} {st st' : St} {Q : Ex → St → Prop}
theorem hint_some {d : Nat} : hintAt fx (some d) = fx.hints.lookup d := (rfl)
theorem hint_none : hintAt fx none = none := (rfl)
theorem lookup_cons {α : Type} {d e : Nat} {a : α} {l : List (Nat × α)} : List.lookup d ((e, a) :: l) = if d = e then some a else l.lookup d := by
  simp only [List.lookup]
  by_cases h : d = e
  · simp [h]
  · rw [if_neg h]; have : (d == e) = false := by simp [h]
    rw [this]
theorem KeepL_nil {c : List Nat × List Nat} : KeepL c [] = True := by simp only [KeepL]
theorem KeepL_cons {c : List Nat × List Nat} {d : Nat} {v : SV} {L : List (Nat × SV)} : KeepL c ((d, v) :: L) = ((d ∉ c.1 ∧ v.map (At.killL c.2) = v) ∧ KeepL c L) := by simp only [KeepL]
theorem KeepM_nil {c : List Nat × List Nat} : KeepM c [] = True := by simp only [KeepM]
theorem KeepM_cons {c : List Nat × List Nat} {d : Nat} {v : Option Row} {L : List (Nat × Option Row)} : KeepM c ((d, v) :: L) = ((d ∉ c.2 ∧ v.map (Row.map (At.killL c.2)) = v) ∧ KeepM c L) := by simp only [KeepM]
attribute [go_sem] hint_some hint_none lookup_cons List.lookup_nil KeepL_nil KeepL_cons KeepM_nil KeepM_cons decide_eq_true_eq decide_eq_false_iff_not List.mem_cons List.not_mem_nil or_false not_or not_false_eq_true not_true_eq_false
theorem wrap_succ {i n : Nat} (h : i < n) (hn : n ≤ maxLen) : IntKind.i64.wrap ((i : Int) + 1) = ((i + 1 : Nat) : Int) := by
  unfold maxLen at hn; rw [Go.IntWalk.i64_in _ (by omega)]; omega
theorem natI_ge {n : Int} (h : 0 ≤ n) : natI n = some n.toNat := by simp [natI, h]
def el (l : List IV) (n : Int) : IV := l.getD n.toNat .N
theorem get_el {l : List IV} {n : Int} (h0 : 0 ≤ n) (h : n < (l.length : Int)) : l[n.toNat]? = some (el l n) := by
  have : n.toNat < l.length := by omega
  simp [el, List.getD, this]
theorem el_nat {l : List IV} {i : Nat} : el l (i : Int) = l.getD i .N := by simp [el]
theorem get_lt {l : List IV} {i : Nat} (h : i < l.length) : l[i]? = some (l.getD i .N) := by simp [List.getD, h]
theorem any_range {l : List IV} {p : IV → Bool} : ((List.range l.length).any fun i => p (l.getD i .N)) = l.any p := by
  rw [Bool.eq_iff_iff, List.any_eq_true, List.any_eq_true]
  constructor
  · rintro ⟨i, hi, h⟩
    have hi' : i < l.length := List.mem_range.1 hi
    refine ⟨l[i], List.getElem_mem hi', ?_⟩
    simpa [List.getD, hi'] using h
  · rintro ⟨x, hx, h⟩
    obtain ⟨i, hi, rfl⟩ := List.mem_iff_getElem.1 hx
    exact ⟨i, List.mem_range.2 hi, by simpa [List.getD, hi] using h⟩
theorem set_none {v : SV} : st.set none v = st := (rfl)
attribute [go_sem] set_none get_lt get_el natI_ge el_nat Int.not_lt Int.not_le
theorem fold_any {β ρ : Type} (p : β → Prop) [DecidablePred p] (r : ρ) (l : List β) : foldS (fun (_ : Unit) x => if p x then .ret r else .next ()) () l = if (l.any fun x => decide (p x)) = true then .ret r else .stop () := by
  induction l with
  | nil => rfl
  | cons x l ih =>
    simp only [foldS, List.any_cons]
    by_cases h : p x
    · simp [h]
    · simp only [h, if_false, ih, decide_false, Bool.false_or]
theorem any_ret {β ρ : Type} {p : β → Prop} [DecidablePred p] {r : ρ} {l : List β} : (foldS (fun (_ : Unit) x => if p x then .ret r else .next ()) () l = .ret r) = ((l.any fun x => decide (p x)) = true) := by
  rw [fold_any]; split <;> simp [*]
theorem any_stop {β ρ : Type} {p : β → Prop} [DecidablePred p] {r : ρ} {l : List β} {a : Unit} : (foldS (fun (_ : Unit) x => if p x then .ret r else .next ()) () l = .stop a) = ((l.any fun x => decide (p x)) = false) := by
  rw [fold_any]; split <;> simp [*]
attribute [go_sem] Bool.decide_eq_true any_ret any_stop reduceCtorEq Int.ofNat_lt Nat.lt_irrefl decide_true decide_false ne_eq
end
end Go.Ev
end
section
set_option linter.unusedVariables false
set_option linter.unusedSimpArgs false
namespace Go.Ev
section
variable {T : Tab} {fx : Fx} {call : CallF} {k cur : Nat} {st st' : St} {Q : Ex → St → Prop}
theorem condP {P : Prop} [Decidable P] {p q : Prop} {t1 : Tg p} {t2 : Tg q} (h1 : P → p) (h2 : ¬P → q) : CondR (.v (.a (.bool (decide P)))) p q t1 t2 := condR (fun h => h1 (of_decide_eq_true h)) (fun h => h2 (of_decide_eq_false h))
theorem condN {P : Prop} [Decidable P] {p q : Prop} {t1 : Tg p} {t2 : Tg q} (h1 : ¬P → p) (h2 : P → q) : CondR (.v (.a (.bool (!decide P)))) p q t1 t2 := condR (fun h => h1 (by simpa using h)) (fun h => h2 (by simpa using h))
theorem condLt {a b : Int} {p q : Prop} {t1 : Tg p} {t2 : Tg q} (h1 : a < b → ¬b ≤ a → p) (h2 : ¬a < b → b ≤ a → q) : CondR (.v (.a (.bool (decide (a < b))))) p q t1 t2 := condP (fun h => h1 h (by omega)) (fun h => h2 h (by omega))
theorem condLe {a b : Int} {p q : Prop} {t1 : Tg p} {t2 : Tg q} (h1 : a ≤ b → ¬b < a → p) (h2 : ¬a ≤ b → b < a → q) : CondR (.v (.a (.bool (decide (a ≤ b))))) p q t1 t2 := condP (fun h => h1 h (by omega)) (fun h => h2 h (by omega))
theorem YsLt {α : Type} {Q : α → Prop} {t : Tg Q} {a b : Int} {x y : Option α} (h1 : a < b → ¬b ≤ a → Ys x Q t) (h2 : ¬a < b → b ≤ a → Ys y Q t) : Ys (if a < b then x else y) Q t := Ys_ite (fun h => h1 h (by omega)) (fun h => h2 h (by omega))
theorem YsLe {α : Type} {Q : α → Prop} {t : Tg Q} {a b : Int} {x y : Option α} (h1 : a ≤ b → ¬b < a → Ys x Q t) (h2 : ¬a ≤ b → b < a → Ys y Q t) : Ys (if a ≤ b then x else y) Q t := Ys_ite (fun h => h1 h (by omega)) (fun h => h2 h (by omega))
theorem YsB {α : Type} {Q : α → Prop} {t : Tg Q} {b : Bool} {x y : Option α} (h1 : b = true → Ys x Q t) (h2 : b = false → Ys y Q t) : Ys (if b = true then x else y) Q t := Ys_ite h1 (fun h => h2 (by simpa using h))
theorem YsC {α : Type} {Q : α → Prop} {t : Tg Q} {b : Bool} {x y : Option α} (h1 : b = false → Ys x Q t) (h2 : b = true → Ys y Q t) : Ys (if b = false then x else y) Q t := Ys_ite h1 (fun h => h2 (by simpa using h))
theorem ans_ext {ext : CallF} {f : FuncId} {xs : List At} {n : Nat} (h : T.fns.lookup f = none) (hk : 0 < k) : ans (T.run ext k) f xs n = ans ext f xs n := by
  obtain ⟨k, rfl⟩ : ∃ k', k = k' + 1 := ⟨k - 1, by omega⟩
  simp only [ans, Tab.run, h]
theorem bool_ite {P : Prop} [Decidable P] {α : Type} {x y : α} : (if decide P = true then x else y) = if P then x else y := by simp
theorem out1_bool {t : TypeId} {b : Bool} (h : T.ty t = .bool) : T.out1 st t (.bool b) = some (st, .at (.bool b)) := by simp [Tab.out1, At.plain, At.lent, Tab.iv1, h]
theorem out1_int {t : TypeId} {k : IntKind} {n : Int} (h : T.ty t = .int k) : T.out1 st t (.int k n) = some (st, .at (.int k n)) := by simp [Tab.out1, At.plain, At.lent, Tab.iv1, h]
theorem out1_own {t : TypeId} {j : Nat} : T.out1 st t (.own j) = match T.ty t, st.row j with | .slice e, some (.arr p e' l) => if e = e' ∧ p ≠ 0 then some (st.kill j, .own p e l) else none | _, _ => none := (rfl)
theorem out1_iv {t : TypeId} {p : Nat} {v : IV} (hp : p ≠ 0) : T.out1 st t (.iv p t v) = some (st, .at (.iv p t v)) := by simp [Tab.out1, At.plain, At.lent, Tab.iv1, hp]
theorem out1_nil {t : TypeId} : T.out1 st t .nil = match T.ty t with | .slice e => if T.okE e then some (st, .own 2 e []) else none | _ => none := (rfl)
theorem args_nil {ρ : List (Nat × Nat)} : St.args T ρ st [] [] = some [] := (rfl)
theorem args_cons {ρ : List (Nat × Nat)} {t : TypeId} {ts : List TypeId} {o : Operand} {os : List Operand} : St.args T ρ st (t :: ts) (o :: os) = (st.arg T ρ t (st.get o)).bind fun x => (St.args T ρ st ts os).bind fun xs => some (x :: xs) := (rfl)
theorem arg_iv {ρ : List (Nat × Nat)} {t : TypeId} {p : Nat} {v : IV} : st.arg T ρ t (.v (.a (.iv p t v))) = some (.iv p t v) := by simp [St.arg, St.view1, Tab.iv1]
theorem arg_nil {ρ : List (Nat × Nat)} {t e : TypeId} (h : T.ty t = .slice e) : st.arg T ρ t (.v (.a .nil)) = some (.iv 2 t .N) := by simp [St.arg, St.view1, Tab.iv1, h]
theorem arg_int {ρ : List (Nat × Nat)} {t : TypeId} {k : IntKind} {n : Int} : st.arg T ρ t (.v (.a (.int k n))) = some (.int k n) := (rfl)
theorem arg_bool {ρ : List (Nat × Nat)} {t : TypeId} {b : Bool} : st.arg T ρ t (.v (.a (.bool b))) = some (.bool b) := (rfl)
theorem arg_str {ρ : List (Nat × Nat)} {t : TypeId} {b : ByteArray} : st.arg T ρ t (.v (.a (.str b))) = some (.str b) := (rfl)
theorem arg_own {ρ : List (Nat × Nat)} {t : TypeId} {j : Nat} : st.arg T ρ t (.v (.a (.own j))) = match T.ty t, st.row j with | .slice e, some (.arr _ e' l) => if e = e' then some (.iv 0 t (.L l)) else none | _, _ => none := by
  show (st.view1 T t (.own j)).bind _ = _
  simp only [St.view1]
  generalize T.ty t = x; generalize st.row j = y
  cases x <;> (try rfl)
  cases y with
  | none => rfl
  | some r => cases r with
    | box => rfl
    | arr p e l => simp only []; split <;> simp [Tab.iv1]
theorem arg_sub {ρ : List (Nat × Nat)} {t : TypeId} {j n : Nat} : st.arg T ρ t (.v (.a (.sub j n))) = match T.ty t, st.row j with | .slice e, some (.arr _ e' l) => if e = e' then if n ≤ l.length then some (.iv 0 t (.L (l.take n))) else none else none | _, _ => none := by
  show (st.view1 T t (.sub j n)).bind _ = _
  simp only [St.view1]
  generalize T.ty t = x; generalize st.row j = y
  cases x <;> (try rfl)
  cases y with
  | none => rfl
  | some r => cases r with
    | box => rfl
    | arr p e l => simp only []; split
                   · split <;> simp [Tab.iv1]
                   · rfl
theorem arg_g {ρ : List (Nat × Nat)} {t : TypeId} {fs : List (TypeId × Nat)} {l : List At} (h : T.ty t = .agg fs) : st.arg T ρ t (.v (.g t l)) = (st.viewL T fs l).bind fun l2 => (T.ivL fs l2).bind fun x => some (.iv x.1 t (.A x.2)) := by simp [St.arg, h]
theorem caps_int {k : IntKind} {n : Int} : SV.caps (.v (.a (.int k n))) = [] := (rfl)
theorem caps_bool {b : Bool} : SV.caps (.v (.a (.bool b))) = [] := (rfl)
theorem caps_str {b : ByteArray} : SV.caps (.v (.a (.str b))) = [] := (rfl)
theorem caps_iv {p : Nat} {t : TypeId} {v : IV} : SV.caps (.v (.a (.iv p t v))) = [] := (rfl)
theorem caps_own {j : Nat} : SV.caps (.v (.a (.own j))) = [] := (rfl)
theorem caps_sub {j n : Nat} : SV.caps (.v (.a (.sub j n))) = [] := (rfl)
theorem caps_nil : SV.caps (.v (.a .nil)) = [] := (rfl)
theorem caps_g {t : TypeId} {l : List At} : SV.caps (.v (.g t l)) = [] := (rfl)
theorem get_func {f : FuncId} : st.get (.func f) = .v (.a (.fn f [])) := (rfl)
theorem place_at {h : Option Hint} {d : Option Tmp} {t : TypeId} {x : At} : st.placeV T h d t (.one (.at x)) = some (st.set d (.v (.a x))) := by cases h <;> cases d <;> rfl
theorem place_own_none {d : Option Tmp} {t e : TypeId} {p : Nat} {l : List IV} : st.placeV T none d t (.one (.own p e l)) = some (st.set d (.v (.a (.iv p t (.L l))))) := by cases d <;> rfl
theorem place_own {h : Hint} {d : Tmp} {t e : TypeId} {p : Nat} {l : List IV} : st.placeV T (some h) (some d) t (.one (.own p e l)) = some ((st.newRow h.key (.arr p e l)).set (some d) (.v (.a (.own h.key)))) := (rfl)
attribute [go_sem] out1_bool out1_int out1_own out1_iv out1_nil args_nil args_cons arg_iv arg_nil arg_int arg_bool arg_str arg_own arg_sub arg_g caps_int caps_bool caps_str caps_iv caps_own caps_sub caps_nil caps_g get_func place_at place_own_none place_own callee_ans List.flatMap_cons List.flatMap_nil List.append_nil List.nil_append bool_ite Tab.un List.length_nil List.length_cons Option.isSome_some Option.isSome_none St.viewL St.view1 Tab.ivL Tab.iv1 mn
attribute [go_sem] Int.natCast_inj Bool.not_eq_true' Bool.not_eq_false' ite_not true_or or_true false_or Bool.true_and Bool.false_and Bool.and_false Bool.true_or Bool.or_true Bool.false_or Bool.or_false not_false_eq_true
attribute [go_sem] Tab.lits Tab.litsQ St.elems RV.frozenT Tab.build Tab.ivV At.isOwn At.plain nodup
attribute [go_sem] St.moveRow St.row_map setf putp atp Option.some.injEq Bool.not_true Bool.not_false
theorem draw_look {id : Nat} {ops : Array Oper} {t : Tg Q} (h : drawOk fx ops = true) (hW : drawW fx ops = []) (h2 : Ys (T.dops fx call ops [] (drawPlan ops) st) (Q .normal) .mk) : Rn T fx call k cur (.region id ops true) st Q t := by rw [Runs_Draw h, hW]; exact h2
theorem dops_nil {ops : Array Oper} {W : List Nat} : T.dops fx call ops W [] st = some st := (rfl)
theorem dops_cons {ops : Array Oper} {W : List Nat} {o : Oper} {b : Bool} {l : List (Oper × Bool)} : T.dops fx call ops W ((o, b) :: l) st = (T.dop fx call ops W b o st).bind (T.dops fx call ops W l) := (rfl)
def gv (T : Tab) (fx : Fx) (call : CallF) (ops : Array Oper) (o : Oper) (st : St) : Option SV := match o.guard with | none => T.val fx call o st | some (j, b) => (yieldOf ops st j).bind fun y => if y = some b then T.val fx call o st else some (.tup [])
theorem eff_val {o : Oper} {v : SV} (h1 : T.val fx call o st = some v) : T.eff fx call [] o st = some (v, none) := by
  unfold Tab.eff
  have h3 : ((st.keysOf o).any fun x => ([] : List Nat).contains x) = false := by simp
  split
  · rename_i hop; rw [Tab.val] at h1; simp only [hop] at h1; split at h1 <;> cases h1
  · rename_i hop; rw [Tab.val] at h1; simp only [hop] at h1; split at h1 <;> cases h1
  · rw [h3]; simp only [Bool.false_eq_true, if_false, h1, Option.map_some]
theorem dop_val {ops : Array Oper} {b : Bool} {o : Oper} {R : St → Prop} {t : Tg R} (h : Ys (gv T fx call ops o st) (fun v => R (st.set o.dst v)) .mk) : Ys (T.dop fx call ops [] b o st) R t := by
  obtain ⟨v, h1, h2⟩ := Ys_out h
  refine Ys_in ⟨_, ?_, h2⟩
  unfold gv at h1
  unfold Tab.dop
  have keep : (b = true → T.one fx call ops o st = some (st.set o.dst v)) → ((match o.guard with
      | none => (T.eff fx call [] o st).map (st.apply o.dst)
      | some (j, c) => (yieldOf ops st j).bind fun y => if y = some c then (T.eff fx call [] o st).map (st.apply o.dst) else some (st.set o.dst (.tup []))) = some (st.set o.dst v)) → (if b = true then T.one fx call ops o st else (match o.guard with
      | none => (T.eff fx call [] o st).map (st.apply o.dst)
      | some (j, c) => (yieldOf ops st j).bind fun y => if y = some c then (T.eff fx call [] o st).map (st.apply o.dst) else some (st.set o.dst (.tup [])))) = some (st.set o.dst v) := by
    intro e1 e2; by_cases hb : b = true
    · rw [if_pos hb]; exact e1 hb
    · rw [if_neg hb]; exact e2
  refine keep (fun _ => ?_) ?_
  · unfold Tab.one
    cases hg : o.guard with
    | none => rw [hg] at h1; exact val_step h1
    | some jb =>
      obtain ⟨j, c⟩ := jb
      rw [hg] at h1
      simp only at h1 ⊢
      rw [Option.bind_eq_some_iff] at h1
      obtain ⟨y, hy, h3⟩ := h1
      rw [hy, Option.bind_some]
      split at h3
      · rename_i e; rw [if_pos e]; exact val_step h3
      · rename_i e; rw [if_neg e]; cases h3; rfl
  · cases hg : o.guard with
    | none => rw [hg] at h1; simp only at h1 ⊢; rw [eff_val h1]; rfl
    | some jb =>
      obtain ⟨j, c⟩ := jb
      rw [hg] at h1
      simp only at h1 ⊢
      rw [Option.bind_eq_some_iff] at h1
      obtain ⟨y, hy, h3⟩ := h1
      rw [hy, Option.bind_some]
      split at h3
      · rename_i e; rw [if_pos e, eff_val h3]; rfl
      · rename_i e; rw [if_neg e]; cases h3; rfl
theorem dop_loud {ops : Array Oper} {W : List Nat} {b : Bool} {o : Oper} {R : St → Prop} {t : Tg R} (hb : b = true) (h : Ys (T.one fx call ops o st) R .mk) : Ys (T.dop fx call ops W b o st) R t := by
  obtain ⟨v, h1, h2⟩ := Ys_out h
  refine Ys_in ⟨v, ?_, h2⟩
  unfold Tab.dop; rw [if_pos hb]; exact h1
theorem plan_eq {ops : Array Oper} : drawPlan ops = ops.toList.zipIdx.map fun x => (x.1, loudB (Region.before ops) ops.size x.2) := (rfl)
theorem zipIdx_cons' {α : Type} {x : α} {l : List α} {n : Nat} : (x :: l).zipIdx n = (x, n) :: l.zipIdx (n + 1) := (rfl)
attribute [go_sem] dops_nil dops_cons plan_eq zipIdx_cons' List.zipIdx_nil List.map_cons List.map_nil
def yb : SV → Option (Option Bool) | .v (.a (.bool b)) => some (some b) | .tup [] => some none | _ => none
theorem yb_bool {b : Bool} : yb (.v (.a (.bool b))) = some (some b) := (rfl)
theorem yb_tup : yb (.tup []) = some none := (rfl)
def yAt (st : St) : Option Tmp → Option (Option Bool) | some d => yb (st.get (.tmp d)) | none => none
theorem yAt_some {d : Tmp} : yAt st (some d) = yb (st.get (.tmp d)) := (rfl)
theorem yield_eq {ops : Array Oper} {j : Nat} : yieldOf ops st j = yAt st ((ops[j]?).bind (·.dst)) := by
  unfold yieldOf yAt
  cases (ops[j]?).bind (·.dst) with
  | none => rfl
  | some d =>
    simp only [St.get]
    unfold yb
    cases st.env.getD d U <;> rfl
def yv (T : Tab) (rs : List RV) (ts : List TypeId) : Option SV := match rs, ts with | [], [] => some (.tup []) | [r], [t] => (r.frozen T t).bind fun x => some (.v x) | rs, ts => (RV.frozenT T ts rs).bind fun vs => some (.tup vs)
def fnOf : SV → Option FuncId | .v (.a (.fn g [])) => some g | _ => none
theorem fnOf_fn {g : FuncId} : fnOf (.v (.a (.fn g []))) = some g := (rfl)
theorem val_callv {d : Option Tmp} {f : Operand} {avs : Array Operand} {ts : Array TypeId} {t : TypeId} {p : String} {af : Array Edge} {g : Option (Nat × Bool)} : T.val fx call ⟨d, .call ⟨.value f, avs, ts⟩, t, p, af, g⟩ st = if (hintAt fx d).isSome = true then none else (fnOf (st.get f)).bind fun g => if avs.toList.all (fun o => decide ((st.get o).caps = [])) = true then (st.args T [] ts.toList avs.toList).bind fun xs => (ans call g xs (T.nk g)).bind fun y => yv T y.1 y.2 else none := by
  simp only [Tab.val]
  split
  · rfl
  · unfold fnOf
    split
    · rename_i g hg
      simp only [hg, Option.bind_some]
      split
      · congr 1; funext xs
        unfold ans
        cases call g xs (List.replicate (T.nk g) none) with
        | none => rfl
        | some y =>
          obtain ⟨rs, ts, m⟩ := y
          simp only [Option.bind_some, Option.map_some]
          rfl
      · rfl
    · rename_i hne
      split
      · rename_i g' hg'; exact absurd hg' (hne g')
      · rfl
theorem val_move {d0 : Option Tmp} {x : Operand} {t0 : TypeId} {p0 : String} {af : Array Edge} {g0 : Option (Nat × Bool)} : T.val fx call ⟨d0, .move x, t0, p0, af, g0⟩ st = if (hintAt fx d0).isSome = true then none else (some (st.get x)) := (rfl)
theorem val_assign {d0 : Option Tmp} {x : Operand} {t0 : TypeId} {p0 : String} {af : Array Edge} {g0 : Option (Nat × Bool)} : T.val fx call ⟨d0, .assign x, t0, p0, af, g0⟩ st = if (hintAt fx d0).isSome = true then none else (some (st.get x)) := (rfl)
theorem val_pick {d0 : Option Tmp} {c a b : Operand} {t0 : TypeId} {p0 : String} {af : Array Edge} {g0 : Option (Nat × Bool)} : T.val fx call ⟨d0, .pick c a b, t0, p0, af, g0⟩ st = if (hintAt fx d0).isSome = true then none else (match st.get c with | .v (.a (.bool t)) => some (if t then st.get a else st.get b) | _ => none) := (rfl)
theorem val_build {d0 : Option Tmp} {t : TypeId} {parts : Array (Nat × Operand)} {t0 : TypeId} {p0 : String} {af : Array Edge} {g0 : Option (Nat × Bool)} : T.val fx call ⟨d0, .build t parts, t0, p0, af, g0⟩ st = if (hintAt fx d0).isSome = true then none else (    match T.ty t with
    | .agg fs =>
      if parts.toList.all (fun p => p.1 < fs.length) && nodup (parts.toList.map (·.1)) then
        (T.build st (T.row t).zero fs 0 parts.toList).bind fun l =>
        if l.any At.isOwn then some (.v (.g t l)) else (T.ivL fs l).bind fun (p, vs) => some (.v (.a (.iv p t (.A vs))))
      else none
    | _ => none) := (rfl)
theorem val_buildSlice {d0 : Option Tmp} {t : TypeId} {len : Nat} {parts : Array (Nat × Operand)} {t0 : TypeId} {p0 : String} {af : Array Edge} {g0 : Option (Nat × Bool)} : T.val fx call ⟨d0, .buildSlice t len parts, t0, p0, af, g0⟩ st = if (hintAt fx d0).isSome = true then none else (    match T.ty t with
    | .slice e =>
      (T.litsQ e st parts.toList 0).bind fun (p, vs) =>
      if vs.length = len ∧ len * (T.row e).size ≤ 16777216 ∧ T.okE e then some (.v (.a (.iv p t (.L vs)))) else none
    | _ => none) := (rfl)
theorem val_load {d0 : Option Tmp} {t : TypeId} {x : Operand} {t0 : TypeId} {p0 : String} {af : Array Edge} {g0 : Option (Nat × Bool)} : T.val fx call ⟨d0, .load t x, t0, p0, af, g0⟩ st = if (hintAt fx d0).isSome = true then none else ((get1 st x).bind fun a => (st.load T t a).bind fun v => some (.v v)) := (rfl)
theorem val_binOp {d0 : Option Tmp} {op : BinOp} {t : TypeId} {x y : Operand} {u : TypeId} {t0 : TypeId} {p0 : String} {af : Array Edge} {g0 : Option (Nat × Bool)} : T.val fx call ⟨d0, .binOp op t x y u, t0, p0, af, g0⟩ st = if (hintAt fx d0).isSome = true then none else ((get1 st x).bind fun a => (get1 st y).bind fun b => (T.bin op t a b).bind fun r => some (.v (.a r))) := (rfl)
theorem val_unOp {d0 : Option Tmp} {op : UnOp} {u : TypeId} {x : Operand} {t0 : TypeId} {p0 : String} {af : Array Edge} {g0 : Option (Nat × Bool)} : T.val fx call ⟨d0, .unOp op u x, t0, p0, af, g0⟩ st = if (hintAt fx d0).isSome = true then none else ((get1 st x).bind fun a => (Tab.un op a).bind fun r => some (.v (.a r))) := (rfl)
theorem val_convert {d0 : Option Tmp} {s d : TypeId} {x : Operand} {t0 : TypeId} {p0 : String} {af : Array Edge} {g0 : Option (Nat × Bool)} : T.val fx call ⟨d0, .convert s d x, t0, p0, af, g0⟩ st = if (hintAt fx d0).isSome = true then none else (match st.get x, T.ty d, T.ty s with | .v (.a (.int _ n)), .int k, .int _ => some (.v (.a (.int k (k.wrap n)))) | _, _, _ => none) := (rfl)
theorem val_fieldAddr {d0 : Option Tmp} {s : TypeId} {x : Operand} {j : Nat} {t0 : TypeId} {p0 : String} {af : Array Edge} {g0 : Option (Nat × Bool)} : T.val fx call ⟨d0, .fieldAddr s x j, t0, p0, af, g0⟩ st = if (hintAt fx d0).isSome = true then none else (    (T.partAt s j).bind fun tj => (get1 st x).bind fun a =>
    match a with
    | .pv p t v => if t = s then some (.v (.a (.pv p tj (fld v j)))) else none
    | .ptr k path t => if t = s then some (.v (.a (.ptr k (path ++ [j]) tj))) else none
    | _ => none) := (rfl)
theorem val_field {d0 : Option Tmp} {s : TypeId} {x : Operand} {j : Nat} {t0 : TypeId} {p0 : String} {af : Array Edge} {g0 : Option (Nat × Bool)} : T.val fx call ⟨d0, .field s x j, t0, p0, af, g0⟩ st = if (hintAt fx d0).isSome = true then none else (    (T.partAt s j).bind fun tj =>
    match st.get x with
    | .v (.a (.iv p t v)) => if t = s then some (.v (.a (T.mk1 p tj (fld v j)))) else none
    | .v (.g t l) => if t = s then some (.v (.a (l.getD j .U))) else none
    | _ => none) := (rfl)
theorem val_indexAddr {d0 : Option Tmp} {t : TypeId} {x i : Operand} {t0 : TypeId} {p0 : String} {af : Array Edge} {g0 : Option (Nat × Bool)} : T.val fx call ⟨d0, .indexAddr t x i, t0, p0, af, g0⟩ st = if (hintAt fx d0).isSome = true then none else (    match T.ty t with
    | .slice e =>
      (get1 st x).bind fun a => (getI st i).bind fun (_, n) => (natI n).bind fun m =>
      match a with
      | .iv p t' v => if t' = t then ((asL v)[m]?).bind fun u => some (.v (.a (.pv p e u))) else none
      | .own k => match st.row k with | some (.arr _ e' l) => if e' = e ∧ m < l.length then some (.v (.a (.ptr k [m] e))) else none | _ => none
      | _ => none
    | _ => none) := (rfl)
theorem val_extract {d0 : Option Tmp} {x : Operand} {j : Nat} {t0 : TypeId} {p0 : String} {af : Array Edge} {g0 : Option (Nat × Bool)} : T.val fx call ⟨d0, .extract x j, t0, p0, af, g0⟩ st = if (hintAt fx d0).isSome = true then none else (match st.get x with | .tup l => (l[j]?).bind fun v => some (.v v) | _ => none) := (rfl)
theorem val_slice {d0 : Option Tmp} {t : TypeId} {x : Operand} {lo hi : Option Operand} {t0 : TypeId} {p0 : String} {af : Array Edge} {g0 : Option (Nat × Bool)} : T.val fx call ⟨d0, .slice t x lo hi none, t0, p0, af, g0⟩ st = if (hintAt fx d0).isSome = true then none else (    match st.get x with
    | .v (.a (.iv p t' v)) =>
      match T.ty t with
      | .slice e => if t' = t ∧ T.okT e then (bnd st hi (asL v).length).bind fun h => (bnd st lo 0).bind fun l => if l ≤ h ∧ h ≤ (asL v).length then some (.v (.a (.iv p t (.L (cut (asL v) l h))))) else none else none
      | _ => none
    | .v (.a (.own k)) =>
      match st.row k, T.ty t with
      | some (.arr _ e l), .slice e' => if e = e' then (bnd st hi l.length).bind fun h => (bnd st lo 0).bind fun lo => if lo = 0 ∧ h ≤ l.length then some (.v (.a (.sub k h))) else none else none
      | _, _ => none
    | _ => none) := (rfl)
theorem val_len {d0 : Option Tmp} {x : Operand} {t : TypeId} {t0 : TypeId} {p0 : String} {af : Array Edge} {g0 : Option (Nat × Bool)} : T.val fx call ⟨d0, .call ⟨.builtin .len, #[x], #[t]⟩, t0, p0, af, g0⟩ st = if (hintAt fx d0).isSome = true then none else (match T.ty t, st.get x with
        | .slice _, .v (.a (.iv _ t' v)) => if t' = t then some (.v (.a (.int .i64 (asL v).length))) else none
        | .slice _, .v (.a (.own k)) => match st.row k with | some (.arr _ _ l) => some (.v (.a (.int .i64 l.length))) | _ => none
        | .str, .v (.a (.str s)) => some (.v (.a (.int .i64 s.size)))
        | _, _ => none) := (rfl)
attribute [go_sem] val_move val_assign val_pick val_build val_buildSlice val_load val_binOp val_unOp val_convert val_fieldAddr val_field val_indexAddr val_extract val_slice val_len
attribute [go_sem high] val_callv
attribute [go_sem] yb_bool yb_tup yAt_some yield_eq fnOf_fn yv List.all_cons List.all_nil Bool.and_self Bool.and_true RV.frozen R1.frozen Tab.one gv List.getElem?_toArray List.getElem?_cons_zero List.getElem?_cons_succ List.size_toArray St.newBox St.setBox St.setBox1 St.fits St.freeze1 St.rebox St.blur Tab.zero1 Tab.zeroAt St.store
theorem outs_cell {d : Nat} {t t' : TypeId} {l : List (ResultVar × TypeId)} : T.outs st ((.cell d t', t) :: l) = (get1 st (.tmp d)).bind fun a => if t = t' then (st.load T t a).bind fun v => (T.outV st t v).bind fun (st, r) => (T.outs st l).bind fun (rs, st) => some (r :: rs, st) else none := by
  rw [get1_eq]
  simp only [Tab.outs, St.get]
  split <;> rename_i h <;> simp only [h] <;> rfl
attribute [go_sem] outs_cell
theorem gen_st {c : Code} {t : Tg Q} (h : ∀ s0 : St, (∀ d, s0.get (.tmp d) = st.get (.tmp d)) → (∀ j, s0.row j = st.row j) → s0.env.length = st.env.length → Rn T fx call k cur c s0 Q t) : Rn T fx call k cur c st Q t := h st (fun _ => rfl) (fun _ => rfl) rfl
def St0 (args : List At) (m n : Nat) : St := ⟨args.map (fun x => .v (.a x)) ++ List.replicate m U, List.replicate n none⟩
theorem St0_len {args : List At} {m n : Nat} : (St0 args m n).env.length = args.length + m := by simp [St0]
theorem St0_get {args : List At} {m n d : Nat} (h : d < args.length) : (St0 args m n).get (.tmp d) = .v (.a (args.getD d .U)) := by
  simp only [St0, St.get, List.getD]
  rw [List.getElem?_append_left (by simpa using h)]
  simp [h]
theorem St0_row {args : List At} {m n j : Nat} : (St0 args m n).row j = none := by
  simp only [St0, St.row, List.getElem?_replicate]; split <;> rfl
theorem fn_run {ext : CallF} {f : FuncId} {args : List At} {n m : Nat} (w : Nat) {rs : List RV} {ts : List TypeId} (hf : T.fns.lookup f = some fx) (hts : fx.res.map (·.2) = ts) (hw : fx.ntmps = w) (hm : w = args.length + m)
    (h : ∀ st : St, st.env.length = w → (∀ d, d < args.length → st.get (.tmp d) = .v (.a (args.getD d .U))) → (∀ j, st.row j = none) → Rn T fx (T.run ext k) k 0 fx.code st (Fin T fx (fun y => y = rs)) .mk) : ans (T.run ext (k + 1)) f args n = some (rs, ts) := by
  refine fn_ans hf hts ?_
  rw [show fx.ntmps - args.length = m by omega]
  exact rn (st := St0 args m n) (h (St0 args m n) (by rw [St0_len, hm]) (fun d hd => St0_get hd) (fun j => St0_row))
end
attribute [go_sem] List.contains_cons List.contains_nil Nat.reduceBEq beq_self_eq_true List.any_cons List.any_nil
end Go.Ev
end
section
set_option linter.unusedVariables false
set_option linter.unusedSimpArgs false
namespace Go.Ev
inductive Ok : IV → Prop
  | I {n} (h : -9223372036854775808 ≤ n ∧ n < 18446744073709551616) : Ok (.I n)
  | B {b} : Ok (.B b)
  | S {s} : Ok (.S s)
  | N : Ok .N
  | L {l} (h : l.length ≤ maxLen) (hr : ∀ x ∈ l, Ok x) : Ok (.L l)
  | A {l} (hr : ∀ x ∈ l, Ok x) : Ok (.A l)
theorem ok_len {v : IV} (h : Ok v) : (asL v).length ≤ maxLen := by cases h <;> simp [asL, *]
theorem ok_mem {v x : IV} (h : Ok v) (hx : x ∈ asL v) : Ok x := by
  cases h with
  | L h hr => exact hr x hx
  | _ => simp [asL] at hx
theorem ok_get {v x : IV} {i : Nat} (h : Ok v) (hx : (asL v)[i]? = some x) : Ok x := ok_mem h (List.mem_of_getElem? hx)
theorem ok_getD {v : IV} {i : Nat} (h : Ok v) : Ok ((asL v).getD i .N) := by
  rw [List.getD_eq_getElem?_getD]
  cases hx : (asL v)[i]? with
  | none => exact .N
  | some x => exact ok_get h hx
theorem ok_el {v : IV} {n : Int} (h : Ok v) : Ok (el (asL v) n) := ok_getD h
theorem ok_fld {v : IV} {j : Nat} (h : Ok v) : Ok (fld v j) := by
  cases h with
  | A hr =>
    rename_i l
    show Ok (l.getD j .N)
    rw [List.getD_eq_getElem?_getD]
    cases hx : l[j]? with
    | none => exact .N
    | some x => exact hr x (List.mem_of_getElem? hx)
  | _ => exact .N
theorem ok_int {v : IV} (h : Ok v) : -9223372036854775808 ≤ asI v ∧ asI v < 18446744073709551616 := by
  cases h with
  | I h => exact h
  | _ => simp [asI]
theorem wf_ok {T : Tab} {t : TypeId} {u : IV} (h : Wf T t u) : Ok u := by
  induction h with
  | int h hw =>
    refine .I ?_
    rename_i k n
    cases k <;> simp [Lit.wf, IntKind.min, IntKind.max, IntKind.bits, IntKind.signed] at hw <;> omega
  | bool h => exact .B
  | str h hs => exact .S
  | slice h hl hr ih => exact .L hl ih
  | agg h hl hr ih =>
    rename_i t fs l
    refine .A (fun x hx => ?_)
    obtain ⟨j, hj, rfl⟩ := List.mem_iff_getElem.1 hx
    have := ih j (by omega)
    simpa [List.getD, hj] using this
theorem cast_0 : ((0 : Nat) : Int) = 0 := (rfl)
attribute [go_sem] cast_0 and_self
attribute [go_sem] ok_fld ok_el ok_getD ok_len
end Go.Ev
end
section
set_option linter.unusedVariables false
set_option linter.unusedSimpArgs false
namespace Go.Ev
section
variable {T : Tab} {fx : Fx} {call : CallF} {k cur : Nat} {st st' : St} {Q : Ex → St → Prop}
def FinM (T : Tab) (fx : Fx) (rs : List RV) (R : (Nat → Option Row) → Prop) (e : Ex) (s : St) : Prop := (∀ id, e ≠ .exit id) ∧ Ys (T.outs s fx.res) (fun y => y.1 = rs ∧ R (fun j => y.2.row j)) .mk
theorem FinM_ret {rs : List RV} {R : (Nat → Option Row) → Prop} {s : St} : FinM T fx rs R .ret s = Ys (T.outs s fx.res) (fun y => y.1 = rs ∧ R (fun j => y.2.row j)) .mk := propext ⟨fun h => h.2, fun h => ⟨fun id h => (by cases h), h⟩⟩
theorem FinM_normal {rs : List RV} {R : (Nat → Option Row) → Prop} {s : St} : FinM T fx rs R .normal s = Ys (T.outs s fx.res) (fun y => y.1 = rs ∧ R (fun j => y.2.row j)) .mk := propext ⟨fun h => h.2, fun h => ⟨fun id h => (by cases h), h⟩⟩
attribute [go_sem ↓] FinM_ret FinM_normal
theorem fn_mem {ext : CallF} {f : FuncId} {args : List At} {mem : Mem} {m : Nat} (w : Nat) {rs : List RV} {ts : List TypeId} {R : (Nat → Option Row) → Prop} (hf : T.fns.lookup f = some fx) (hts : fx.res.map (·.2) = ts) (hw : fx.ntmps = w) (hm : w = args.length + m)
    (h : ∀ st : St, st.env.length = w → (∀ d, d < args.length → st.get (.tmp d) = .v (.a (args.getD d .U))) → (∀ j, st.row j = rowIn mem j) → Rn T fx (T.run ext k) k 0 fx.code st (FinM T fx rs R) .mk) :
    ∃ m', T.run ext (k + 1) f args mem = some (rs, ts, m') ∧ R (rowIn m') := by
  have := runs_run (T := T) (ext := ext) (f := f) (fx := fx) (k := k) (args := args) (mem := mem) (R := fun y m' => y = rs ∧ R (rowIn m')) hf ?_
  · obtain ⟨y, m', h1, h2, h3⟩ := this
    subst h2
    exact ⟨m', by rw [h1, hts], h3⟩
  · rw [show fx.ntmps - args.length = m by omega]
    have h0 := rn (st := ⟨args.map (fun x => .v (.a x)) ++ List.replicate m U, mem⟩) (h ⟨args.map (fun x => .v (.a x)) ++ List.replicate m U, mem⟩ (by simp; omega) (fun d hd => ?_) (fun j => rfl))
    · refine runs_mono h0 (fun e s h => ⟨h.1, ?_⟩)
      obtain ⟨⟨y, s'⟩, h1, h2⟩ := Ys_out h.2
      exact ⟨y, s', h1, h2⟩
    · simp only [St.get, List.getD]
      rw [List.getElem?_append_left (by simpa using hd)]
      simp [hd]
theorem rowIn_nil {j : Nat} : rowIn [] j = none := (rfl)
theorem rowIn_zero {r : Option Row} {l : Mem} : rowIn (r :: l) 0 = r := by simp [rowIn]
theorem rowIn_succ {r : Option Row} {l : Mem} {j : Nat} : rowIn (r :: l) (j + 1) = rowIn l j := by simp [rowIn]
attribute [go_sem] rowIn_nil rowIn_zero rowIn_succ
theorem len_killL {ks : List Nat} : (st.killL ks).env.length = st.env.length := by simp [St.killL]
theorem get_killL {ks : List Nat} {t : Tmp} : (st.killL ks).get (.tmp t) = (st.get (.tmp t)).map (At.killL ks) := get_map (st := st) (φ := At.killL ks) rfl
attribute [go_sem] len_killL get_killL row_killL
theorem mapM_cons' {α β : Type} {f : α → Option β} {x : α} {l : List α} : List.mapM f (x :: l) = (f x).bind fun y => (List.mapM f l).bind fun ys => some (y :: ys) := by
  simp [List.mapM_cons]
theorem mapM_n {α β : Type} {f : α → Option β} : List.mapM f [] = some [] := (rfl)
theorem condB {b : Bool} {p q : Prop} {t1 : Tg p} {t2 : Tg q} (h1 : b = false → p) (h2 : b = true → q) : CondR (.v (.a (.bool (!b)))) p q t1 t2 := condR (fun h => h1 (by simpa using h)) (fun h => h2 (by simpa using h))
theorem kill_nilf {j : Nat} : At.kill j .nilf = .nilf := (rfl)
theorem ren_nilf {i j : Nat} : At.ren i j .nilf = .nilf := (rfl)
theorem killL_nilf {ks : List Nat} : At.killL ks .nilf = .nilf := (rfl)
theorem ren_fn {i j : Nat} {f : FuncId} {c : List Nat} : At.ren i j (.fn f c) = if i ∈ c then .U else .fn f c := (rfl)
attribute [go_sem] kill_nilf ren_nilf killL_nilf ren_fn mapM_cons' mapM_n
end
end Go.Ev
end
section
set_option linter.unusedVariables false
set_option maxRecDepth 100000
namespace Go.Proofs.Ytficdonjodadlaa
open Go.Ev Go.Proofs
theorem ty0 : tab.ty 0 = .no := (rfl)
theorem fl0 : (tab.row 0).flat = false := (rfl)
theorem by0 : (tab.row 0).bytes = 0 := (rfl)
theorem ze0 : (tab.row 0).zero = .N := (rfl)
theorem sz0 : (tab.row 0).size = 1 := (rfl)
theorem ty1 : tab.ty 1 = .fn := (rfl)
theorem fl1 : (tab.row 1).flat = false := (rfl)
theorem by1 : (tab.row 1).bytes = 8 := (rfl)
theorem ze1 : (tab.row 1).zero = .N := (rfl)
theorem sz1 : (tab.row 1).size = 1 := (rfl)
theorem okT1 : tab.okT 1 = true := (rfl)
theorem okE1 : tab.okE 1 = true := (rfl)
theorem ty2 : tab.ty 2 = .int .i64 := (rfl)
theorem fl2 : (tab.row 2).flat = true := (rfl)
theorem by2 : (tab.row 2).bytes = 8 := (rfl)
theorem ze2 : (tab.row 2).zero = .I 0 := (rfl)
theorem sz2 : (tab.row 2).size = 1 := (rfl)
theorem okT2 : tab.okT 2 = true := (rfl)
theorem okE2 : tab.okE 2 = true := (rfl)
theorem ty3 : tab.ty 3 = .int .i64 := (rfl)
theorem fl3 : (tab.row 3).flat = true := (rfl)
theorem by3 : (tab.row 3).bytes = 8 := (rfl)
theorem ze3 : (tab.row 3).zero = .I 0 := (rfl)
theorem sz3 : (tab.row 3).size = 1 := (rfl)
theorem okT3 : tab.okT 3 = true := (rfl)
theorem okE3 : tab.okE 3 = true := (rfl)
theorem ty4 : tab.ty 4 = .bool := (rfl)
theorem fl4 : (tab.row 4).flat = true := (rfl)
theorem by4 : (tab.row 4).bytes = 1 := (rfl)
theorem ze4 : (tab.row 4).zero = .B false := (rfl)
theorem sz4 : (tab.row 4).size = 1 := (rfl)
theorem okT4 : tab.okT 4 = true := (rfl)
theorem okE4 : tab.okE 4 = true := (rfl)
theorem ty5 : tab.ty 5 = .int .u8 := (rfl)
theorem fl5 : (tab.row 5).flat = true := (rfl)
theorem by5 : (tab.row 5).bytes = 1 := (rfl)
theorem ze5 : (tab.row 5).zero = .I 0 := (rfl)
theorem sz5 : (tab.row 5).size = 1 := (rfl)
theorem okT5 : tab.okT 5 = true := (rfl)
theorem okE5 : tab.okE 5 = true := (rfl)
theorem ty6 : tab.ty 6 = .int .u8 := (rfl)
theorem fl6 : (tab.row 6).flat = true := (rfl)
theorem by6 : (tab.row 6).bytes = 1 := (rfl)
theorem ze6 : (tab.row 6).zero = .I 0 := (rfl)
theorem sz6 : (tab.row 6).size = 1 := (rfl)
theorem okT6 : tab.okT 6 = true := (rfl)
theorem okE6 : tab.okE 6 = true := (rfl)
theorem ty9 : tab.ty 9 = .str := (rfl)
theorem fl9 : (tab.row 9).flat = true := (rfl)
theorem by9 : (tab.row 9).bytes = 16 := (rfl)
theorem ze9 : (tab.row 9).zero = .S .empty := (rfl)
theorem sz9 : (tab.row 9).size = 1 := (rfl)
theorem okT9 : tab.okT 9 = true := (rfl)
theorem okE9 : tab.okE 9 = true := (rfl)
theorem ty12 : tab.ty 12 = .int .u64 := (rfl)
theorem fl12 : (tab.row 12).flat = true := (rfl)
theorem by12 : (tab.row 12).bytes = 8 := (rfl)
theorem ze12 : (tab.row 12).zero = .I 0 := (rfl)
theorem sz12 : (tab.row 12).size = 1 := (rfl)
theorem okT12 : tab.okT 12 = true := (rfl)
theorem okE12 : tab.okE 12 = true := (rfl)
theorem ty16 : tab.ty 16 = .ptr 106 := (rfl)
theorem fl16 : (tab.row 16).flat = false := (rfl)
theorem by16 : (tab.row 16).bytes = 8 := (rfl)
theorem ze16 : (tab.row 16).zero = .N := (rfl)
theorem sz16 : (tab.row 16).size = 1 := (rfl)
theorem okT16 : tab.okT 16 = true := (rfl)
theorem okE16 : tab.okE 16 = true := (rfl)
theorem ty21 : tab.ty 21 = .int .i32 := (rfl)
theorem fl21 : (tab.row 21).flat = true := (rfl)
theorem by21 : (tab.row 21).bytes = 4 := (rfl)
theorem ze21 : (tab.row 21).zero = .I 0 := (rfl)
theorem sz21 : (tab.row 21).size = 1 := (rfl)
theorem okT21 : tab.okT 21 = true := (rfl)
theorem okE21 : tab.okE 21 = true := (rfl)
theorem ty22 : tab.ty 22 = .slice 59 := (rfl)
theorem fl22 : (tab.row 22).flat = false := (rfl)
theorem by22 : (tab.row 22).bytes = 24 := (rfl)
theorem ze22 : (tab.row 22).zero = .N := (rfl)
theorem sz22 : (tab.row 22).size = 1 := (rfl)
theorem okT22 : tab.okT 22 = true := (rfl)
theorem okE22 : tab.okE 22 = true := (rfl)
theorem el22 : Go.Ev.elemOf tab 22 = 59 := (rfl)
theorem ty23 : tab.ty 23 = .slice 62 := (rfl)
theorem fl23 : (tab.row 23).flat = false := (rfl)
theorem by23 : (tab.row 23).bytes = 24 := (rfl)
theorem ze23 : (tab.row 23).zero = .N := (rfl)
theorem sz23 : (tab.row 23).size = 1 := (rfl)
theorem okT23 : tab.okT 23 = true := (rfl)
theorem okE23 : tab.okE 23 = true := (rfl)
theorem el23 : Go.Ev.elemOf tab 23 = 62 := (rfl)
theorem ty24 : tab.ty 24 = .agg [(9, 0), (22, 1), (23, 2)] := (rfl)
theorem fl24 : (tab.row 24).flat = false := (rfl)
theorem by24 : (tab.row 24).bytes = 64 := (rfl)
theorem ze24 : (tab.row 24).zero = .A [.S .empty, .N, .N] := (rfl)
theorem sz24 : (tab.row 24).size = 3 := (rfl)
theorem okT24 : tab.okT 24 = true := (rfl)
theorem okE24 : tab.okE 24 = true := (rfl)
theorem ag24 : aggOf tab 24 = [(9, 0), (22, 1), (23, 2)] := (rfl)
theorem pa24_0 : tab.partAt 24 0 = some 9 := (rfl)
theorem pa24_1 : tab.partAt 24 1 = some 22 := (rfl)
theorem pa24_2 : tab.partAt 24 2 = some 23 := (rfl)
theorem ty25 : tab.ty 25 = .agg [(9, 0), (22, 1), (23, 2)] := (rfl)
theorem fl25 : (tab.row 25).flat = false := (rfl)
theorem by25 : (tab.row 25).bytes = 64 := (rfl)
theorem ze25 : (tab.row 25).zero = .A [.S .empty, .N, .N] := (rfl)
theorem sz25 : (tab.row 25).size = 3 := (rfl)
theorem okT25 : tab.okT 25 = true := (rfl)
theorem okE25 : tab.okE 25 = true := (rfl)
theorem ag25 : aggOf tab 25 = [(9, 0), (22, 1), (23, 2)] := (rfl)
theorem pa25_0 : tab.partAt 25 0 = some 9 := (rfl)
theorem pa25_1 : tab.partAt 25 1 = some 22 := (rfl)
theorem pa25_2 : tab.partAt 25 2 = some 23 := (rfl)
theorem ty26 : tab.ty 26 = .slice 54 := (rfl)
theorem fl26 : (tab.row 26).flat = false := (rfl)
theorem by26 : (tab.row 26).bytes = 24 := (rfl)
theorem ze26 : (tab.row 26).zero = .N := (rfl)
theorem sz26 : (tab.row 26).size = 1 := (rfl)
theorem okT26 : tab.okT 26 = true := (rfl)
theorem okE26 : tab.okE 26 = true := (rfl)
theorem el26 : Go.Ev.elemOf tab 26 = 54 := (rfl)
theorem ty27 : tab.ty 27 = .slice 56 := (rfl)
theorem fl27 : (tab.row 27).flat = false := (rfl)
theorem by27 : (tab.row 27).bytes = 24 := (rfl)
theorem ze27 : (tab.row 27).zero = .N := (rfl)
theorem sz27 : (tab.row 27).size = 1 := (rfl)
theorem okT27 : tab.okT 27 = true := (rfl)
theorem okE27 : tab.okE 27 = true := (rfl)
theorem el27 : Go.Ev.elemOf tab 27 = 56 := (rfl)
theorem ty29 : tab.ty 29 = .agg [(26, 0), (27, 1)] := (rfl)
theorem fl29 : (tab.row 29).flat = false := (rfl)
theorem by29 : (tab.row 29).bytes = 48 := (rfl)
theorem ze29 : (tab.row 29).zero = .A [.N, .N] := (rfl)
theorem sz29 : (tab.row 29).size = 2 := (rfl)
theorem okT29 : tab.okT 29 = true := (rfl)
theorem okE29 : tab.okE 29 = true := (rfl)
theorem ag29 : aggOf tab 29 = [(26, 0), (27, 1)] := (rfl)
theorem pa29_0 : tab.partAt 29 0 = some 26 := (rfl)
theorem pa29_1 : tab.partAt 29 1 = some 27 := (rfl)
theorem ty34 : tab.ty 34 = .int .i64 := (rfl)
theorem fl34 : (tab.row 34).flat = true := (rfl)
theorem by34 : (tab.row 34).bytes = 8 := (rfl)
theorem ze34 : (tab.row 34).zero = .I 0 := (rfl)
theorem sz34 : (tab.row 34).size = 1 := (rfl)
theorem okT34 : tab.okT 34 = true := (rfl)
theorem okE34 : tab.okE 34 = true := (rfl)
theorem ty38 : tab.ty 38 = .agg [(34, 0), (3, 1)] := (rfl)
theorem fl38 : (tab.row 38).flat = true := (rfl)
theorem by38 : (tab.row 38).bytes = 16 := (rfl)
theorem ze38 : (tab.row 38).zero = .A [.I 0, .I 0] := (rfl)
theorem sz38 : (tab.row 38).size = 2 := (rfl)
theorem okT38 : tab.okT 38 = true := (rfl)
theorem okE38 : tab.okE 38 = true := (rfl)
theorem ag38 : aggOf tab 38 = [(34, 0), (3, 1)] := (rfl)
theorem pa38_0 : tab.partAt 38 0 = some 34 := (rfl)
theorem pa38_1 : tab.partAt 38 1 = some 3 := (rfl)
theorem ty40 : tab.ty 40 = .fn := (rfl)
theorem fl40 : (tab.row 40).flat = false := (rfl)
theorem by40 : (tab.row 40).bytes = 8 := (rfl)
theorem ze40 : (tab.row 40).zero = .N := (rfl)
theorem sz40 : (tab.row 40).size = 1 := (rfl)
theorem okT40 : tab.okT 40 = true := (rfl)
theorem okE40 : tab.okE 40 = true := (rfl)
theorem ty44 : tab.ty 44 = .slice 46 := (rfl)
theorem fl44 : (tab.row 44).flat = false := (rfl)
theorem by44 : (tab.row 44).bytes = 24 := (rfl)
theorem ze44 : (tab.row 44).zero = .N := (rfl)
theorem sz44 : (tab.row 44).size = 1 := (rfl)
theorem okT44 : tab.okT 44 = true := (rfl)
theorem okE44 : tab.okE 44 = true := (rfl)
theorem el44 : Go.Ev.elemOf tab 44 = 46 := (rfl)
theorem ty46 : tab.ty 46 = .slice 3 := (rfl)
theorem fl46 : (tab.row 46).flat = false := (rfl)
theorem by46 : (tab.row 46).bytes = 24 := (rfl)
theorem ze46 : (tab.row 46).zero = .N := (rfl)
theorem sz46 : (tab.row 46).size = 1 := (rfl)
theorem okT46 : tab.okT 46 = true := (rfl)
theorem okE46 : tab.okE 46 = true := (rfl)
theorem el46 : Go.Ev.elemOf tab 46 = 3 := (rfl)
theorem ty48 : tab.ty 48 = .fn := (rfl)
theorem fl48 : (tab.row 48).flat = false := (rfl)
theorem by48 : (tab.row 48).bytes = 8 := (rfl)
theorem ze48 : (tab.row 48).zero = .N := (rfl)
theorem sz48 : (tab.row 48).size = 1 := (rfl)
theorem okT48 : tab.okT 48 = true := (rfl)
theorem okE48 : tab.okE 48 = true := (rfl)
theorem ty51 : tab.ty 51 = .slice 4 := (rfl)
theorem fl51 : (tab.row 51).flat = false := (rfl)
theorem by51 : (tab.row 51).bytes = 24 := (rfl)
theorem ze51 : (tab.row 51).zero = .N := (rfl)
theorem sz51 : (tab.row 51).size = 1 := (rfl)
theorem okT51 : tab.okT 51 = true := (rfl)
theorem okE51 : tab.okE 51 = true := (rfl)
theorem el51 : Go.Ev.elemOf tab 51 = 4 := (rfl)
theorem ty54 : tab.ty 54 = .agg [(3, 0), (3, 1)] := (rfl)
theorem fl54 : (tab.row 54).flat = true := (rfl)
theorem by54 : (tab.row 54).bytes = 16 := (rfl)
theorem ze54 : (tab.row 54).zero = .A [.I 0, .I 0] := (rfl)
theorem sz54 : (tab.row 54).size = 2 := (rfl)
theorem okT54 : tab.okT 54 = true := (rfl)
theorem okE54 : tab.okE 54 = true := (rfl)
theorem ag54 : aggOf tab 54 = [(3, 0), (3, 1)] := (rfl)
theorem pa54_0 : tab.partAt 54 0 = some 3 := (rfl)
theorem pa54_1 : tab.partAt 54 1 = some 3 := (rfl)
theorem ty56 : tab.ty 56 = .agg [(3, 0), (46, 1), (46, 2), (4, 3)] := (rfl)
theorem fl56 : (tab.row 56).flat = false := (rfl)
theorem by56 : (tab.row 56).bytes = 64 := (rfl)
theorem ze56 : (tab.row 56).zero = .A [.I 0, .N, .N, .B false] := (rfl)
theorem sz56 : (tab.row 56).size = 4 := (rfl)
theorem okT56 : tab.okT 56 = true := (rfl)
theorem okE56 : tab.okE 56 = true := (rfl)
theorem ag56 : aggOf tab 56 = [(3, 0), (46, 1), (46, 2), (4, 3)] := (rfl)
theorem pa56_0 : tab.partAt 56 0 = some 3 := (rfl)
theorem pa56_1 : tab.partAt 56 1 = some 46 := (rfl)
theorem pa56_2 : tab.partAt 56 2 = some 46 := (rfl)
theorem pa56_3 : tab.partAt 56 3 = some 4 := (rfl)
theorem ty57 : tab.ty 57 = .fn := (rfl)
theorem fl57 : (tab.row 57).flat = false := (rfl)
theorem by57 : (tab.row 57).bytes = 8 := (rfl)
theorem ze57 : (tab.row 57).zero = .N := (rfl)
theorem sz57 : (tab.row 57).size = 1 := (rfl)
theorem okT57 : tab.okT 57 = true := (rfl)
theorem okE57 : tab.okE 57 = true := (rfl)
theorem ty59 : tab.ty 59 = .agg [(9, 0), (3, 1), (3, 2)] := (rfl)
theorem fl59 : (tab.row 59).flat = true := (rfl)
theorem by59 : (tab.row 59).bytes = 32 := (rfl)
theorem ze59 : (tab.row 59).zero = .A [.S .empty, .I 0, .I 0] := (rfl)
theorem sz59 : (tab.row 59).size = 3 := (rfl)
theorem okT59 : tab.okT 59 = true := (rfl)
theorem okE59 : tab.okE 59 = true := (rfl)
theorem ag59 : aggOf tab 59 = [(9, 0), (3, 1), (3, 2)] := (rfl)
theorem pa59_0 : tab.partAt 59 0 = some 9 := (rfl)
theorem pa59_1 : tab.partAt 59 1 = some 3 := (rfl)
theorem pa59_2 : tab.partAt 59 2 = some 3 := (rfl)
theorem ty60 : tab.ty 60 = .slice 64 := (rfl)
theorem fl60 : (tab.row 60).flat = false := (rfl)
theorem by60 : (tab.row 60).bytes = 24 := (rfl)
theorem ze60 : (tab.row 60).zero = .N := (rfl)
theorem sz60 : (tab.row 60).size = 1 := (rfl)
theorem okT60 : tab.okT 60 = true := (rfl)
theorem okE60 : tab.okE 60 = true := (rfl)
theorem el60 : Go.Ev.elemOf tab 60 = 64 := (rfl)
theorem ty62 : tab.ty 62 = .agg [(9, 0), (60, 1), (60, 2), (60, 3), (3, 4)] := (rfl)
theorem fl62 : (tab.row 62).flat = false := (rfl)
theorem by62 : (tab.row 62).bytes = 96 := (rfl)
theorem ze62 : (tab.row 62).zero = .A [.S .empty, .N, .N, .N, .I 0] := (rfl)
theorem sz62 : (tab.row 62).size = 5 := (rfl)
theorem okT62 : tab.okT 62 = true := (rfl)
theorem okE62 : tab.okE 62 = true := (rfl)
theorem ag62 : aggOf tab 62 = [(9, 0), (60, 1), (60, 2), (60, 3), (3, 4)] := (rfl)
theorem pa62_0 : tab.partAt 62 0 = some 9 := (rfl)
theorem pa62_1 : tab.partAt 62 1 = some 60 := (rfl)
theorem pa62_2 : tab.partAt 62 2 = some 60 := (rfl)
theorem pa62_3 : tab.partAt 62 3 = some 60 := (rfl)
theorem pa62_4 : tab.partAt 62 4 = some 3 := (rfl)
theorem ty64 : tab.ty 64 = .agg [(3, 0), (3, 1)] := (rfl)
theorem fl64 : (tab.row 64).flat = true := (rfl)
theorem by64 : (tab.row 64).bytes = 16 := (rfl)
theorem ze64 : (tab.row 64).zero = .A [.I 0, .I 0] := (rfl)
theorem sz64 : (tab.row 64).size = 2 := (rfl)
theorem okT64 : tab.okT 64 = true := (rfl)
theorem okE64 : tab.okE 64 = true := (rfl)
theorem ag64 : aggOf tab 64 = [(3, 0), (3, 1)] := (rfl)
theorem pa64_0 : tab.partAt 64 0 = some 3 := (rfl)
theorem pa64_1 : tab.partAt 64 1 = some 3 := (rfl)
theorem ty82 : tab.ty 82 = .slice 9 := (rfl)
theorem fl82 : (tab.row 82).flat = false := (rfl)
theorem by82 : (tab.row 82).bytes = 24 := (rfl)
theorem ze82 : (tab.row 82).zero = .N := (rfl)
theorem sz82 : (tab.row 82).size = 1 := (rfl)
theorem okT82 : tab.okT 82 = true := (rfl)
theorem okE82 : tab.okE 82 = true := (rfl)
theorem el82 : Go.Ev.elemOf tab 82 = 9 := (rfl)
theorem ty83 : tab.ty 83 = .fn := (rfl)
theorem fl83 : (tab.row 83).flat = false := (rfl)
theorem by83 : (tab.row 83).bytes = 8 := (rfl)
theorem ze83 : (tab.row 83).zero = .N := (rfl)
theorem sz83 : (tab.row 83).size = 1 := (rfl)
theorem okT83 : tab.okT 83 = true := (rfl)
theorem okE83 : tab.okE 83 = true := (rfl)
theorem ty86 : tab.ty 86 = .slice 60 := (rfl)
theorem fl86 : (tab.row 86).flat = false := (rfl)
theorem by86 : (tab.row 86).bytes = 24 := (rfl)
theorem ze86 : (tab.row 86).zero = .N := (rfl)
theorem sz86 : (tab.row 86).size = 1 := (rfl)
theorem okT86 : tab.okT 86 = true := (rfl)
theorem okE86 : tab.okE 86 = true := (rfl)
theorem el86 : Go.Ev.elemOf tab 86 = 60 := (rfl)
theorem ty88 : tab.ty 88 = .fn := (rfl)
theorem fl88 : (tab.row 88).flat = false := (rfl)
theorem by88 : (tab.row 88).bytes = 8 := (rfl)
theorem ze88 : (tab.row 88).zero = .N := (rfl)
theorem sz88 : (tab.row 88).size = 1 := (rfl)
theorem okT88 : tab.okT 88 = true := (rfl)
theorem okE88 : tab.okE 88 = true := (rfl)
theorem ty95 : tab.ty 95 = .fn := (rfl)
theorem fl95 : (tab.row 95).flat = false := (rfl)
theorem by95 : (tab.row 95).bytes = 8 := (rfl)
theorem ze95 : (tab.row 95).zero = .N := (rfl)
theorem sz95 : (tab.row 95).size = 1 := (rfl)
theorem okT95 : tab.okT 95 = true := (rfl)
theorem okE95 : tab.okE 95 = true := (rfl)
theorem ty97 : tab.ty 97 = .fn := (rfl)
theorem fl97 : (tab.row 97).flat = false := (rfl)
theorem by97 : (tab.row 97).bytes = 8 := (rfl)
theorem ze97 : (tab.row 97).zero = .N := (rfl)
theorem sz97 : (tab.row 97).size = 1 := (rfl)
theorem okT97 : tab.okT 97 = true := (rfl)
theorem okE97 : tab.okE 97 = true := (rfl)
theorem ty99 : tab.ty 99 = .fn := (rfl)
theorem fl99 : (tab.row 99).flat = false := (rfl)
theorem by99 : (tab.row 99).bytes = 8 := (rfl)
theorem ze99 : (tab.row 99).zero = .N := (rfl)
theorem sz99 : (tab.row 99).size = 1 := (rfl)
theorem okT99 : tab.okT 99 = true := (rfl)
theorem okE99 : tab.okE 99 = true := (rfl)
theorem ty100 : tab.ty 100 = .fn := (rfl)
theorem fl100 : (tab.row 100).flat = false := (rfl)
theorem by100 : (tab.row 100).bytes = 8 := (rfl)
theorem ze100 : (tab.row 100).zero = .N := (rfl)
theorem sz100 : (tab.row 100).size = 1 := (rfl)
theorem okT100 : tab.okT 100 = true := (rfl)
theorem okE100 : tab.okE 100 = true := (rfl)
theorem hi4 : fx4.hints = [(2, ⟨0, []⟩), (3, ⟨1, []⟩), (5, ⟨2, []⟩)] := (rfl)
theorem re4 : fx4.res = [(.tmp 4, 4)] := (rfl)
theorem nk4 : tab.nk 4 = 3 := (rfl)
theorem co4 : fx4.code = Try.f4.body.getD .skip := (rfl)
theorem hi10 : fx10.hints = [(1, ⟨0, []⟩), (2, ⟨1, []⟩), (6, ⟨2, []⟩)] := (rfl)
theorem re10 : fx10.res = [(.cell 2 25, 25), (.tmp 3, 4)] := (rfl)
theorem nk10 : tab.nk 10 = 3 := (rfl)
theorem cl10_0 : (fx10.clr.lookup 0).getD ([], []) = ([24, 25, 26, 27, 28, 29, 30, 31, 32, 33, 34, 35, 36, 37, 38, 39], []) := (rfl)
theorem cl10_2 : (fx10.clr.lookup 2).getD ([], []) = ([6, 40, 41, 42, 43, 44, 45, 46, 47, 48, 49, 50, 51, 52, 53, 54, 55, 56, 57, 58, 59, 60, 61, 62, 63, 64, 65, 66, 67, 68, 69, 70, 71, 72, 73, 74], [2]) := (rfl)
theorem co10 : fx10.code = Try.f10.body.getD .skip := (rfl)
theorem hi11 : fx11.hints = [(1, ⟨0, []⟩)] := (rfl)
theorem re11 : fx11.res = [(.tmp 2, 4)] := (rfl)
theorem nk11 : tab.nk 11 = 1 := (rfl)
theorem cl11_0 : (fx11.clr.lookup 0).getD ([], []) = ([14, 15, 16, 17, 18, 19, 20, 21, 22, 23, 24, 25, 26, 27, 28, 29, 30, 31, 32, 33, 34, 35, 36, 37, 38], []) := (rfl)
theorem co11 : fx11.code = Try.f11.body.getD .skip := (rfl)
theorem hi12 : fx12.hints = [(2, ⟨0, []⟩), (3, ⟨1, []⟩)] := (rfl)
theorem re12 : fx12.res = [(.tmp 0, 4)] := (rfl)
theorem nk12 : tab.nk 12 = 2 := (rfl)
theorem co12 : fx12.code = Try.f12.body.getD .skip := (rfl)
theorem hi13 : fx13.hints = [(1, ⟨0, []⟩), (2, ⟨1, []⟩), (4, ⟨2, []⟩), (6, ⟨3, []⟩), (7, ⟨4, [0]⟩), (9, ⟨7, []⟩), (60, ⟨8, []⟩)] := (rfl)
theorem re13 : fx13.res = [(.cell 2 29, 29), (.tmp 3, 34)] := (rfl)
theorem nk13 : tab.nk 13 = 9 := (rfl)
theorem cl13_0 : (fx13.clr.lookup 0).getD ([], []) = ([6, 31, 32, 33, 34, 35, 36, 37, 38, 39], [3]) := (rfl)
theorem cl13_2 : (fx13.clr.lookup 2).getD ([], []) = ([8, 9, 44, 45, 46, 47, 48, 49, 50, 51, 52, 53, 54, 55, 56, 57, 58, 59, 60, 61, 62], [7, 8]) := (rfl)
theorem co13 : fx13.code = Try.f13.body.getD .skip := (rfl)
theorem hi14 : fx14.hints = [(1, ⟨0, []⟩), (2, ⟨1, []⟩), (4, ⟨2, []⟩), (6, ⟨3, [0]⟩), (68, ⟨6, []⟩)] := (rfl)
theorem re14 : fx14.res = [(.cell 2 29, 29), (.tmp 3, 34)] := (rfl)
theorem nk14 : tab.nk 14 = 7 := (rfl)
theorem cl14_0 : (fx14.clr.lookup 0).getD ([], []) = ([25, 26, 27, 28, 29, 30, 31, 32, 33, 34, 35, 36, 37, 38, 39, 40], []) := (rfl)
theorem cl14_2 : (fx14.clr.lookup 2).getD ([], []) = ([41, 42, 43, 44, 45, 46, 47, 48, 49, 50, 51, 52, 53, 54, 55, 56, 57, 58, 59, 60, 61, 62, 63, 64, 65, 66, 67, 68, 69], [6]) := (rfl)
theorem co14 : fx14.code = Try.f14.body.getD .skip := (rfl)
theorem hi15 : fx15.hints = [(2, ⟨0, []⟩), (3, ⟨1, []⟩), (4, ⟨2, []⟩), (5, ⟨3, []⟩), (9, ⟨4, []⟩), (11, ⟨5, []⟩)] := (rfl)
theorem re15 : fx15.res = [(.cell 4 38, 38)] := (rfl)
theorem nk15 : tab.nk 15 = 6 := (rfl)
theorem cl15_0 : (fx15.clr.lookup 0).getD ([], []) = ([8, 9, 40, 41, 42, 43, 44, 45, 46, 47, 48, 49, 50, 51, 52], [4]) := (rfl)
theorem cl15_2 : (fx15.clr.lookup 2).getD ([], []) = ([10, 11, 12, 57, 58, 59, 60, 61, 62, 63, 64, 65, 66, 67, 68, 69, 70, 71, 72, 73, 74, 75, 76], [5]) := (rfl)
theorem co15 : fx15.code = Try.f15.body.getD .skip := (rfl)
theorem hi16 : fx16.hints = [(2, ⟨0, []⟩), (3, ⟨1, []⟩), (4, ⟨2, []⟩), (5, ⟨3, []⟩), (10, ⟨4, []⟩), (11, ⟨5, []⟩)] := (rfl)
theorem re16 : fx16.res = [(.cell 4 38, 38)] := (rfl)
theorem nk16 : tab.nk 16 = 6 := (rfl)
theorem cl16_0 : (fx16.clr.lookup 0).getD ([], []) = ([36, 37, 38, 39, 40, 41, 42, 43, 44, 45, 46, 47, 48, 49, 50, 51, 52, 53, 54], []) := (rfl)
theorem cl16_2 : (fx16.clr.lookup 2).getD ([], []) = ([10, 11, 12, 13, 58, 59, 60, 61, 62, 63, 64, 65, 66, 67, 68, 69, 70, 71, 72, 73, 74, 75, 76, 77, 78, 79, 80, 81, 82, 83, 84, 85, 86, 87, 88, 89, 90, 91, 92, 93, 94, 95, 96, 97, 98, 99, 100, 101, 102, 103, 104, 105, 106, 107, 108, 109, 110, 111, 112, 113, 114, 115, 116, 117, 118, 119, 120, 121, 122, 123, 124, 125, 126, 127, 128, 129, 130, 131, 132, 133, 134, 135, 136, 137, 138, 139, 140, 141, 142, 143, 144, 145, 146, 147, 148, 149, 150, 151, 152, 153, 154, 155, 156, 157, 158, 159, 160, 161, 162, 163, 164, 165, 166, 167, 168, 169, 170, 171, 172, 173, 174, 175, 176, 177, 178, 179, 180, 181, 182, 183, 184, 185, 186, 187, 188, 189, 190, 191, 192, 193, 194, 195, 196, 197, 198, 199, 200, 201, 202, 203, 204, 205, 206, 207, 208, 209, 210, 211, 212, 213, 214, 215, 216, 217, 218, 219, 220, 221, 222, 223, 224, 225, 226, 227, 228, 229], [4, 5]) := (rfl)
theorem cl16_4 : (fx16.clr.lookup 4).getD ([], []) = ([172, 173, 174, 175, 176, 177, 178, 179, 180, 181, 182, 183, 184, 185, 186, 187, 188, 189, 190, 191, 192, 193, 194, 195, 196, 197, 198, 199, 200, 201, 202, 203, 204, 205, 206, 207, 208, 209, 210, 211, 212, 213, 214, 215, 216, 217, 218, 219, 220, 221, 222, 223, 224, 225], []) := (rfl)
theorem co16 : fx16.code = Try.f16.body.getD .skip := (rfl)
theorem hi18 : fx18.hints = [(1, ⟨0, []⟩), (3, ⟨1, []⟩), (7, ⟨2, []⟩)] := (rfl)
theorem re18 : fx18.res = [(.tmp 2, 4)] := (rfl)
theorem nk18 : tab.nk 18 = 3 := (rfl)
theorem cl18_0 : (fx18.clr.lookup 0).getD ([], []) = ([27, 28, 29, 30, 31, 32, 33, 34, 35, 36, 37, 38, 39, 40], []) := (rfl)
theorem cl18_2 : (fx18.clr.lookup 2).getD ([], []) = ([7, 41, 42, 43, 44, 45, 46, 47, 48, 49, 50, 51, 52, 53, 54, 55, 56, 57, 58, 59, 60, 61, 62, 63, 64, 65, 66, 67, 68], [2]) := (rfl)
theorem co18 : fx18.code = Try.f18.body.getD .skip := (rfl)
theorem hi19 : fx19.hints = [] := (rfl)
theorem re19 : fx19.res = [(.tmp 4, 4)] := (rfl)
theorem nk19 : tab.nk 19 = 0 := (rfl)
theorem cl19_0 : (fx19.clr.lookup 0).getD ([], []) = ([11, 12, 13, 14, 15, 16, 17, 18, 19, 20, 21, 22, 23, 24, 25, 26], []) := (rfl)
theorem co19 : fx19.code = Try.f19.body.getD .skip := (rfl)
theorem hi20 : fx20.hints = [(2, ⟨0, []⟩), (3, ⟨1, []⟩), (5, ⟨2, []⟩), (37, ⟨3, []⟩), (41, ⟨4, []⟩)] := (rfl)
theorem re20 : fx20.res = [(.tmp 4, 44)] := (rfl)
theorem nk20 : tab.nk 20 = 5 := (rfl)
theorem cl20_0 : (fx20.clr.lookup 0).getD ([], []) = ([6, 8, 18, 19, 20, 21, 22, 23, 24, 25, 26, 27, 28, 29, 30, 31, 32, 33, 34, 35, 36, 37, 38, 39, 40, 41, 42, 43], [3, 4]) := (rfl)
theorem cl20_2 : (fx20.clr.lookup 2).getD ([], []) = ([8, 27, 28, 29, 30, 31, 32, 33, 34, 35, 36, 37, 38, 39, 40, 41, 42], [3, 4]) := (rfl)
theorem co20 : fx20.code = Try.f20.body.getD .skip := (rfl)
theorem hi21 : fx21.hints = [(2, ⟨0, []⟩), (3, ⟨1, []⟩), (5, ⟨2, []⟩), (40, ⟨3, []⟩), (47, ⟨4, []⟩)] := (rfl)
theorem re21 : fx21.res = [(.tmp 4, 44)] := (rfl)
theorem nk21 : tab.nk 21 = 5 := (rfl)
theorem cl21_0 : (fx21.clr.lookup 0).getD ([], []) = ([7, 8, 14, 15, 16, 17, 18, 19, 20, 21, 22, 23, 24, 25, 26, 27, 28, 29, 30, 31, 32, 33, 34, 35, 36, 37, 38, 39, 40, 41, 42, 43, 44, 45, 46, 47], [3, 4]) := (rfl)
theorem cl21_2 : (fx21.clr.lookup 2).getD ([], []) = ([32, 33, 34, 35, 36, 37, 38, 39, 40, 41, 42, 43, 44, 45, 46, 47], [3, 4]) := (rfl)
theorem co21 : fx21.code = Try.f21.body.getD .skip := (rfl)
theorem hi22 : fx22.hints = [(4, ⟨0, []⟩), (5, ⟨1, []⟩), (8, ⟨2, []⟩), (10, ⟨3, []⟩), (11, ⟨4, [0, 1]⟩), (12, ⟨7, [2]⟩), (49, ⟨12, [0, 1]⟩), (51, ⟨21, []⟩), (69, ⟨22, []⟩), (79, ⟨23, []⟩), (86, ⟨24, []⟩)] := (rfl)
theorem re22 : fx22.res = [(.cell 8 29, 29), (.tmp 9, 34)] := (rfl)
theorem nk22 : tab.nk 22 = 25 := (rfl)
theorem cl22_0 : (fx22.clr.lookup 0).getD ([], []) = ([14, 60, 61, 62, 63, 64, 65, 66, 67, 68, 69, 70, 71, 72, 73, 74, 75, 76, 77, 78, 79, 80, 81], [22, 23]) := (rfl)
theorem co22 : fx22.code = Try.f22.body.getD .skip := (rfl)
theorem hi26 : fx26.hints = [(2, ⟨0, []⟩)] := (rfl)
theorem re26 : fx26.res = [(.tmp 4, 4)] := (rfl)
theorem nk26 : tab.nk 26 = 1 := (rfl)
theorem cl26_0 : (fx26.clr.lookup 0).getD ([], []) = ([6, 17, 18, 19, 20, 21, 22, 23, 24, 25, 26, 27, 28, 29], []) := (rfl)
theorem cl26_2 : (fx26.clr.lookup 2).getD ([], []) = ([7, 8, 10, 33, 34, 35, 36, 37, 38, 39, 40, 41, 42, 43, 44, 45, 46, 47, 48, 49, 50, 51], []) := (rfl)
theorem cl26_4 : (fx26.clr.lookup 4).getD ([], []) = ([10, 42, 43, 44, 45, 46, 47, 48, 49, 50], []) := (rfl)
theorem co26 : fx26.code = Try.f26.body.getD .skip := (rfl)
theorem hi27 : fx27.hints = [(2, ⟨0, []⟩)] := (rfl)
theorem re27 : fx27.res = [(.tmp 4, 4)] := (rfl)
theorem nk27 : tab.nk 27 = 1 := (rfl)
theorem cl27_0 : (fx27.clr.lookup 0).getD ([], []) = ([11, 12, 13, 14, 15, 16, 17, 18, 19, 20, 21, 22, 23, 24, 25, 26, 27, 28, 29, 30, 31], []) := (rfl)
theorem cl27_2 : (fx27.clr.lookup 2).getD ([], []) = ([7, 32, 33, 34, 35, 36, 37, 38, 39, 40, 41, 42, 43, 44, 45, 46, 47, 48, 49, 50, 51, 52, 53], []) := (rfl)
theorem cl27_4 : (fx27.clr.lookup 4).getD ([], []) = ([38, 39, 40, 41, 42, 43, 44, 45, 46, 47, 48, 49, 50, 51, 52, 53], []) := (rfl)
theorem co27 : fx27.code = Try.f27.body.getD .skip := (rfl)
theorem hi28 : fx28.hints = [(3, ⟨0, []⟩)] := (rfl)
theorem re28 : fx28.res = [(.tmp 6, 4)] := (rfl)
theorem nk28 : tab.nk 28 = 1 := (rfl)
theorem co28 : fx28.code = Try.f28.body.getD .skip := (rfl)
theorem hi31 : fx31.hints = [] := (rfl)
theorem re31 : fx31.res = [(.tmp 4, 4)] := (rfl)
theorem nk31 : tab.nk 31 = 0 := (rfl)
theorem cl31_0 : (fx31.clr.lookup 0).getD ([], []) = ([11, 12, 13, 14, 15, 16, 17, 18, 19, 20, 21, 22, 23, 24, 25], []) := (rfl)
theorem co31 : fx31.code = Try.f31.body.getD .skip := (rfl)
theorem hi35 : fx35.hints = [(1, ⟨0, []⟩), (2, ⟨1, []⟩), (3, ⟨2, [0]⟩), (6, ⟨4, []⟩), (9, ⟨5, []⟩)] := (rfl)
theorem re35 : fx35.res = [(.cell 2 38, 38)] := (rfl)
theorem nk35 : tab.nk 35 = 6 := (rfl)
theorem cl35_0 : (fx35.clr.lookup 0).getD ([], []) = ([5, 6, 7, 38, 39, 40, 41, 42, 43, 44, 45, 46, 47, 48, 49, 50, 51, 52, 53, 54, 55], [4]) := (rfl)
theorem cl35_2 : (fx35.clr.lookup 2).getD ([], []) = ([8, 9, 10, 60, 61, 62, 63, 64, 65, 66, 67, 68, 69, 70, 71, 72, 73, 74, 75, 76, 77, 78, 79, 80, 81, 82, 83, 84], [5]) := (rfl)
theorem co35 : fx35.code = Try.f35.body.getD .skip := (rfl)
theorem hi36 : fx36.hints = [(1, ⟨0, []⟩), (4, ⟨1, []⟩), (6, ⟨2, []⟩)] := (rfl)
theorem re36 : fx36.res = [(.tmp 2, 4)] := (rfl)
theorem nk36 : tab.nk 36 = 3 := (rfl)
theorem cl36_0 : (fx36.clr.lookup 0).getD ([], []) = ([4, 11, 12, 13, 14, 15, 16, 17, 18, 19, 20, 21, 22, 23], [1]) := (rfl)
theorem cl36_2 : (fx36.clr.lookup 2).getD ([], []) = ([6, 28, 29, 30, 31, 32, 33, 34], [2]) := (rfl)
theorem co36 : fx36.code = Try.f36.body.getD .skip := (rfl)
theorem hi37 : fx37.hints = [(1, ⟨0, []⟩), (4, ⟨1, []⟩), (8, ⟨2, []⟩)] := (rfl)
theorem re37 : fx37.res = [(.tmp 2, 4)] := (rfl)
theorem nk37 : tab.nk 37 = 3 := (rfl)
theorem cl37_0 : (fx37.clr.lookup 0).getD ([], []) = ([4, 6, 8, 13, 14, 15, 16, 17, 18, 19, 20, 21, 22, 23, 24, 25, 26, 27, 28, 29, 30, 31, 32, 33, 34, 35, 36, 37], [1, 2]) := (rfl)
theorem cl37_2 : (fx37.clr.lookup 2).getD ([], []) = ([6, 8, 23, 24, 25, 26, 27, 28, 29, 30, 31, 32, 33, 34, 35, 36], [2]) := (rfl)
theorem cl37_4 : (fx37.clr.lookup 4).getD ([], []) = ([8, 29, 30, 31, 32, 33, 34, 35], [2]) := (rfl)
theorem co37 : fx37.code = Try.f37.body.getD .skip := (rfl)
theorem hi38 : fx38.hints = [(1, ⟨0, []⟩), (2, ⟨1, []⟩)] := (rfl)
theorem re38 : fx38.res = [(.cell 2 38, 38)] := (rfl)
theorem nk38 : tab.nk 38 = 2 := (rfl)
theorem cl38_0 : (fx38.clr.lookup 0).getD ([], []) = ([4, 29, 30, 31, 32, 33, 34, 35, 36, 37, 38, 39, 40, 41, 42, 43], []) := (rfl)
theorem cl38_2 : (fx38.clr.lookup 2).getD ([], []) = ([6, 44, 45, 46, 47, 48, 49, 50, 51, 52, 53, 54, 55, 56, 57, 58, 59, 60, 61, 62], []) := (rfl)
theorem co38 : fx38.code = Try.f38.body.getD .skip := (rfl)
theorem hi39 : fx39.hints = [(1, ⟨0, []⟩)] := (rfl)
theorem re39 : fx39.res = [(.tmp 2, 4)] := (rfl)
theorem nk39 : tab.nk 39 = 1 := (rfl)
theorem cl39_0 : (fx39.clr.lookup 0).getD ([], []) = ([8, 9, 10, 11, 12, 13, 14, 15, 16, 17, 18, 19, 20, 21], []) := (rfl)
theorem cl39_2 : (fx39.clr.lookup 2).getD ([], []) = ([22, 23, 24, 25, 26, 27, 28, 29, 30, 31, 32, 33, 34, 35, 36, 37, 38, 39, 40, 41, 42, 43, 44, 45], []) := (rfl)
theorem co39 : fx39.code = Try.f39.body.getD .skip := (rfl)
theorem hi40 : fx40.hints = [(1, ⟨0, []⟩)] := (rfl)
theorem re40 : fx40.res = [(.tmp 2, 4)] := (rfl)
theorem nk40 : tab.nk 40 = 1 := (rfl)
theorem cl40_0 : (fx40.clr.lookup 0).getD ([], []) = ([7, 8, 9, 10, 11, 12, 13, 14, 15, 16, 17, 18, 19, 20, 21, 22, 23, 24, 25, 26, 27, 28, 29, 30, 31], []) := (rfl)
theorem co40 : fx40.code = Try.f40.body.getD .skip := (rfl)
theorem hi41 : fx41.hints = [(4, ⟨0, []⟩), (5, ⟨1, []⟩), (9, ⟨2, []⟩)] := (rfl)
theorem re41 : fx41.res = [(.tmp 8, 34)] := (rfl)
theorem nk41 : tab.nk 41 = 3 := (rfl)
theorem co41 : fx41.code = Try.f41.body.getD .skip := (rfl)
theorem hi42 : fx42.hints = [] := (rfl)
theorem re42 : fx42.res = [(.tmp 2, 4)] := (rfl)
theorem nk42 : tab.nk 42 = 0 := (rfl)
theorem cl42_0 : (fx42.clr.lookup 0).getD ([], []) = ([4, 5, 6, 7, 8, 9, 10, 11, 12, 13, 14, 15, 16, 17, 18, 19], []) := (rfl)
theorem co42 : fx42.code = Try.f42.body.getD .skip := (rfl)
theorem hi43 : fx43.hints = [(4, ⟨0, []⟩), (5, ⟨1, []⟩)] := (rfl)
theorem re43 : fx43.res = [(.tmp 8, 4)] := (rfl)
theorem nk43 : tab.nk 43 = 2 := (rfl)
theorem cl43_0 : (fx43.clr.lookup 0).getD ([], []) = ([11, 12, 24, 25, 26, 27, 28, 29, 30, 31, 32, 33, 34, 35, 36, 37, 38, 39, 40, 41, 42, 43, 44, 45, 46, 47, 48, 49, 50, 51, 52, 53, 54, 55], []) := (rfl)
theorem cl43_2 : (fx43.clr.lookup 2).getD ([], []) = ([30, 31, 32, 33, 34, 35, 36, 37, 38, 39, 40, 41, 42, 43, 44, 45, 46, 47, 48, 49, 50, 51, 52, 53], []) := (rfl)
theorem co43 : fx43.code = Try.f43.body.getD .skip := (rfl)
theorem hi44 : fx44.hints = [(4, ⟨0, []⟩)] := (rfl)
theorem re44 : fx44.res = [(.tmp 8, 4)] := (rfl)
theorem nk44 : tab.nk 44 = 1 := (rfl)
theorem cl44_0 : (fx44.clr.lookup 0).getD ([], []) = ([10, 11, 12, 13, 14, 15, 16, 17, 18, 19, 20, 21, 22, 23, 24, 25, 26, 27, 28, 29, 30, 31, 32], []) := (rfl)
theorem co44 : fx44.code = Try.f44.body.getD .skip := (rfl)
theorem hi45 : fx45.hints = [] := (rfl)
theorem re45 : fx45.res = [(.tmp 2, 4)] := (rfl)
theorem nk45 : tab.nk 45 = 0 := (rfl)
theorem cl45_0 : (fx45.clr.lookup 0).getD ([], []) = ([7, 8, 9, 10, 11, 12, 13, 14, 15, 16, 17, 18], []) := (rfl)
theorem co45 : fx45.code = Try.f45.body.getD .skip := (rfl)
theorem hi46 : fx46.hints = [(2, ⟨0, []⟩), (5, ⟨1, [0]⟩), (6, ⟨3, []⟩)] := (rfl)
theorem re46 : fx46.res = [(.tmp 4, 44)] := (rfl)
theorem co46 : fx46.code = Try.f46.body.getD .skip := (rfl)
theorem hi47 : fx47.hints = [(2, ⟨0, []⟩)] := (rfl)
theorem re47 : fx47.res = [(.tmp 4, 46)] := (rfl)
theorem nk47 : tab.nk 47 = 1 := (rfl)
theorem co47 : fx47.code = Try.f47.body.getD .skip := (rfl)
theorem hi48 : fx48.hints = [(3, ⟨0, []⟩), (8, ⟨1, []⟩)] := (rfl)
theorem re48 : fx48.res = [(.tmp 6, 4)] := (rfl)
theorem nk48 : tab.nk 48 = 2 := (rfl)
theorem cl48_0 : (fx48.clr.lookup 0).getD ([], []) = ([8, 13, 14, 15, 16, 17, 18, 19, 20, 21, 22, 23, 24, 25, 26], [1]) := (rfl)
theorem co48 : fx48.code = Try.f48.body.getD .skip := (rfl)
theorem hi49 : fx49.hints = [(6, ⟨0, []⟩), (7, ⟨1, []⟩), (13, ⟨2, []⟩), (80, ⟨3, []⟩), (93, ⟨4, []⟩)] := (rfl)
theorem re49 : fx49.res = [(.tmp 12, 44)] := (rfl)
theorem nk49 : tab.nk 49 = 5 := (rfl)
theorem cl49_0 : (fx49.clr.lookup 0).getD ([], []) = ([15, 16, 17, 41, 42, 43, 44, 45, 46, 47, 48, 49, 50, 51, 52, 53, 54, 55, 56, 57, 58, 59, 60, 61, 62, 63, 64, 65, 66, 67, 68, 69, 70, 71, 72, 73, 74, 75, 76, 77, 78, 79, 80, 81, 82, 83, 84, 85, 86, 87, 88, 89, 90, 91, 92, 93], [3, 4]) := (rfl)
theorem cl49_2 : (fx49.clr.lookup 2).getD ([], []) = ([62, 63, 64, 65, 66, 67, 68, 69, 70, 71, 72, 73, 74, 75, 76, 77], []) := (rfl)
theorem co49 : fx49.code = Try.f49.body.getD .skip := (rfl)
theorem hi50 : fx50.hints = [(3, ⟨0, []⟩), (4, ⟨1, []⟩), (5, ⟨2, []⟩), (11, ⟨4, []⟩), (64, ⟨3, []⟩)] := (rfl)
theorem re50 : fx50.res = [(.tmp 6, 34)] := (rfl)
theorem nk50 : tab.nk 50 = 5 := (rfl)
theorem cl50_0 : (fx50.clr.lookup 0).getD ([], []) = ([25, 26, 27, 28, 29, 30, 31, 32, 33, 34, 35, 36, 37, 38, 39, 40, 41, 42, 43], []) := (rfl)
theorem cl50_2 : (fx50.clr.lookup 2).getD ([], []) = ([10, 48, 49, 50, 51, 52, 53, 54, 55, 56, 57, 58, 59, 60], []) := (rfl)
theorem cl50_4 : (fx50.clr.lookup 4).getD ([], []) = ([13, 14, 69, 70, 71, 72, 73, 74, 75, 76, 77, 78, 79, 80, 81, 82, 83, 84, 85, 86, 87, 88, 89, 90, 91], []) := (rfl)
theorem co50 : fx50.code = Try.f50.body.getD .skip := (rfl)
theorem hi51 : fx51.hints = [(1, ⟨0, []⟩), (2, ⟨1, [0, 1]⟩), (3, ⟨4, [0, 1]⟩), (5, ⟨7, []⟩), (10, ⟨8, []⟩), (19, ⟨9, []⟩), (24, ⟨10, []⟩), (33, ⟨11, []⟩)] := (rfl)
theorem re51 : fx51.res = [(.cell 2 29, 29)] := (rfl)
theorem nk51 : tab.nk 51 = 12 := (rfl)
theorem cl51_0 : (fx51.clr.lookup 0).getD ([], []) = ([5, 16, 17, 18, 19, 20, 21, 22, 23, 24, 25, 26, 27, 28, 29, 30, 31, 32, 33, 34, 35], [7, 9, 10, 11]) := (rfl)
theorem co51 : fx51.code = Try.f51.body.getD .skip := (rfl)
theorem hi52 : fx52.hints = [(2, ⟨0, []⟩)] := (rfl)
theorem re52 : fx52.res = [(.tmp 4, 46)] := (rfl)
theorem nk52 : tab.nk 52 = 1 := (rfl)
theorem co52 : fx52.code = Try.f52.body.getD .skip := (rfl)
theorem hi54 : fx54.hints = [(1, ⟨0, []⟩), (4, ⟨1, []⟩), (6, ⟨2, []⟩)] := (rfl)
theorem re54 : fx54.res = [(.tmp 2, 4)] := (rfl)
theorem nk54 : tab.nk 54 = 3 := (rfl)
theorem cl54_0 : (fx54.clr.lookup 0).getD ([], []) = ([4, 13, 14, 15, 16, 17, 18, 19, 20, 21, 22, 23, 24, 25, 26, 27], [1]) := (rfl)
theorem cl54_2 : (fx54.clr.lookup 2).getD ([], []) = ([5, 6, 8, 32, 33, 34, 35, 36, 37, 38, 39, 40, 41, 42, 43, 44, 45, 46, 47, 48, 49, 50, 51, 52, 53, 54, 55, 56, 57, 58, 59, 60, 61, 62, 63], [2]) := (rfl)
theorem cl54_4 : (fx54.clr.lookup 4).getD ([], []) = ([8, 40, 41, 42, 43, 44, 45, 46, 47, 48, 49, 50, 51, 52, 53, 54, 55, 56, 57, 58, 59, 60, 61, 62], []) := (rfl)
theorem co54 : fx54.code = Try.f54.body.getD .skip := (rfl)
theorem hi55 : fx55.hints = [(3, ⟨0, []⟩)] := (rfl)
theorem re55 : fx55.res = [(.tmp 6, 4)] := (rfl)
theorem nk55 : tab.nk 55 = 1 := (rfl)
theorem co55 : fx55.code = Try.f55.body.getD .skip := (rfl)
theorem hi56 : fx56.hints = [(1, ⟨0, []⟩)] := (rfl)
theorem re56 : fx56.res = [(.tmp 2, 4)] := (rfl)
theorem nk56 : tab.nk 56 = 1 := (rfl)
theorem cl56_0 : (fx56.clr.lookup 0).getD ([], []) = ([7, 8, 9, 10, 11, 12, 13, 14, 15, 16, 17, 18, 19, 20, 21, 22, 23, 24, 25, 26, 27, 28, 29, 30, 31, 32], []) := (rfl)
theorem cl56_2 : (fx56.clr.lookup 2).getD ([], []) = ([5, 6, 33, 34, 35, 36, 37, 38, 39, 40, 41, 42, 43, 44, 45, 46, 47, 48, 49, 50, 51, 52, 53, 54, 55, 56, 57, 58, 59, 60, 61, 62, 63, 64, 65, 66, 67, 68, 69, 70, 71, 72, 73, 74, 75, 76, 77, 78], []) := (rfl)
theorem cl56_4 : (fx56.clr.lookup 4).getD ([], []) = ([6, 40, 41, 42, 43, 44, 45, 46, 47, 48, 49, 50, 51, 52, 53, 54, 55, 56, 57, 58, 59, 60, 61, 62, 63, 64, 65, 66, 67, 68, 69, 70, 71, 72, 73, 74, 75, 76, 77, 78], []) := (rfl)
theorem co56 : fx56.code = Try.f56.body.getD .skip := (rfl)
theorem hi57 : fx57.hints = [(3, ⟨0, []⟩)] := (rfl)
theorem re57 : fx57.res = [(.tmp 6, 4)] := (rfl)
theorem nk57 : tab.nk 57 = 1 := (rfl)
theorem co57 : fx57.code = Try.f57.body.getD .skip := (rfl)
theorem hi58 : fx58.hints = [(2, ⟨0, []⟩)] := (rfl)
theorem re58 : fx58.res = [(.tmp 4, 4)] := (rfl)
theorem nk58 : tab.nk 58 = 1 := (rfl)
theorem co58 : fx58.code = Try.f58.body.getD .skip := (rfl)
theorem hi60 : fx60.hints = [(2, ⟨0, []⟩), (5, ⟨1, [0]⟩), (6, ⟨3, []⟩), (10, ⟨4, []⟩)] := (rfl)
theorem re60 : fx60.res = [(.tmp 4, 51)] := (rfl)
theorem nk60 : tab.nk 60 = 5 := (rfl)
theorem co60 : fx60.code = Try.f60.body.getD .skip := (rfl)
theorem hi62 : fx62.hints = [(2, ⟨0, []⟩), (5, ⟨2, []⟩), (12, ⟨1, []⟩)] := (rfl)
theorem re62 : fx62.res = [(.tmp 4, 51)] := (rfl)
theorem nk62 : tab.nk 62 = 3 := (rfl)
theorem cl62_0 : (fx62.clr.lookup 0).getD ([], []) = ([7, 8, 20, 21, 22, 23, 24, 25, 26, 27, 28, 29, 30, 31, 32, 33, 34, 35, 36, 37, 38, 39, 40, 41, 42, 43, 44, 45, 46, 47, 48, 49, 50, 51, 52, 53, 54, 55, 56, 57, 58], []) := (rfl)
theorem cl62_2 : (fx62.clr.lookup 2).getD ([], []) = ([8, 29, 30, 31, 32, 33, 34, 35, 36, 37, 38, 39, 40, 41, 42, 43, 44, 45, 46, 47, 48, 49, 50, 51, 52, 53, 54, 55, 56, 57, 58], []) := (rfl)
theorem co62 : fx62.code = Try.f62.body.getD .skip := (rfl)
theorem hi63 : fx63.hints = [(3, ⟨0, []⟩)] := (rfl)
theorem re63 : fx63.res = [(.tmp 6, 4)] := (rfl)
theorem nk63 : tab.nk 63 = 1 := (rfl)
theorem cl63_0 : (fx63.clr.lookup 0).getD ([], []) = ([10, 17, 18, 19, 20, 21, 22, 23, 24, 25, 26, 27, 28, 29, 30, 31, 32, 33, 34, 35, 36, 37, 38, 39, 40, 41, 42, 43, 44, 45, 46, 47, 48, 49, 50, 51, 52, 53, 54, 55, 56, 57, 58], []) := (rfl)
theorem cl63_2 : (fx63.clr.lookup 2).getD ([], []) = ([23, 24, 25, 26, 27, 28, 29, 30, 31, 32, 33, 34, 35, 36, 37, 38, 39, 40, 41, 42, 43, 44, 45, 46, 47, 48, 49, 50, 51, 52, 53, 54, 55, 56, 57, 58], []) := (rfl)
theorem co63 : fx63.code = Try.f63.body.getD .skip := (rfl)
theorem hi65 : fx65.hints = [(22, ⟨0, []⟩)] := (rfl)
theorem re65 : fx65.res = [(.tmp 3, 34)] := (rfl)
theorem nk65 : tab.nk 65 = 1 := (rfl)
theorem cl65_0 : (fx65.clr.lookup 0).getD ([], []) = ([5, 12, 13, 14, 15, 16, 17, 18], []) := (rfl)
theorem co65 : fx65.code = Try.f65.body.getD .skip := (rfl)
theorem hi66 : fx66.hints = [(1, ⟨0, []⟩)] := (rfl)
theorem re66 : fx66.res = [(.tmp 2, 34)] := (rfl)
theorem nk66 : tab.nk 66 = 1 := (rfl)
theorem co66 : fx66.code = Try.f66.body.getD .skip := (rfl)
theorem hi67 : fx67.hints = [(2, ⟨0, []⟩)] := (rfl)
theorem re67 : fx67.res = [(.tmp 4, 34)] := (rfl)
theorem nk67 : tab.nk 67 = 1 := (rfl)
theorem cl67_0 : (fx67.clr.lookup 0).getD ([], []) = ([6, 7, 25, 26, 27, 28, 29, 30, 31, 32, 33, 34], []) := (rfl)
theorem co67 : fx67.code = Try.f67.body.getD .skip := (rfl)
theorem hi68 : fx68.hints = [(1, ⟨0, []⟩)] := (rfl)
theorem re68 : fx68.res = [(.tmp 2, 4)] := (rfl)
theorem nk68 : tab.nk 68 = 1 := (rfl)
theorem co68 : fx68.code = Try.f68.body.getD .skip := (rfl)
theorem hi69 : fx69.hints = [] := (rfl)
theorem re69 : fx69.res = [(.tmp 2, 4)] := (rfl)
theorem nk69 : tab.nk 69 = 0 := (rfl)
theorem cl69_0 : (fx69.clr.lookup 0).getD ([], []) = ([4, 5, 6, 15, 16, 17, 18, 19, 20, 21, 22, 23, 24, 25, 26, 27, 28, 29, 30, 31, 32, 33, 34, 35, 36, 37, 38, 39, 40, 41, 42, 43, 44, 45, 46, 47, 48, 49, 50, 51, 52, 53], []) := (rfl)
theorem co69 : fx69.code = Try.f69.body.getD .skip := (rfl)
theorem hi70 : fx70.hints = [(2, ⟨0, []⟩), (5, ⟨1, []⟩)] := (rfl)
theorem re70 : fx70.res = [(.tmp 4, 34)] := (rfl)
theorem nk70 : tab.nk 70 = 2 := (rfl)
theorem cl70_0 : (fx70.clr.lookup 0).getD ([], []) = ([16, 17, 18, 19, 20, 21, 22, 23, 24, 25, 26, 27, 28, 29], []) := (rfl)
theorem co70 : fx70.code = Try.f70.body.getD .skip := (rfl)
theorem hi71 : fx71.hints = [(2, ⟨0, []⟩), (5, ⟨1, []⟩)] := (rfl)
theorem re71 : fx71.res = [(.tmp 4, 34)] := (rfl)
theorem nk71 : tab.nk 71 = 2 := (rfl)
theorem cl71_0 : (fx71.clr.lookup 0).getD ([], []) = ([19, 20, 21, 22, 23, 24, 25, 26, 27, 28, 29, 30, 31, 32, 33, 34], []) := (rfl)
theorem cl71_2 : (fx71.clr.lookup 2).getD ([], []) = ([35, 36, 37, 38, 39, 40, 41, 42, 43, 44, 45, 46, 47, 48], []) := (rfl)
theorem co71 : fx71.code = Try.f71.body.getD .skip := (rfl)
theorem hi72 : fx72.hints = [(1, ⟨0, []⟩)] := (rfl)
theorem re72 : fx72.res = [(.tmp 2, 4)] := (rfl)
theorem nk72 : tab.nk 72 = 1 := (rfl)
theorem co72 : fx72.code = Try.f72.body.getD .skip := (rfl)
theorem hi73 : fx73.hints = [] := (rfl)
theorem re73 : fx73.res = [(.tmp 2, 4)] := (rfl)
theorem nk73 : tab.nk 73 = 0 := (rfl)
theorem cl73_0 : (fx73.clr.lookup 0).getD ([], []) = ([4, 5, 6, 7, 8, 9, 10, 11, 12, 13, 14, 15], []) := (rfl)
theorem co73 : fx73.code = Try.f73.body.getD .skip := (rfl)
theorem hi74 : fx74.hints = [(4, ⟨0, []⟩), (5, ⟨1, []⟩), (9, ⟨2, []⟩)] := (rfl)
theorem re74 : fx74.res = [(.tmp 8, 34)] := (rfl)
theorem nk74 : tab.nk 74 = 3 := (rfl)
theorem cl74_0 : (fx74.clr.lookup 0).getD ([], []) = ([11, 12, 32, 33, 34, 35, 36, 37, 38, 39, 40, 41, 42, 43, 44, 45, 46, 47, 48, 49, 50, 51, 52, 53, 54, 55, 56, 57, 58, 59, 60, 61, 62], []) := (rfl)
theorem co74 : fx74.code = Try.f74.body.getD .skip := (rfl)
theorem hi75 : fx75.hints = [(7, ⟨1, []⟩), (10, ⟨3, []⟩), (18, ⟨0, []⟩), (25, ⟨2, []⟩), (77, ⟨4, []⟩)] := (rfl)
theorem re75 : fx75.res = [] := (rfl)
theorem nk75 : tab.nk 75 = 5 := (rfl)
theorem cl75_0 : (fx75.clr.lookup 0).getD ([], []) = ([10, 12, 37, 38, 39, 40, 41, 42, 43, 44, 45, 46, 47, 48, 49, 50, 51, 52, 53, 54, 55, 56, 57, 58, 59, 60, 61, 62, 63, 64, 65, 66, 67, 68, 69, 70, 71, 72, 73, 74, 75, 76, 77, 78, 79, 80, 81, 82, 83, 84, 85], [3, 4]) := (rfl)
theorem cl75_2 : (fx75.clr.lookup 2).getD ([], []) = ([12, 63, 64, 65, 66, 67, 68, 69, 70, 71, 72, 73, 74, 75, 76, 77, 78], [4]) := (rfl)
theorem co75 : fx75.code = Try.f75.body.getD .skip := (rfl)
theorem hi76 : fx76.hints = [] := (rfl)
theorem re76 : fx76.res = [(.tmp 4, 4)] := (rfl)
theorem nk76 : tab.nk 76 = 0 := (rfl)
theorem cl76_0 : (fx76.clr.lookup 0).getD ([], []) = ([6, 10, 11, 12, 13, 14, 15, 16], []) := (rfl)
theorem co76 : fx76.code = Try.f76.body.getD .skip := (rfl)
theorem hi77 : fx77.hints = [(3, ⟨0, []⟩)] := (rfl)
theorem re77 : fx77.res = [(.tmp 6, 4)] := (rfl)
theorem nk77 : tab.nk 77 = 1 := (rfl)
theorem cl77_0 : (fx77.clr.lookup 0).getD ([], []) = ([8, 12, 13, 14, 15, 16, 17, 18, 19, 20], []) := (rfl)
theorem co77 : fx77.code = Try.f77.body.getD .skip := (rfl)
theorem hi78 : fx78.hints = [(3, ⟨1, []⟩), (5, ⟨0, []⟩), (16, ⟨2, []⟩)] := (rfl)
theorem re78 : fx78.res = [(.tmp 2, 46)] := (rfl)
theorem nk78 : tab.nk 78 = 3 := (rfl)
theorem cl78_0 : (fx78.clr.lookup 0).getD ([], []) = ([5, 9, 10, 11, 12, 13, 14, 15, 16, 17], [0, 2]) := (rfl)
theorem co78 : fx78.code = Try.f78.body.getD .skip := (rfl)
theorem hi79 : fx79.hints = [] := (rfl)
theorem re79 : fx79.res = [(.tmp 4, 4)] := (rfl)
theorem nk79 : tab.nk 79 = 0 := (rfl)
theorem cl79_0 : (fx79.clr.lookup 0).getD ([], []) = ([5, 6, 15, 16, 17, 18, 19, 20, 21, 22, 23, 24, 25], []) := (rfl)
theorem co79 : fx79.code = Try.f79.body.getD .skip := (rfl)
theorem hi80 : fx80.hints = [(2, ⟨0, []⟩), (3, ⟨1, []⟩), (17, ⟨2, []⟩)] := (rfl)
theorem re80 : fx80.res = [(.tmp 2, 46)] := (rfl)
theorem nk80 : tab.nk 80 = 3 := (rfl)
theorem cl80_0 : (fx80.clr.lookup 0).getD ([], []) = ([5, 6, 7, 8, 9, 10, 11, 12, 13, 14, 15, 16, 17], [2]) := (rfl)
theorem co80 : fx80.code = Try.f80.body.getD .skip := (rfl)
theorem hi81 : fx81.hints = [] := (rfl)
theorem re81 : fx81.res = [(.tmp 4, 3)] := (rfl)
theorem nk81 : tab.nk 81 = 0 := (rfl)
theorem cl81_0 : (fx81.clr.lookup 0).getD ([], []) = ([6, 7, 8, 9, 10, 11, 12, 13, 14, 15, 16, 17, 18, 19, 20, 21, 22, 23], []) := (rfl)
theorem co81 : fx81.code = Try.f81.body.getD .skip := (rfl)
theorem hi83 : fx83.hints = [(3, ⟨0, []⟩)] := (rfl)
theorem re83 : fx83.res = [(.tmp 6, 4)] := (rfl)
theorem nk83 : tab.nk 83 = 1 := (rfl)
theorem cl83_0 : (fx83.clr.lookup 0).getD ([], []) = ([12, 13, 14, 15, 16, 17, 18, 19, 20, 21, 22, 23, 24, 25, 26, 27, 28, 29, 30, 31], []) := (rfl)
theorem co83 : fx83.code = Try.f83.body.getD .skip := (rfl)
theorem hi85 : fx85.hints = [] := (rfl)
theorem re85 : fx85.res = [] := (rfl)
theorem nk85 : tab.nk 85 = 0 := (rfl)
theorem cl85_0 : (fx85.clr.lookup 0).getD ([], []) = ([6, 26, 27, 28, 29, 30, 31, 32, 33, 34, 35, 36, 37], []) := (rfl)
theorem co85 : fx85.code = Try.f85.body.getD .skip := (rfl)
theorem hi86 : fx86.hints = [] := (rfl)
theorem re86 : fx86.res = [(.tmp 4, 4)] := (rfl)
theorem nk86 : tab.nk 86 = 0 := (rfl)
theorem cl86_0 : (fx86.clr.lookup 0).getD ([], []) = ([6, 7, 8, 9, 10, 11, 12, 13, 14, 15, 16, 17], []) := (rfl)
theorem co86 : fx86.code = Try.f86.body.getD .skip := (rfl)
theorem hi87 : fx87.hints = [] := (rfl)
theorem re87 : fx87.res = [(.tmp 4, 4)] := (rfl)
theorem nk87 : tab.nk 87 = 0 := (rfl)
theorem cl87_0 : (fx87.clr.lookup 0).getD ([], []) = ([6, 14, 15, 16, 17, 18, 19, 20, 21, 22, 23], []) := (rfl)
theorem co87 : fx87.code = Try.f87.body.getD .skip := (rfl)
theorem hi88 : fx88.hints = [(6, ⟨0, []⟩)] := (rfl)
theorem re88 : fx88.res = [(.tmp 4, 34)] := (rfl)
theorem nk88 : tab.nk 88 = 1 := (rfl)
theorem cl88_0 : (fx88.clr.lookup 0).getD ([], []) = ([5, 6, 10, 11, 12, 13, 14, 15, 16, 17, 18, 19, 20, 21, 22, 23, 24, 25, 26, 27, 28, 29, 30, 31, 32, 33, 34, 35, 36, 37, 38, 39, 40, 41, 42, 43, 44, 45, 46, 47], [0]) := (rfl)
theorem co88 : fx88.code = Try.f88.body.getD .skip := (rfl)
theorem hi89 : fx89.hints = [(2, ⟨0, []⟩)] := (rfl)
theorem re89 : fx89.res = [(.tmp 4, 34)] := (rfl)
theorem nk89 : tab.nk 89 = 1 := (rfl)
theorem cl89_0 : (fx89.clr.lookup 0).getD ([], []) = ([6, 7, 8, 9, 10, 11, 12, 13, 14, 15, 16, 17, 18, 19, 20, 21, 22, 23, 24, 25, 26, 27, 28, 29, 30, 31, 32, 33, 34, 35, 36, 37, 38, 39, 40, 41, 42, 43, 44, 45, 46, 47, 48, 49, 50, 51, 52, 53, 54, 55, 56, 57, 58], []) := (rfl)
theorem co89 : fx89.code = Try.f89.body.getD .skip := (rfl)
theorem hi90 : fx90.hints = [] := (rfl)
theorem re90 : fx90.res = [(.tmp 4, 4)] := (rfl)
theorem nk90 : tab.nk 90 = 0 := (rfl)
theorem cl90_0 : (fx90.clr.lookup 0).getD ([], []) = ([6, 7, 8, 9, 10, 11, 12, 13, 14, 15, 16, 17], []) := (rfl)
theorem co90 : fx90.code = Try.f90.body.getD .skip := (rfl)
theorem nk59 : tab.nk 59 = 0 := (rfl)
theorem xt59 : tab.fns.lookup 59 = none := (rfl)
theorem nk64 : tab.nk 64 = 0 := (rfl)
theorem xt64 : tab.fns.lookup 64 = none := (rfl)
theorem nk82 : tab.nk 82 = 0 := (rfl)
theorem xt82 : tab.fns.lookup 82 = none := (rfl)
theorem nk84 : tab.nk 84 = 0 := (rfl)
theorem xt84 : tab.fns.lookup 84 = none := (rfl)
theorem nk91 : tab.nk 91 = 0 := (rfl)
theorem xt91 : tab.fns.lookup 91 = none := (rfl)
theorem nk46 : tab.nk 46 = 0 := (rfl)
theorem xt46 : tab.fns.lookup 46 = none := (rfl)
attribute [go_sem] ty0 fl0 by0 ze0 sz0 ty1 fl1 by1 ze1 sz1 okT1 okE1 ty2 fl2 by2 ze2 sz2 okT2 okE2 ty3 fl3 by3 ze3 sz3 okT3 okE3 ty4 fl4 by4 ze4 sz4 okT4 okE4 ty5 fl5 by5 ze5 sz5 okT5 okE5 ty6 fl6 by6 ze6 sz6 okT6 okE6 ty9 fl9 by9 ze9 sz9 okT9 okE9 ty12 fl12 by12 ze12 sz12 okT12 okE12 ty16 fl16 by16 ze16 sz16 okT16 okE16 ty21 fl21 by21 ze21 sz21 okT21 okE21 ty22 fl22 by22 ze22 sz22 okT22 okE22 el22 ty23 fl23 by23 ze23 sz23 okT23 okE23 el23 ty24 fl24 by24 ze24 sz24 okT24 okE24 ag24 pa24_0 pa24_1 pa24_2 ty25 fl25 by25 ze25 sz25 okT25 okE25 ag25 pa25_0 pa25_1 pa25_2 ty26 fl26 by26 ze26 sz26 okT26 okE26 el26 ty27 fl27 by27 ze27 sz27 okT27 okE27 el27 ty29 fl29 by29 ze29 sz29 okT29 okE29 ag29 pa29_0 pa29_1 ty34 fl34 by34 ze34 sz34 okT34 okE34 ty38 fl38 by38 ze38 sz38 okT38 okE38 ag38 pa38_0 pa38_1 ty40 fl40 by40 ze40 sz40 okT40 okE40 ty44 fl44 by44 ze44 sz44 okT44 okE44 el44 ty46 fl46 by46 ze46 sz46 okT46 okE46 el46 ty48 fl48 by48 ze48 sz48 okT48 okE48 ty51 fl51 by51 ze51 sz51 okT51 okE51 el51 ty54 fl54 by54 ze54 sz54 okT54 okE54 ag54 pa54_0 pa54_1 ty56 fl56 by56 ze56 sz56 okT56 okE56 ag56 pa56_0 pa56_1 pa56_2 pa56_3 ty57 fl57 by57 ze57 sz57 okT57 okE57 ty59 fl59 by59 ze59 sz59 okT59 okE59 ag59 pa59_0 pa59_1 pa59_2 ty60 fl60 by60 ze60 sz60 okT60 okE60 el60 ty62 fl62 by62 ze62 sz62 okT62 okE62 ag62 pa62_0 pa62_1 pa62_2 pa62_3 pa62_4 ty64 fl64 by64 ze64 sz64 okT64 okE64 ag64 pa64_0 pa64_1 ty82 fl82 by82 ze82 sz82 okT82 okE82 el82 ty83 fl83 by83 ze83 sz83 okT83 okE83 ty86 fl86 by86 ze86 sz86 okT86 okE86 el86 ty88 fl88 by88 ze88 sz88 okT88 okE88 ty95 fl95 by95 ze95 sz95 okT95 okE95 ty97 fl97 by97 ze97 sz97 okT97 okE97 ty99 fl99 by99 ze99 sz99 okT99 okE99 ty100 fl100 by100 ze100 sz100 okT100 okE100 hi4 re4 nk4 hi10 re10 nk10 cl10_0 cl10_2 hi11 re11 nk11 cl11_0 hi12 re12 nk12 hi13 re13 nk13 cl13_0 cl13_2 hi14 re14 nk14 cl14_0 cl14_2 hi15 re15 nk15 cl15_0 cl15_2 hi16 re16 nk16 cl16_0 cl16_2 cl16_4 hi18 re18 nk18 cl18_0 cl18_2 hi19 re19 nk19 cl19_0 hi20 re20 nk20 cl20_0 cl20_2 hi21 re21 nk21 cl21_0 cl21_2 hi22 re22 nk22 cl22_0 hi26 re26 nk26 cl26_0 cl26_2 cl26_4 hi27 re27 nk27 cl27_0 cl27_2 cl27_4 hi28 re28 nk28 hi31 re31 nk31 cl31_0 hi35 re35 nk35 cl35_0 cl35_2 hi36 re36 nk36 cl36_0 cl36_2 hi37 re37 nk37 cl37_0 cl37_2 cl37_4 hi38 re38 nk38 cl38_0 cl38_2 hi39 re39 nk39 cl39_0 cl39_2 hi40 re40 nk40 cl40_0 hi41 re41 nk41 hi42 re42 nk42 cl42_0 hi43 re43 nk43 cl43_0 cl43_2 hi44 re44 nk44 cl44_0 hi45 re45 nk45 cl45_0 hi46 re46 hi47 re47 nk47 hi48 re48 nk48 cl48_0 hi49 re49 nk49 cl49_0 cl49_2 hi50 re50 nk50 cl50_0 cl50_2 cl50_4 hi51 re51 nk51 cl51_0 hi52 re52 nk52 hi54 re54 nk54 cl54_0 cl54_2 cl54_4 hi55 re55 nk55 hi56 re56 nk56 cl56_0 cl56_2 cl56_4 hi57 re57 nk57 hi58 re58 nk58 hi60 re60 nk60 hi62 re62 nk62 cl62_0 cl62_2 hi63 re63 nk63 cl63_0 cl63_2 hi65 re65 nk65 cl65_0 hi66 re66 nk66 hi67 re67 nk67 cl67_0 hi68 re68 nk68 hi69 re69 nk69 cl69_0 hi70 re70 nk70 cl70_0 hi71 re71 nk71 cl71_0 cl71_2 hi72 re72 nk72 hi73 re73 nk73 cl73_0 hi74 re74 nk74 cl74_0 hi75 re75 nk75 cl75_0 cl75_2 hi76 re76 nk76 cl76_0 hi77 re77 nk77 cl77_0 hi78 re78 nk78 cl78_0 hi79 re79 nk79 cl79_0 hi80 re80 nk80 cl80_0 hi81 re81 nk81 cl81_0 hi83 re83 nk83 cl83_0 hi85 re85 nk85 cl85_0 hi86 re86 nk86 cl86_0 hi87 re87 nk87 cl87_0 hi88 re88 nk88 cl88_0 hi89 re89 nk89 cl89_0 hi90 re90 nk90 cl90_0 nk59 xt59 nk64 xt64 nk82 xt82 nk84 xt84 nk91 xt91 nk46 xt46
end Go.Proofs.Ytficdonjodadlaa
end
