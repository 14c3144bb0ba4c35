/- Part 7 of a proof: Dm. Words and walks that a program printed for this claim stand here without what the claim does not use. -/
import Derived.Test.YtficdonjodadlaaProg
import Derived.RangeFuncNested
import Derived.RangeFuncLeaves
import Derived.OwnWalkIn
import Derived.TacticsInMore
import Derived.LoopNIn
import Derived.LoopIn
import Derived.RegionIn
import Derived.Sort.WalkA
import Derived.IntWalk
import Derived.OrdersIn
import Derived.TacticsIn
import Derived.RangeFuncCalls
import Derived.Below
import Derived.RangeFuncWrites
import Derived.KernelRfl
import Derived.Laws.ResultCell
import Derived.Laws.RangeAny
import Derived.LoopTactic
import Derived.Test.YtficdonjodadlaaDm0
import Derived.Test.YtficdonjodadlaaDm3
import Derived.Test.YtficdonjodadlaaDm4
import Derived.Test.YtficdonjodadlaaDm5
import Derived.Test.YtficdonjodadlaaDm6
set_option linter.unusedSimpArgs false
set_option linter.unusedVariables false
section
set_option linter.unusedVariables false
set_option linter.unusedSimpArgs false
namespace Go.Proofs.Ytficdonjodadlaa
open Go.Ev Go.Proofs
section
set_option maxHeartbeats 4000000
set_option maxRecDepth 10000
noncomputable def c46 : Code := fx46.code
def ρ46 : List (Nat × Nat) := [(1, 5), (2, 6), (0, 7), (3, 8), (9, 9)]
noncomputable def r446 : Code := sq1 (sq2 (sq2 (sq2 (sq2 c46))))
theorem r446_eq : r446 = .region 4 (opsOf r446) false := (rfl)
theorem r446_ops : ∃ o0 o1 o2, (opsOf r446).toList = [o0, o1, o2] ∧ (o0.op = .load 88 (.tmp 6) ∧ o0.dst = some 8 ∧ o0.guard = none) ∧ (o1.op = .move (.tmp 1) ∧ o1.dst = some 9 ∧ o1.guard = none) ∧ (o2.op = .call { callee := .value (.tmp 8), args := #[.const (.slice none 0 0), .tmp 9], argTypes := #[46, 46] } ∧ o2.dst = some 10 ∧ o2.guard = none) := ⟨_, _, _, rfl, ⟨rfl, rfl, rfl⟩, ⟨rfl, rfl, rfl⟩, ⟨rfl, rfl, rfl⟩⟩
variable {b : IV} {left res : List IV} {p z : Nat}
variable {P : Program} {w0 : World} {S : Nat → Nat → Prop} {X : Nat → Prop} {β0 : Nat → Value} {Q : Exit → Act → World → Prop} {K : Act → World → Prop}
theorem call46 (ok : Cx.Ok ⟨P, tab, w0, S, X, β0⟩) (hcb : Callable P 75) (hp : p ≠ 0) (hb : res.length ≤ 1000000) (ih : S75 P b p left [] res) {o : Oper} {a : Act} {w : World} {N0 : Nm} {st0 : St} (ho : o.op = .call { callee := .value (.tmp 8), args := #[.const (.slice none 0 0), .tmp 9], argTypes := #[46, 46] }) (hd : o.dst = some 10)
    (hr0 : Rel ⟨P, tab, w0, S, X, β0⟩ N0 st0 a w) (h12 : st0.env.length = 12) (y5 : st0.get (.tmp 5) = .v (.a (.ptr 1 [] 44))) (y8 : st0.get (.tmp 8) = .v (.a (.fn 75 [1, 0, 3]))) (y9 : st0.get (.tmp 9) = .v (.a (.iv z 46 (.L left)))) (z0 : st0.row 0 = some (.box false 29 [] (.a (.iv p 29 b)))) (z1 : st0.row 1 = some (.box false 44 [0] (.a (.own 2)))) (z2 : st0.row 2 = some (.arr 2 46 [])) (z3 : st0.row 3 = some (.box false 88 [] (.a (.fn 75 [1, 0, 3]))))
    (hq : ∀ N' st' a' w', Rel ⟨P, tab, w0, S, X, β0⟩ N' st' a' w' → st'.env.length = 12 → st'.get (.tmp 5) = .v (.a (.ptr 1 [] 44)) → st'.row 1 = some (.box false 44 [0] (.a (.own 2))) → st'.row 2 = some (.arr 2 46 res) → K a' w') : o.wp P a w K Q := by
  obtain ⟨hr, hsh9⟩ := hr0.newRow ok (k := 9) (p := 2) (e := 3) (l := []) (hd := .slice none 0 0) (hs_one (fun bb hbb => by cases hbb)) ⟨okE3, fun _ => [], fun i hi => by simp at hi, World.ownsRow_nil w 0 3 _⟩
  obtain ⟨st, hst⟩ : ∃ st, st = st0.newRow 9 (.arr 2 3 []) := ⟨_, rfl⟩
  obtain ⟨N, hN⟩ : ∃ N, N = N0.upd 9 (.slice none 0 0) := ⟨_, rfl⟩
  rw [← hst, ← hN] at hr
  have hβ9 : N.β 9 = .slice none 0 0 := by rw [hN]; simp [Nm.upd]
  have x5 : st.get (.tmp 5) = .v (.a (.ptr 1 [] 44)) := by rw [hst]; simp [St.newRow, get_put, get_kill, y5, SV.map, V1.map, At.kill]
  have x8 : st.get (.tmp 8) = .v (.a (.fn 75 [1, 0, 3])) := by rw [hst]; simp [St.newRow, get_put, get_kill, y8, SV.map, V1.map, At.kill]
  have x9 : st.get (.tmp 9) = .v (.a (.iv z 46 (.L left))) := by rw [hst]; simp [St.newRow, get_put, get_kill, y9, SV.map, V1.map, At.kill]
  have f0 : st.row 0 = some (.box false 29 [] (.a (.iv p 29 b))) := by rw [hst]; simp [St.newRow, row_put, St.row_kill, z0, Row.map, V1.map, At.kill]
  have f1 : st.row 1 = some (.box false 44 [0] (.a (.own 2))) := by rw [hst]; simp [St.newRow, row_put, St.row_kill, z1, Row.map, V1.map, At.kill]
  have f2 : st.row 2 = some (.arr 2 46 []) := by rw [hst]; simp [St.newRow, row_put, St.row_kill, z2, Row.map]
  have f3 : st.row 3 = some (.box false 88 [] (.a (.fn 75 [1, 0, 3]))) := by rw [hst]; simp [St.newRow, row_put, St.row_kill, z3, Row.map, V1.map, At.kill]
  have f9 : st.row 9 = some (.arr 2 3 []) := by rw [hst]; simp [St.newRow, row_put]
  have hlen : st.env.length = 12 := by rw [hst]; simp only [St.newRow, len_put, len_kill]; exact h12
  clear hr0 hst hN y5 y8 y9 z0 z1 z2 z3 h12
  have hn1 : nodup (ρ46.map (·.1)) = true := rfl
  have hn2 : nodup (ρ46.map (·.2)) = true := rfl
  have hV : ∀ k, (fun _ : Nat => False) k → k ∉ ρ46.map (·.1) := fun k h => h.elim
  have hok : st.handOk ρ46 = true := by simp [St.handOk, ρ46, f0, f1, f2, f3, f9]
  have hsl := hr.get (.tmp 8)
  rw [x8] at hsl
  obtain ⟨cs, ⟨hv, _⟩, hv2⟩ := hsl rfl
  have hfv : a.eval (.tmp 8) = .func (.func 75) #[] ([1, 0, 3].map N.β).toArray := by rw [hv2, hv]; rfl
  have hex := exec_call (w := w) ho rfl hfv hcb
  obtain ⟨xs, hxs⟩ : ∃ xs, xs = [At.own 9, .iv z 46 (.L left), .ptr 5 [] 44, .ptr 7 [] 29, .ptr 8 [] 88] := ⟨_, rfl⟩
  have c5 : (callSt 5 st ρ46 xs).row 5 = some (.box true 44 [0] (.a (.own 6))) := by rw [callSt_row hn2]; simp [ρ46, swap, List.lookup, f1, Row.tr, V1.map, At.tr]
  have c6 : (callSt 5 st ρ46 xs).row 6 = some (.arr 2 46 []) := by rw [callSt_row hn2]; simp [ρ46, swap, List.lookup, f2, Row.tr]
  have c7 : (callSt 5 st ρ46 xs).row 7 = some (.box true 29 [] (.a (.iv p 29 b))) := by rw [callSt_row hn2]; simp [ρ46, swap, List.lookup, f0, Row.tr, V1.map, At.tr, hp]
  have c8 : (callSt 5 st ρ46 xs).row 8 = some (.box true 88 [] (.a (.fn 75 [5, 7, 8]))) := by rw [callSt_row hn2]; simp [ρ46, swap, List.lookup, f3, Row.tr, V1.map, At.tr]
  have c9 : (callSt 5 st ρ46 xs).row 9 = some (.arr 2 3 []) := by rw [callSt_row hn2]; simp [ρ46, swap, List.lookup, f9, Row.tr]
  have c10 : (callSt 5 st ρ46 xs).row 10 = none := by rw [callSt_row hn2]; simp [ρ46, swap, List.lookup]
  have okC := callCx_ok (ρ := ρ46) (V := fun _ => False) ok hr hV
  have hptr : ∀ {k k' : Nat} {tt : TypeId} {x : Bool} {ow : List Nat} {cc : V1}, (k, k') ∈ ρ46 → st.row k = some (.box x tt ow cc) → (∃ x' ow' cc', (callSt 5 st ρ46 xs).row k' = some (.box x' tt ow' cc')) → SlotV (callCx ⟨P, tab, w0, S, X, β0⟩ N st w ρ46 (fun _ => False)) (callNm ⟨P, tab, w0, S, X, β0⟩ N st w ρ46 (fun _ => False)) (callSt 5 st ρ46 xs).sh w (.a (.ptr k' [] tt)) (N.β k) := by
    intro k k' tt x ow cc hm hrow ⟨x', ow', cc', hrow'⟩ _
    obtain ⟨bk, cs, q1, q2, q3, q4, q5⟩ := hr.rows k _ hrow
    refine ⟨[.pointer (some ⟨bk, 0, none⟩)], ⟨bk, 0, .box tt, by rw [St.sh, hrow']; rfl, rfl, ?_, rfl⟩, by rw [q1]; rfl⟩
    show blk ((callCx ⟨P, tab, w0, S, X, β0⟩ N st w ρ46 (fun _ => False)).β0 k') = some bk
    rw [callCx_β hn2 hm, q1]; rfl
  obtain ⟨hm, hhm⟩ : ∃ hm, hm = st.handOver 5 ρ46 := ⟨_, rfl⟩
  have ecs : callSt 5 st ρ46 xs = ⟨xs.map (fun x => .v (.a x)), hm⟩ := by rw [hhm]; rfl
  have hrel := call_rel (nk := 5) (xs := xs) (vs := [.slice none 0 0, a.eval (.tmp 9), N.β 1, N.β 0, N.β 3]) (V := fun _ => False) ok hr hn1 hn2 hok hV (by rw [hxs]; rfl) (fun i hi => by
    have hi5 : i < 5 := by rw [hxs] at hi; exact hi
    have h5 : i = 0 ∨ i = 1 ∨ i = 2 ∨ i = 3 ∨ i = 4 := by omega
    rcases h5 with rfl | rfl | rfl | rfl | rfl
    · rw [show xs.getD 0 .U = .own 9 by rw [hxs]; rfl]
      refine fun _ => ⟨[N.β 9], ⟨?_, 3, by rw [St.sh, c9]; rfl⟩, by show Value.slice none 0 0 = _; rw [hβ9]; rfl⟩
      show _ = [(callCx ⟨P, tab, w0, S, X, β0⟩ N st w ρ46 (fun _ => False)).β0 9]
      rw [callCx_β hn2 (k := 9) (by decide)]
    · rw [show xs.getD 1 .U = .iv z 46 (.L left) by rw [hxs]; rfl]
      have hs9 := hr.get (.tmp 9)
      rw [x9] at hs9
      obtain ⟨cs9, h91, h92⟩ := hs9 rfl
      refine fun _ => ⟨cs9, ?_, h92⟩
      have h91 : Rep tab w (Cx.E ⟨P, tab, w0, S, X, β0⟩ N z) 46 (.L left) cs9 := h91
      exact Rep.mono (fun bb hb => .inl (.inl hb)) (fun _ _ => rfl) h91
    · rw [show xs.getD 2 .U = .ptr 5 [] 44 by rw [hxs]; rfl]
      exact hptr (by decide) f1 ⟨_, _, _, c5⟩
    · rw [show xs.getD 3 .U = .ptr 7 [] 29 by rw [hxs]; rfl]
      exact hptr (by decide) f0 ⟨_, _, _, c7⟩
    · rw [show xs.getD 4 .U = .ptr 8 [] 88 by rw [hxs]; rfl]
      exact hptr (by decide) f3 ⟨_, _, _, c8⟩)
  rw [ecs] at c5 c6 c7 c8 c9 c10 hrel
  clear hptr ecs hhm
  unfold Oper.wp
  rw [hex, Oper.upon_enter]
  have hargs : ({ callee := .value (.tmp 8), args := #[.const (.slice none 0 0), .tmp 9], argTypes := #[46, 46] } : Call).args.map a.eval ++ ([1, 0, 3].map N.β).toArray = [.slice none 0 0, a.eval (.tmp 9), N.β 1, N.β 0, N.β 3].toArray := by apply Array.ext'; simp; rfl
  rw [hargs]
  refine (ih [] z _ _ _ hm (by simpa using hb) rfl rfl okC c5 c6 c7 c8 c9 c10 (by rw [hxs] at hrel; exact hrel)).mono (fun e w2 he => ?_)
  obtain ⟨N2, m, rfl, hr2, m5, m6, m7, m8, m9, hβ⟩ := he
  have hback : st.takeBack ρ46 [1, 0, 3] m = some ((((((st.killL [2, 9]).putRow 1 (some (.box false 44 [0] (.a (.own 2))))).putRow 2 (some (.arr 2 46 res))).putRow 0 (some (.box false 29 [] (.a (.iv p 29 b))))).putRow 3 (some (.box false 88 [] (.a (.fn 75 [1, 0, 3]))))).putRow 9 (some (.arr 2 3 []))) := by
    simp [St.takeBack, elders, backRows, backRow, ρ46, m5, m6, m7, m8, m9, f0, f1, f3, V1.map, At.tr, swap, List.lookup, hp]
  obtain ⟨N1, hr4, _, _⟩ := back_sound ok hr hn1 hn2 hr2 hback
  have hpk : pack [] = undef := rfl
  show K (a.put o.dst (pack [])) w2
  rw [hd, hpk]
  refine hq N1 _ _ _ (hr4.set (d := some 10) undef_slot) ?_ ?_ ?_ ?_
  · rw [len_set]; simp only [len_put, len_killL]; exact hlen
  · rw [get_set_ne (by decide)]; simp [get_put, get_killL, x5, SV.map, V1.map, At.killL]
  · rw [row_set]; simp [row_put]
  · rw [row_set]; simp [row_put]
end
end Go.Proofs.Ytficdonjodadlaa
end
section
set_option linter.unusedSimpArgs false
set_option linter.unusedVariables false
set_option maxRecDepth 100000
set_option maxHeartbeats 4000000
namespace Go.Proofs.Ytficdonjodadlaa
open Go.Ev Go.Proofs
theorem p46_0 (ext : CallF) (k cur : Nat) (b : IV) (left : List IV) (p z : Nat) (st s0 : St) (hn : st.env.length = 12) (g0 : st.get (.tmp 0) = .v (.a (.iv p 29 b))) (g1 : st.get (.tmp 1) = .v (.a (.iv z 46 (.L left)))) (r0 : st.row 0 = none) (r9 : st.row 9 = none) : Runs tab fx46 (tab.run ext k) k cur (sq1 c46) st (fun e s => e = .normal ∧ s.env.length = 12 ∧ s.get (.tmp 1) = .v (.a (.iv z 46 (.L left))) ∧ s.get (.tmp 2) = .v (.a (.ptr 0 [] 29)) ∧ s.row 0 = some (.box false 29 [] (.a (.iv p 29 b))) ∧ s.row 9 = none) := by
  unfold c46
  rw [co46]
  simp only [Try.f46, Option.getD_some, sq1_seq, sq2_seq]
  refine rn ?_
  simp (maxDischargeDepth := 9) only [go_sem, Nat.reduceMul, Nat.reduceAdd, Nat.reduceLeDiff, Int.reduceSub, Int.reduceNeg, Int.reduceLT, Int.reduceLE, Int.reduceEq, *, List.length_replicate, Nat.le_refl]
theorem p46_1 (ext : CallF) (k cur : Nat) (b : IV) (left : List IV) (p z : Nat) (st s0 : St) (h0 : st.env.length = 12) (h1 : st.get (.tmp 1) = .v (.a (.iv z 46 (.L left)))) (h2 : st.get (.tmp 2) = .v (.a (.ptr 0 [] 29))) (h3 : st.row 0 = some (.box false 29 [] (.a (.iv p 29 b)))) (h4 : st.row 9 = none) : Runs tab fx46 (tab.run ext k) k cur (sq1 (sq2 c46)) st (fun e s => e = .normal ∧ s.env.length = 12 ∧ s.get (.tmp 1) = .v (.a (.iv z 46 (.L left))) ∧ s.get (.tmp 2) = .v (.a (.ptr 0 [] 29)) ∧ s.row 0 = some (.box false 29 [] (.a (.iv p 29 b))) ∧ s.row 9 = none ∧ s.get (.tmp 5) = .v (.a (.ptr 1 [] 44)) ∧ s.row 1 = some (.box false 44 [0] (.a (.own 2))) ∧ s.row 2 = some (.arr 2 46 [])) := by
  unfold c46
  rw [co46]
  simp only [Try.f46, Option.getD_some, sq1_seq, sq2_seq]
  refine rn ?_
  simp (maxDischargeDepth := 9) only [go_sem, Nat.reduceMul, Nat.reduceAdd, Nat.reduceLeDiff, Int.reduceSub, Int.reduceNeg, Int.reduceLT, Int.reduceLE, Int.reduceEq, *, List.length_replicate, Nat.le_refl]
theorem p46_2 (ext : CallF) (k cur : Nat) (b : IV) (left : List IV) (p z : Nat) (st s0 : St) (h0 : st.env.length = 12) (h1 : st.get (.tmp 1) = .v (.a (.iv z 46 (.L left)))) (h2 : st.get (.tmp 2) = .v (.a (.ptr 0 [] 29))) (h3 : st.row 0 = some (.box false 29 [] (.a (.iv p 29 b)))) (h4 : st.row 9 = none) (h5 : st.get (.tmp 5) = .v (.a (.ptr 1 [] 44))) (h6 : st.row 1 = some (.box false 44 [0] (.a (.own 2)))) (h7 : st.row 2 = some (.arr 2 46 [])) : Runs tab fx46 (tab.run ext k) k cur (sq1 (sq2 (sq2 c46))) st (fun e s => e = .normal ∧ s.env.length = 12 ∧ s.get (.tmp 1) = .v (.a (.iv z 46 (.L left))) ∧ s.get (.tmp 2) = .v (.a (.ptr 0 [] 29)) ∧ s.row 0 = some (.box false 29 [] (.a (.iv p 29 b))) ∧ s.row 9 = none ∧ s.get (.tmp 5) = .v (.a (.ptr 1 [] 44)) ∧ s.row 1 = some (.box false 44 [0] (.a (.own 2))) ∧ s.row 2 = some (.arr 2 46 []) ∧ s.get (.tmp 6) = .v (.a (.ptr 3 [] 88)) ∧ s.row 3 = some (.box false 88 [] (.a (.nilf)))) := by
  unfold c46
  rw [co46]
  simp only [Try.f46, Option.getD_some, sq1_seq, sq2_seq]
  refine rn ?_
  simp (maxDischargeDepth := 9) only [go_sem, Nat.reduceMul, Nat.reduceAdd, Nat.reduceLeDiff, Int.reduceSub, Int.reduceNeg, Int.reduceLT, Int.reduceLE, Int.reduceEq, *, List.length_replicate, Nat.le_refl]
theorem p46_3 (ext : CallF) (k cur : Nat) (b : IV) (left : List IV) (p z : Nat) (st s0 : St) (h0 : st.env.length = 12) (h1 : st.get (.tmp 1) = .v (.a (.iv z 46 (.L left)))) (h2 : st.get (.tmp 2) = .v (.a (.ptr 0 [] 29))) (h3 : st.row 0 = some (.box false 29 [] (.a (.iv p 29 b)))) (h4 : st.row 9 = none) (h5 : st.get (.tmp 5) = .v (.a (.ptr 1 [] 44))) (h6 : st.row 1 = some (.box false 44 [0] (.a (.own 2)))) (h7 : st.row 2 = some (.arr 2 46 [])) (h8 : st.get (.tmp 6) = .v (.a (.ptr 3 [] 88))) (h9 : st.row 3 = some (.box false 88 [] (.a (.nilf)))) : Runs tab fx46 (tab.run ext k) k cur (sq1 (sq2 (sq2 (sq2 c46)))) st (fun e s => e = .normal ∧ s.env.length = 12 ∧ s.get (.tmp 1) = .v (.a (.iv z 46 (.L left))) ∧ s.get (.tmp 2) = .v (.a (.ptr 0 [] 29)) ∧ s.row 0 = some (.box false 29 [] (.a (.iv p 29 b))) ∧ s.row 9 = none ∧ s.get (.tmp 5) = .v (.a (.ptr 1 [] 44)) ∧ s.row 1 = some (.box false 44 [0] (.a (.own 2))) ∧ s.row 2 = some (.arr 2 46 []) ∧ s.get (.tmp 6) = .v (.a (.ptr 3 [] 88)) ∧ s.row 3 = some (.box false 88 [] (.a (.fn 75 [1, 0, 3])))) := by
  unfold c46
  rw [co46]
  simp only [Try.f46, Option.getD_some, sq1_seq, sq2_seq]
  refine rn ?_
  simp (maxDischargeDepth := 9) only [go_sem, Nat.reduceMul, Nat.reduceAdd, Nat.reduceLeDiff, Int.reduceSub, Int.reduceNeg, Int.reduceLT, Int.reduceLE, Int.reduceEq, *, List.length_replicate, Nat.le_refl]
theorem p46_5 (ext : CallF) (k cur : Nat) (b : IV) (left : List IV) (p z : Nat) (st s0 : St) (res : List IV) (hn : st.env.length = 12) (g5 : st.get (.tmp 5) = .v (.a (.ptr 1 [] 44))) (r1 : st.row 1 = some (.box false 44 [0] (.a (.own 2)))) (r2 : st.row 2 = some (.arr 2 46 res)) : Runs tab fx46 (tab.run ext k) k cur (sq2 (sq2 (sq2 (sq2 (sq2 c46))))) st (fun e s => e = .ret ∧ (∃ s2, tab.outs s fx46.res = some ([.one (.own 2 46 res)], s2))) := by
  unfold c46
  rw [co46]
  simp only [Try.f46, Option.getD_some, sq1_seq, sq2_seq]
  refine rn ?_
  simp (maxDischargeDepth := 9) only [go_sem, Nat.reduceMul, Nat.reduceAdd, Nat.reduceLeDiff, Int.reduceSub, Int.reduceNeg, Int.reduceLT, Int.reduceLE, Int.reduceEq, *, List.length_replicate, Nat.le_refl]
  exact ⟨_, rfl⟩
end Go.Proofs.Ytficdonjodadlaa
end
section
set_option linter.unusedVariables false
set_option linter.unusedSimpArgs false
namespace Go.Proofs.Ytficdonjodadlaa.Mk
open Go.RowKit Go.Proofs
attribute [local go_sem] Oper.semAt_some
structure Aside (p : Prop) : Prop where
  out : p
def intOf : Value → Int | .int _ q => q | _ => 0
def mkS (n : Nat) (S : Nat → Bool) : List (Fin n) := (List.finRange n).filter fun i => S i.val
theorem range_drop {n j : Nat} (h : j < n) : (List.finRange n).drop j = ⟨j, h⟩ :: (List.finRange n).drop (j + 1) := by
  rw [List.drop_eq_getElem_cons (by simpa using h)]; simp
set_option maxRecDepth 100000 in
set_option maxHeartbeats 1000000 in
theorem mk1_in (F : Fence) (n : Nat) (h6 : F.fn 91) (hro : F.round = none) (hn : 1 ≤ n) (l Bn : Nat) (w0 : World) (A : Option Addr) (c len : Nat) (S : Nat → Bool)
    (hr : ∀ j, j < len → ∃ ad, A = some ad ∧ w0.cell? (ad.add j) = some (.bool (S j))) (hml : len ≤ 1000000)
    (J Jx : List (Fin len) → World → Prop)
    (hY : ∀ pre x W, J pre W → pre.length < (mkS len S).length → YieldAt F (n - 1) Try.prog l #[.int .i64 ((x.val : Nat) : Int)] W fun e W' =>
      (e = .returned (.bool true) ∧ J (pre ++ [x]) W' ∧ Below w0.heap.size W W') ∨ (e = .returned (.bool false) ∧ Jx (pre ++ [x]) W'))
    (W : World) (hBn : W.cell? ⟨Bn, 0, none⟩ = some (.slice A len c)) (hB : Below w0.heap.size w0 W) (h0 : J [] W) :
    CallsIn F n Try.prog 91 #[.func (.yield l) #[] #[], .pointer (some ⟨Bn, 0, none⟩)] W fun e W' => (∃ v, e = .returned v) ∧
      ((∃ ys, ys = mkS len S ∧ J ys W') ∨ (∃ pre, pre <+: mkS len S ∧ Jx pre W')) := by
  refine callsIn_of_wp Try.func91 rfl h6 ?_ hro
  simp only [Try.ntmps91, List.size_toArray, List.length_cons, List.length_nil, Nat.reduceAdd, Nat.reduceSub, Array.replicate_succ, Array.replicate_zero, List.push_toArray, List.append_toArray, List.nil_append, List.cons_append]
  have HR := Aside.mk hr
  have H0 := Aside.mk h0
  have HB := Aside.mk hB
  have HY := Aside.mk hY
  clear hr h0 hB hY
  gi_wp2
  gi_loopw [7] (fun p wr => ∃ (j : Nat) (pre : List (Fin len)), p = .int .i64 (j : Int) ∧ j ≤ len ∧ Aside (mkS len S = pre ++ ((List.finRange len).drop j).filter (fun i => S i.val)) ∧ Aside (J pre wr) ∧ Aside (Below w0.heap.size w0 wr))
    (fun p _ => len - (intOf p).toNat)
  case atStart => exact ⟨0, [], rfl, Nat.zero_le _, ⟨by simp [mkS]⟩, H0, HB⟩
  case round =>
    clear H0 HB
    obtain ⟨j, pre, rfl, hj, HM, HJ, HB⟩ := hrel
    by_cases hlt : j < len
    · obtain ⟨ad, ea, hx⟩ := HR.out j hlt
      cases ea
      replace hx := (HB.out.cell (World.block_lt_of_cell? w0 _ hx)).trans hx
      have c1 : decide ((j : Int) < (len : Int)) = true := decide_eq_true (by omega)
      have c2 : decide (0 ≤ (j : Int)) = true := decide_eq_true (by omega)
      cases hm : S j with
      | false =>
        rw [hm] at hx
        have HM2 : mkS len S = pre ++ ((List.finRange len).drop (j + 1)).filter (fun i => S i.val) := by
          rw [HM.out, range_drop hlt, List.filter_cons_of_neg (by simp [hm])]
        have HM2 := Aside.mk HM2
        clear HM hm
        gi_wp2
        refine ⟨fun f hf => (by cases hf), ?_⟩
        gi_wp2
        go_roundw
        case rel => exact ⟨j + 1, pre, (by first | rfl | (simp; done)), by omega, HM2, HJ, HB⟩
        case measure => simp only [intOf]; omega
      | true =>
        rw [hm] at hx
        have HM2 : mkS len S = pre ++ ⟨j, hlt⟩ :: ((List.finRange len).drop (j + 1)).filter (fun i => S i.val) := by
          rw [HM.out, range_drop hlt, List.filter_cons_of_pos (by simp [hm])]
        have HM2 := Aside.mk HM2
        clear HM hm
        obtain ⟨fn, tmps, assign, body, hy, hR⟩ := HY.out pre ⟨j, hlt⟩ wr HJ.out (by rw [HM2.out]; simp)
        gi_wp2
        refine hR.mono ?_
        rintro e W3 (⟨rfl, hJ3, hk3⟩ | ⟨rfl, hJx3⟩)
        · have HB3 := Aside.mk (HB.out.trans hk3)
          have HJ3 := Aside.mk hJ3
          clear hJ3 hk3
          gi_wp2
          go_roundw
          case rel => exact ⟨j + 1, pre ++ [⟨j, hlt⟩], (by first | rfl | (simp; done)), by omega, ⟨by rw [HM2.out]; simp⟩, HJ3, HB3⟩
          case measure => simp only [intOf]; omega
        · have HX := Aside.mk hJx3
          clear hJx3
          gi_wp2
          refine bodyPost_ret (results_none rfl _ _ _) rfl ?_
          exact ⟨⟨_, rfl⟩, .inr ⟨pre ++ [⟨j, hlt⟩], ⟨_, by rw [HM2.out]; simp; rfl⟩, HX.out⟩⟩
    · gi_wp2
      go_end0
      refine ⟨⟨_, rfl⟩, .inl ⟨pre, ?_, HJ.out⟩⟩
      rw [HM.out, List.drop_of_length_le (by simp; omega)]
      simp
set_option maxHeartbeats 1000000 in
theorem marked_in (F : Fence) (n : Nat) (h5 : F.fn 84) (hro : F.round = none) (A : Option Addr) (l c : Nat) (w : World) :
    CallsIn F n Try.prog 84 #[.slice A l c] w fun e w' => e = .returned (.func (.func 91) #[] #[.pointer (some ⟨w.heap.size, 0, none⟩)]) ∧ w' = w.alloc (.cells #[.slice A l c] 51) := by
  refine callsIn_of_wp Try.func84 rfl h5 ?_ hro
  simp only [Try.ntmps84, List.size_toArray, List.length_cons, List.length_nil, Nat.reduceAdd, Nat.reduceSub, Array.replicate_succ, Array.replicate_zero, List.push_toArray, List.append_toArray, List.nil_append, List.cons_append]
  gi_wp2
  go_ret
  exact ⟨rfl, rfl⟩
theorem mk_stops (F : Fence) (n : Nat) (h6 : F.fn 91) (hro : F.round = none) (hn : 1 ≤ n) (Bn : Nat) (w0 : World) (A : Option Addr) (c len : Nat) (S : Nat → Bool)
    (hr : ∀ j, j < len → ∃ ad, A = some ad ∧ w0.cell? (ad.add j) = some (.bool (S j))) (hml : len ≤ 1000000) (w : World) (hBn : Bn < w.heap.size)
    (hc : w.cell? ⟨Bn, 0, none⟩ = some (.slice A len c)) (hB : Below w0.heap.size w0 w) :
    SeqStopsK F n Try.prog 91 #[.pointer (some ⟨Bn, 0, none⟩)] (fun x : Fin len => #[Value.int .i64 ((x.val : Nat) : Int)]) (Below w0.heap.size) (fun ys => ys = mkS len S) (fun pre => pre <+: mkS len S) (mkS len S).length w := fun l J Jx W hW _ _ hY h0 =>
  mk1_in F n h6 hro hn l Bn w0 A c len S hr hml J Jx hY W ((hW.cell (p := ⟨Bn, 0, none⟩) hBn).trans hc) (hB.trans (hW.mono hB.size)) h0
end Go.Proofs.Ytficdonjodadlaa.Mk
end
section
set_option linter.unusedVariables false
set_option linter.unusedSimpArgs false
namespace Go.Ev
open Go.RowKit
section
set_option maxHeartbeats 1000000
variable {P : Program} {l n : Nat} {o : Oper} {a : Act} {w : World} {K K' : Act → World → Prop} {Q : Exit → Act → World → Prop} {ops : Array Oper}
theorem calls_in {f : FuncId} {args : Array Value} {R : Ending → World → Prop} (h : Calls P f args w R) : CallsIn (Fence.wide.inRound l) n P f args w R := (callsIn_wide.2 h).inRound l
theorem rows_in {row : String} {args : Array Value} {R : Value → World → Prop} (h : Rows P row args w R) : RowsIn (Fence.wide.inRound l) n P row args w R := fun c cs _ => by
  obtain ⟨v, w', h1, h2⟩ := h c cs
  exact ⟨v, w', h1, stepsIn_wide.2 h2⟩
theorem oper_in (hd : ∀ c, o.op ≠ .defer c) (hK : ∀ a w, K a w → K' a w) (h : o.wp P a w K Q) : o.wpIn (Fence.wide.inRound l) n P a w K' Q := by
  refine ⟨fun _ _ => trivial, ?_⟩
  rw [show (Fence.wide.inRound l).round = some l from rfl, Oper.semAt_some l _ _ hd]
  unfold Oper.wp at h
  generalize (execOp a.eval o).run P w = r at h ⊢
  unfold Oper.upon at h
  unfold Oper.uponIn
  split at h
  · exact hK _ _ h
  · exact hK _ _ h
  · exact hK _ _ h
  · refine ⟨(fun hh => by cases hh), calls_in (h.mono fun e w' he => ?_)⟩
    cases e with
    | returned v => exact hK _ _ he
    | panicked c => exact he
    | outgrown => exact he
  · exact ⟨(fun hh => by cases hh), rows_in (h.mono fun v w' he => hK _ _ he)⟩
  · exact h
  · exact h.elim
def noDefer (o : Oper) : Bool := match o.op with | .defer _ => false | _ => true
theorem noDefer_ne (h : noDefer o = true) : ∀ c, o.op ≠ .defer c := by
  intro c e; unfold noDefer at h; rw [e] at h; cases h
theorem list_in (hQ : ¬LetsOut Q) : ∀ (os : List Oper) {a : Act} {w : World}, (∀ o ∈ os, noDefer o = true) → wpList P ops Q os a w → wpListIn (Fence.wide.inRound l) n P ops Q os a w
  | [], a, w, _, h => h
  | o :: os, a, w, hd, h => by
    unfold wpList at h
    unfold wpListIn
    split
    · rename_i hw
      rw [if_pos hw] at h
      rcases h with h | ⟨_, h⟩
      · exact oper_in (noDefer_ne (hd o List.mem_cons_self)) (fun a w hk => list_in hQ os (fun o ho => hd o (List.mem_cons_of_mem _ ho)) hk) h
      · exact absurd h hQ
    · rename_i hw
      rw [if_neg hw] at h
      exact ⟨fun _ _ => trivial, list_in hQ os (fun o ho => hd o (List.mem_cons_of_mem _ ho)) h⟩
theorem any_in' (hQ : ¬LetsOut Q) (hd : ∀ o ∈ ops.toList, noDefer o = true) {md : Region.Mode} : ∀ (fuel : Nat) {listed : Array Bool} {a : Act} {w : World}, wpAny P md ops Q fuel listed a w → wpAnyIn (Fence.wide.inRound l) n P md ops Q fuel listed a w
  | 0, listed, a, w, h => h
  | fuel + 1, listed, a, w, h => by
    refine ⟨h.1, fun i hi => ?_⟩
    have h2 := h.2 i hi
    unfold wpOp at h2
    unfold wpOpIn
    cases ho : ops[i]? with
    | none => rw [ho] at h2; exact any_in' hQ hd fuel h2
    | some o =>
      rw [ho] at h2
      simp only at h2 ⊢
      have hod : noDefer o = true := hd o (by obtain ⟨h1, h3⟩ := Array.getElem?_eq_some_iff.1 ho; exact h3 ▸ Array.getElem_mem_toList h1)
      split
      · rename_i hw
        rw [if_pos hw] at h2
        rcases h2 with h2 | ⟨_, h2⟩
        · exact oper_in (noDefer_ne hod) (fun a w hk => any_in' hQ hd fuel hk) h2
        · exact absurd h2 hQ
      · rename_i hw
        rw [if_neg hw] at h2
        exact ⟨fun _ _ => trivial, any_in' hQ hd fuel h2⟩
def Calm : Code → Bool
  | .skip | .exit _ | .ret => true
  | .region _ ops _ => ops.toList.all noDefer
  | .seq a b => Calm a && Calm b
  | .cond _ a b => Calm a && Calm b
  | .block _ c => Calm c
  | .loop c => Calm c
  | _ => false
end
section
set_option maxHeartbeats 1000000
variable {C : Cx} {N N' : Nm} {st st' s1 stF : St} {a : Act} {w w' : World} {Q : Exit → Act → World → Prop} {fx : Fx} {call : CallF} {ops : Array Oper} {l n : Nat}
theorem region_in (hQ : ¬LetsOut Q) (ok : C.Ok) (hm : C.P.follows .mixedOrders = true) (hc : ∀ o, CallOk C fx call o) {id : Nat} {draw : Bool} (hd : ops.toList.all noDefer = true) (hs : C.T.region fx call draw ops st = some stF) (h : Rel C N st a w) (hq : ∀ N a w, Rel C N stF a w → Q .normal a w) : (Code.region id ops draw).wpIn (Fence.wide.inRound l) n C.P Q a w := by
  have hd' : ∀ o ∈ ops.toList, noDefer o = true := fun o ho => List.all_eq_true.1 hd o ho
  unfold Tab.region at hs
  cases draw with
  | false =>
    simp only [Bool.false_eq_true, if_false] at hs
    exact wpIn_region_list (list_in hQ _ hd' (ops_sound ok hc _ hs h hq))
  | true =>
    simp only [if_true] at hs
    split at hs
    · rename_i hdr
      refine wpIn_region_any hm (any_in' hQ hd' _ ?_)
      have hplan : drawPlan ops = (List.range ops.size).map fun i => (ops.getD i default, loudB (Region.before ops) ops.size i) := by
        unfold drawPlan
        apply List.ext_getElem?
        intro i
        simp only [List.getElem?_map, List.getElem?_zipIdx, Array.getElem?_toList]
        by_cases hi : i < ops.size
        · rw [Array.getElem?_eq_getElem hi, List.getElem?_range hi]
          simp [hi]
        · rw [Array.getElem?_eq_none (by omega), List.getElem?_eq_none (by simp; omega)]
          rfl
      rw [hplan] at hs
      refine drawn_sound ok hc hdr (W := drawW fx ops) (fun o ho k hk => ?_) ops.size (List.range ops.size) _ st N a _ (by simp) (by simp) (fun j hj => ?_) (fun i hi => by simpa using hi) ?_ (fun j o ho hj => ?_) hs h.draw hq
      · exact List.mem_flatMap.2 ⟨o, by simpa using ho, hk⟩
      · simp [hj]
      · exact List.pairwise_lt_range
      · exact absurd (List.mem_range.2 (Array.getElem?_eq_some_iff.1 ho).1) hj
    · cases hs
theorem code_in (ok : C.Ok) (hm : C.P.follows .mixedOrders = true) (hc : ∀ o, CallOk C fx call o) {k : Nat} : ∀ (c : Code) {cur : Nat} {st st' : St} {N : Nm} {a : Act} {w : World} {e : Ex} {Q : Exit → Act → World → Prop}, Calm c = true → ¬LetsOut Q → C.T.code fx call k cur c st = some (e, st') → Rel C N st a w → (∀ N a w, Rel C N st' a w → Q e.out a w) → c.wpIn (Fence.wide.inRound l) n C.P Q a w := by
  intro c
  induction c with
  | skip =>
    intro cur st st' N a w e Q _ hQ hs h hq
    simp only [Tab.code, Option.some.injEq, Prod.mk.injEq] at hs
    obtain ⟨rfl, rfl⟩ := hs
    exact wpIn_skip (hq N a w h)
  | region id ops draw =>
    intro cur st st' N a w e Q hd hQ hs h hq
    simp only [Tab.code] at hs
    rw [Option.bind_eq_some_iff] at hs
    obtain ⟨s1, h1, hs⟩ := hs
    simp only [Option.some.injEq, Prod.mk.injEq] at hs
    obtain ⟨rfl, rfl⟩ := hs
    exact region_in hQ ok hm hc hd h1 h hq
  | seq x y ihx ihy =>
    intro cur st st' N a w e Q hd hQ hs h hq
    simp only [Calm, Bool.and_eq_true] at hd
    simp only [Tab.code] at hs
    rw [Option.bind_eq_some_iff] at hs
    obtain ⟨⟨e1, s1⟩, h1, hs⟩ := hs
    refine wpIn_seq (ihx hd.1 ?_ h1 h (fun N' a' w' h' => ?_))
    · rintro ⟨a1, w1, h2⟩; exact hQ ⟨a1, w1, h2⟩
    cases e1 with
    | normal => exact ihy hd.2 hQ hs h' hq
    | exit id =>
      simp only [Option.some.injEq, Prod.mk.injEq] at hs
      obtain ⟨rfl, rfl⟩ := hs
      exact hq N' a' w' h'
    | ret =>
      simp only [Option.some.injEq, Prod.mk.injEq] at hs
      obtain ⟨rfl, rfl⟩ := hs
      exact hq N' a' w' h'
  | cond o x y ihx ihy =>
    intro cur st st' N a w e Q hd hQ hs h hq
    simp only [Calm, Bool.and_eq_true] at hd
    simp only [Tab.code] at hs
    split at hs
    · rename_i t ht
      have h1 := h.get o
      rw [ht] at h1
      refine wpIn_cond (slot_bool h1) ?_
      cases t with
      | true => simp only [if_true] at hs ⊢; exact ihx hd.1 hQ hs h hq
      | false => simp only [Bool.false_eq_true, if_false] at hs ⊢; exact ihy hd.2 hQ hs h hq
    · cases hs
  | block id c ih =>
    intro cur st st' N a w e Q hd hQ hs h hq
    simp only [Tab.code] at hs
    rw [Option.bind_eq_some_iff] at hs
    obtain ⟨⟨e1, s1⟩, h1, hs⟩ := hs
    simp only [Option.some.injEq, Prod.mk.injEq] at hs
    obtain ⟨he, rfl⟩ := hs
    refine wpIn_block (ih hd ?_ h1 h (fun N' a' w' h' => ?_))
    · rintro ⟨a1, w1, h2⟩; exact hQ ⟨a1, w1, h2⟩
    cases e1 with
    | normal => simp only at he; subst he; exact hq N' a' w' h'
    | ret => simp only at he; subst he; exact hq N' a' w' h'
    | exit i =>
      simp only at he
      show (if i = id then Q .normal a' w' else Q (.exit i) a' w')
      split
      · rename_i e2; rw [if_pos e2] at he; subst he; exact hq N' a' w' h'
      · rename_i e2; rw [if_neg e2] at he; subst he; exact hq N' a' w' h'
  | loop c ih =>
    intro cur st st' N a w e Q hd hQ hs h hq
    simp only [Tab.code] at hs
    refine wpIn_loop_rounds k ?_
    have key : ∀ (m : Nat) {st : St} {N : Nm} {a : Act} {w : World}, iter (fun st => C.T.code fx call k cur c (st.fresh ((fx.clr.lookup cur).getD ([], [])))) m st = some (e, st') → Rel C N st a w → Code.roundsIn (Fence.wide.inRound l) n C.P c Q m a w := by
      intro m
      induction m with
      | zero => intro st N a w hs _; cases hs
      | succ m ihn =>
        intro st N a w hs h
        simp only [iter] at hs
        rw [Option.bind_eq_some_iff] at hs
        obtain ⟨⟨e1, s1⟩, h1, hs⟩ := hs
        rw [roundsIn_succ]
        refine ih hd ?_ h1 ((h.clear _).killL _) (fun N' a' w' h' => ?_)
        · rintro ⟨a1, w1, h2⟩; exact hQ ⟨a1, w1, h2⟩
        cases e1 with
        | normal => exact ihn hs h'
        | exit id =>
          simp only [Option.some.injEq, Prod.mk.injEq] at hs
          obtain ⟨rfl, rfl⟩ := hs
          exact hq N' a' w' h'
        | ret =>
          simp only [Option.some.injEq, Prod.mk.injEq] at hs
          obtain ⟨rfl, rfl⟩ := hs
          exact hq N' a' w' h'
    exact key k hs h
  | exit id =>
    intro cur st st' N a w e Q _ hQ hs h hq
    simp only [Tab.code, Option.some.injEq, Prod.mk.injEq] at hs
    obtain ⟨rfl, rfl⟩ := hs
    exact wpIn_exit (hq N a w h)
  | ret =>
    intro cur st st' N a w e Q _ hQ hs h hq
    simp only [Tab.code, Option.some.injEq, Prod.mk.injEq] at hs
    obtain ⟨rfl, rfl⟩ := hs
    exact wpIn_ret (hq N a w h)
  | _ => intro cur st st' N a w e Q hd; cases hd
end
end Go.Ev
end
section
set_option linter.unusedVariables false
set_option linter.unusedSimpArgs false
namespace Go.Ev
open Go.RowKit
section
set_option maxHeartbeats 1000000
variable {P : Program} {T : Tab} {B l n k cur : Nat} {bs : List Nat} {W : World} {fx : Fx} {call : CallF} {c : Code} {st st' : St} {a : Act} {e : Ex} {Q : Exit → Act → World → Prop}
def bβ (bs : List Nat) (k : Nat) : Value := .pointer (some ⟨bs.getD k 0, 0, none⟩)
def bCx (P : Program) (T : Tab) (W : World) (S : Nat → Prop) (bs : List Nat) : Cx := ⟨P, T, W, fun _ b => S b, fun b => b ∈ bs, bβ bs⟩
def bNm (bs : List Nat) : Nm := ⟨bβ bs, fun _ => False⟩
theorem bCx_ok {S : Nat → Prop} (ok : T.Ok P) (hS : ∀ b, S b → b < W.heap.size ∧ b ∉ bs) (hbs : ∀ b ∈ bs, B ≤ b ∧ b < W.heap.size) : (bCx P T W S bs).Ok :=
  ⟨ok, fun _ _ _ _ h => h, fun p b hb => hS b hb, fun b hb => (hbs b hb).2⟩
theorem round_body {S : Nat → Prop} (ok : T.Ok P) (hm : P.follows .mixedOrders = true) (hrun : RunOk P T call) (hS : ∀ b, S b → b < W.heap.size ∧ b ∉ bs) (hbs : ∀ b ∈ bs, B ≤ b ∧ b < W.heap.size) (hB : B ≤ W.heap.size) (hnd : bs.Nodup)
    (hcell : ∀ b ∈ bs, ∀ o, W.heap[b]? = some o → o.isCells = true)
    (hcalm : Calm c = true) (hQ : ¬LetsOut Q) (R : Ex → St → Prop) (hR : Runs T fx call k cur c st R)
    (hlen : a.tmps.size = st.env.length) (hdf : a.defers = [])
    (hslots : ∀ i, Slot (bCx P T W S bs) (bNm bs) st.sh W (st.env.getD i U) (a.tmps.getD i undef))
    (hrows : ∀ j r, st.row j = some r → RowOk (bCx P T W S bs) (bNm bs) st.sh W j r)
    (hdom : ∀ j, (st.row j).isSome → j < bs.length)
    (hq : ∀ e st' N' a' W', R e st' → KeepsFrom B W W' → Below B W W' → (∀ b, b < W.heap.size → b ∉ bs → W'.heap[b]? = W.heap[b]?) → Rel (bCx P T W S bs) N' st' a' W' → Q e.out a' W') :
    c.wpIn (Fence.wide.inRound l) n P Q a W := by
  obtain ⟨e, st', hs, hRe⟩ := hR
  have okC := bCx_ok (P := P) ok hS hbs
  have hrel : Rel (bCx P T W S bs) (bNm bs) st a W := by
    refine ⟨hlen, hdf, hslots, hrows, ⟨fun j b hj hb => ?_, fun j j' b h1 h2 h3 h4 => ?_, fun b hb => hb.elim, fun b _ _ => rfl, rfl, rfl, rfl, Nat.le_refl _⟩⟩
    · have hjl := hdom j hj
      have : b = bs.getD j 0 := by
        have h5 : blk (bβ bs j) = some b := hb
        simpa [bβ, blk] using h5.symm
      subst this
      have hmem : bs.getD j 0 ∈ bs := by simp [List.getD, hjl]
      exact ⟨.inl hmem, fun h => h, (hbs _ hmem).2⟩
    · have e1 : b = bs.getD j 0 := by have h5 : blk (bβ bs j) = some b := h3; simpa [bβ, blk] using h5.symm
      have e2 : b = bs.getD j' 0 := by have h5 : blk (bβ bs j') = some b := h4; simpa [bβ, blk] using h5.symm
      have l1 := hdom j h1
      have l2 := hdom j' h2
      have e3 : bs[j] = bs[j'] := by
        have : bs.getD j 0 = bs.getD j' 0 := e1.symm.trans e2
        simpa [List.getD, l1, l2] using this
      exact (List.getElem_inj hnd).1 e3
  refine code_in (C := bCx P T W S bs) okC hm (fun o => call_sound okC hrun) c hcalm hQ hs hrel (fun N' a' W' h' => ?_)
  have hfr := h'.frm
  have hk : ∀ b, b < W.heap.size → b ∉ bs → W'.heap[b]? = W.heap[b]? := fun b h1 h2 => hfr.frame b h1 h2
  refine hq e st' N' a' W' hRe ⟨hfr.size, fun j o _ hj ho => ?_⟩ ⟨hfr.os, hfr.tape, hfr.output, hfr.size, fun j hj => hk j (by omega) (fun h => by have := (hbs j h).1; omega)⟩ hk h'
  have hjs : j < W.heap.size := (Array.getElem?_eq_some_iff.1 hj).1
  by_cases hjb : j ∈ bs
  · rw [hcell j hjb o hj] at ho; cases ho
  · rw [hk j hjs hjb]; exact hj
end
end Go.Ev
end
section
set_option maxRecDepth 100000
namespace Go.Proofs.Ytficdonjodadlaa
open Go.Ev Go.Proofs
theorem tabOk : tab.Ok Try.prog := tabOk_of (by kernel_rfl)
theorem good4 : GoodFn Try.prog 4 fx4 := ⟨Try.f4, Try.func4, by kernel_rfl, by kernel_rfl, by kernel_rfl, by kernel_rfl⟩
theorem good10 : GoodFn Try.prog 10 fx10 := ⟨Try.f10, Try.func10, by kernel_rfl, by kernel_rfl, by kernel_rfl, by kernel_rfl⟩
theorem good11 : GoodFn Try.prog 11 fx11 := ⟨Try.f11, Try.func11, by kernel_rfl, by kernel_rfl, by kernel_rfl, by kernel_rfl⟩
theorem good12 : GoodFn Try.prog 12 fx12 := ⟨Try.f12, Try.func12, by kernel_rfl, by kernel_rfl, by kernel_rfl, by kernel_rfl⟩
theorem good13 : GoodFn Try.prog 13 fx13 := ⟨Try.f13, Try.func13, by kernel_rfl, by kernel_rfl, by kernel_rfl, by kernel_rfl⟩
theorem good14 : GoodFn Try.prog 14 fx14 := ⟨Try.f14, Try.func14, by kernel_rfl, by kernel_rfl, by kernel_rfl, by kernel_rfl⟩
theorem good15 : GoodFn Try.prog 15 fx15 := ⟨Try.f15, Try.func15, by kernel_rfl, by kernel_rfl, by kernel_rfl, by kernel_rfl⟩
theorem good16 : GoodFn Try.prog 16 fx16 := ⟨Try.f16, Try.func16, by kernel_rfl, by kernel_rfl, by kernel_rfl, by kernel_rfl⟩
theorem good18 : GoodFn Try.prog 18 fx18 := ⟨Try.f18, Try.func18, by kernel_rfl, by kernel_rfl, by kernel_rfl, by kernel_rfl⟩
theorem good19 : GoodFn Try.prog 19 fx19 := ⟨Try.f19, Try.func19, by kernel_rfl, by kernel_rfl, by kernel_rfl, by kernel_rfl⟩
theorem good20 : GoodFn Try.prog 20 fx20 := ⟨Try.f20, Try.func20, by kernel_rfl, by kernel_rfl, by kernel_rfl, by kernel_rfl⟩
theorem good21 : GoodFn Try.prog 21 fx21 := ⟨Try.f21, Try.func21, by kernel_rfl, by kernel_rfl, by kernel_rfl, by kernel_rfl⟩
theorem good22 : GoodFn Try.prog 22 fx22 := ⟨Try.f22, Try.func22, by kernel_rfl, by kernel_rfl, by kernel_rfl, by kernel_rfl⟩
theorem good26 : GoodFn Try.prog 26 fx26 := ⟨Try.f26, Try.func26, by kernel_rfl, by kernel_rfl, by kernel_rfl, by kernel_rfl⟩
theorem good27 : GoodFn Try.prog 27 fx27 := ⟨Try.f27, Try.func27, by kernel_rfl, by kernel_rfl, by kernel_rfl, by kernel_rfl⟩
theorem good28 : GoodFn Try.prog 28 fx28 := ⟨Try.f28, Try.func28, by kernel_rfl, by kernel_rfl, by kernel_rfl, by kernel_rfl⟩
theorem good31 : GoodFn Try.prog 31 fx31 := ⟨Try.f31, Try.func31, by kernel_rfl, by kernel_rfl, by kernel_rfl, by kernel_rfl⟩
theorem good35 : GoodFn Try.prog 35 fx35 := ⟨Try.f35, Try.func35, by kernel_rfl, by kernel_rfl, by kernel_rfl, by kernel_rfl⟩
theorem good36 : GoodFn Try.prog 36 fx36 := ⟨Try.f36, Try.func36, by kernel_rfl, by kernel_rfl, by kernel_rfl, by kernel_rfl⟩
theorem good37 : GoodFn Try.prog 37 fx37 := ⟨Try.f37, Try.func37, by kernel_rfl, by kernel_rfl, by kernel_rfl, by kernel_rfl⟩
theorem good38 : GoodFn Try.prog 38 fx38 := ⟨Try.f38, Try.func38, by kernel_rfl, by kernel_rfl, by kernel_rfl, by kernel_rfl⟩
theorem good39 : GoodFn Try.prog 39 fx39 := ⟨Try.f39, Try.func39, by kernel_rfl, by kernel_rfl, by kernel_rfl, by kernel_rfl⟩
theorem good40 : GoodFn Try.prog 40 fx40 := ⟨Try.f40, Try.func40, by kernel_rfl, by kernel_rfl, by kernel_rfl, by kernel_rfl⟩
theorem good41 : GoodFn Try.prog 41 fx41 := ⟨Try.f41, Try.func41, by kernel_rfl, by kernel_rfl, by kernel_rfl, by kernel_rfl⟩
theorem good42 : GoodFn Try.prog 42 fx42 := ⟨Try.f42, Try.func42, by kernel_rfl, by kernel_rfl, by kernel_rfl, by kernel_rfl⟩
theorem good43 : GoodFn Try.prog 43 fx43 := ⟨Try.f43, Try.func43, by kernel_rfl, by kernel_rfl, by kernel_rfl, by kernel_rfl⟩
theorem good44 : GoodFn Try.prog 44 fx44 := ⟨Try.f44, Try.func44, by kernel_rfl, by kernel_rfl, by kernel_rfl, by kernel_rfl⟩
theorem good45 : GoodFn Try.prog 45 fx45 := ⟨Try.f45, Try.func45, by kernel_rfl, by kernel_rfl, by kernel_rfl, by kernel_rfl⟩
theorem good46 : GoodFn Try.prog 46 fx46 := ⟨Try.f46, Try.func46, by kernel_rfl, by kernel_rfl, by kernel_rfl, by kernel_rfl⟩
theorem good47 : GoodFn Try.prog 47 fx47 := ⟨Try.f47, Try.func47, by kernel_rfl, by kernel_rfl, by kernel_rfl, by kernel_rfl⟩
theorem good48 : GoodFn Try.prog 48 fx48 := ⟨Try.f48, Try.func48, by kernel_rfl, by kernel_rfl, by kernel_rfl, by kernel_rfl⟩
theorem good49 : GoodFn Try.prog 49 fx49 := ⟨Try.f49, Try.func49, by kernel_rfl, by kernel_rfl, by kernel_rfl, by kernel_rfl⟩
theorem good50 : GoodFn Try.prog 50 fx50 := ⟨Try.f50, Try.func50, by kernel_rfl, by kernel_rfl, by kernel_rfl, by kernel_rfl⟩
theorem good51 : GoodFn Try.prog 51 fx51 := ⟨Try.f51, Try.func51, by kernel_rfl, by kernel_rfl, by kernel_rfl, by kernel_rfl⟩
theorem good52 : GoodFn Try.prog 52 fx52 := ⟨Try.f52, Try.func52, by kernel_rfl, by kernel_rfl, by kernel_rfl, by kernel_rfl⟩
theorem good54 : GoodFn Try.prog 54 fx54 := ⟨Try.f54, Try.func54, by kernel_rfl, by kernel_rfl, by kernel_rfl, by kernel_rfl⟩
theorem good55 : GoodFn Try.prog 55 fx55 := ⟨Try.f55, Try.func55, by kernel_rfl, by kernel_rfl, by kernel_rfl, by kernel_rfl⟩
theorem good56 : GoodFn Try.prog 56 fx56 := ⟨Try.f56, Try.func56, by kernel_rfl, by kernel_rfl, by kernel_rfl, by kernel_rfl⟩
theorem good57 : GoodFn Try.prog 57 fx57 := ⟨Try.f57, Try.func57, by kernel_rfl, by kernel_rfl, by kernel_rfl, by kernel_rfl⟩
theorem good58 : GoodFn Try.prog 58 fx58 := ⟨Try.f58, Try.func58, by kernel_rfl, by kernel_rfl, by kernel_rfl, by kernel_rfl⟩
theorem good60 : GoodFn Try.prog 60 fx60 := ⟨Try.f60, Try.func60, by kernel_rfl, by kernel_rfl, by kernel_rfl, by kernel_rfl⟩
theorem good62 : GoodFn Try.prog 62 fx62 := ⟨Try.f62, Try.func62, by kernel_rfl, by kernel_rfl, by kernel_rfl, by kernel_rfl⟩
theorem good63 : GoodFn Try.prog 63 fx63 := ⟨Try.f63, Try.func63, by kernel_rfl, by kernel_rfl, by kernel_rfl, by kernel_rfl⟩
theorem good65 : GoodFn Try.prog 65 fx65 := ⟨Try.f65, Try.func65, by kernel_rfl, by kernel_rfl, by kernel_rfl, by kernel_rfl⟩
theorem good66 : GoodFn Try.prog 66 fx66 := ⟨Try.f66, Try.func66, by kernel_rfl, by kernel_rfl, by kernel_rfl, by kernel_rfl⟩
theorem good67 : GoodFn Try.prog 67 fx67 := ⟨Try.f67, Try.func67, by kernel_rfl, by kernel_rfl, by kernel_rfl, by kernel_rfl⟩
theorem good68 : GoodFn Try.prog 68 fx68 := ⟨Try.f68, Try.func68, by kernel_rfl, by kernel_rfl, by kernel_rfl, by kernel_rfl⟩
theorem good69 : GoodFn Try.prog 69 fx69 := ⟨Try.f69, Try.func69, by kernel_rfl, by kernel_rfl, by kernel_rfl, by kernel_rfl⟩
theorem good70 : GoodFn Try.prog 70 fx70 := ⟨Try.f70, Try.func70, by kernel_rfl, by kernel_rfl, by kernel_rfl, by kernel_rfl⟩
theorem good71 : GoodFn Try.prog 71 fx71 := ⟨Try.f71, Try.func71, by kernel_rfl, by kernel_rfl, by kernel_rfl, by kernel_rfl⟩
theorem good72 : GoodFn Try.prog 72 fx72 := ⟨Try.f72, Try.func72, by kernel_rfl, by kernel_rfl, by kernel_rfl, by kernel_rfl⟩
theorem good73 : GoodFn Try.prog 73 fx73 := ⟨Try.f73, Try.func73, by kernel_rfl, by kernel_rfl, by kernel_rfl, by kernel_rfl⟩
theorem good74 : GoodFn Try.prog 74 fx74 := ⟨Try.f74, Try.func74, by kernel_rfl, by kernel_rfl, by kernel_rfl, by kernel_rfl⟩
theorem good75 : GoodFn Try.prog 75 fx75 := ⟨Try.f75, Try.func75, by kernel_rfl, by kernel_rfl, by kernel_rfl, by kernel_rfl⟩
theorem good76 : GoodFn Try.prog 76 fx76 := ⟨Try.f76, Try.func76, by kernel_rfl, by kernel_rfl, by kernel_rfl, by kernel_rfl⟩
theorem good77 : GoodFn Try.prog 77 fx77 := ⟨Try.f77, Try.func77, by kernel_rfl, by kernel_rfl, by kernel_rfl, by kernel_rfl⟩
theorem good78 : GoodFn Try.prog 78 fx78 := ⟨Try.f78, Try.func78, by kernel_rfl, by kernel_rfl, by kernel_rfl, by kernel_rfl⟩
theorem good79 : GoodFn Try.prog 79 fx79 := ⟨Try.f79, Try.func79, by kernel_rfl, by kernel_rfl, by kernel_rfl, by kernel_rfl⟩
theorem good80 : GoodFn Try.prog 80 fx80 := ⟨Try.f80, Try.func80, by kernel_rfl, by kernel_rfl, by kernel_rfl, by kernel_rfl⟩
theorem good81 : GoodFn Try.prog 81 fx81 := ⟨Try.f81, Try.func81, by kernel_rfl, by kernel_rfl, by kernel_rfl, by kernel_rfl⟩
theorem good83 : GoodFn Try.prog 83 fx83 := ⟨Try.f83, Try.func83, by kernel_rfl, by kernel_rfl, by kernel_rfl, by kernel_rfl⟩
theorem good85 : GoodFn Try.prog 85 fx85 := ⟨Try.f85, Try.func85, by kernel_rfl, by kernel_rfl, by kernel_rfl, by kernel_rfl⟩
theorem good86 : GoodFn Try.prog 86 fx86 := ⟨Try.f86, Try.func86, by kernel_rfl, by kernel_rfl, by kernel_rfl, by kernel_rfl⟩
theorem good87 : GoodFn Try.prog 87 fx87 := ⟨Try.f87, Try.func87, by kernel_rfl, by kernel_rfl, by kernel_rfl, by kernel_rfl⟩
theorem good88 : GoodFn Try.prog 88 fx88 := ⟨Try.f88, Try.func88, by kernel_rfl, by kernel_rfl, by kernel_rfl, by kernel_rfl⟩
theorem good89 : GoodFn Try.prog 89 fx89 := ⟨Try.f89, Try.func89, by kernel_rfl, by kernel_rfl, by kernel_rfl, by kernel_rfl⟩
theorem good90 : GoodFn Try.prog 90 fx90 := ⟨Try.f90, Try.func90, by kernel_rfl, by kernel_rfl, by kernel_rfl, by kernel_rfl⟩
theorem fnsOk : FnsOk tab Try.prog := fnsOk_of (by
  unfold tab
  simp only [List.forall_mem_cons]
  exact ⟨good4, good10, good11, good12, good13, good14, good15, good16, good18, good19, good20, good21, good22, good26, good27, good28, good31, good35, good36, good37, good38, good39, good40, good41, good42, good43, good44, good45, good47, good48, good49, good50, good51, good52, good54, good55, good56, good57, good58, good60, good62, good63, good65, good66, good67, good68, good69, good70, good71, good72, good73, good74, good75, good76, good77, good78, good79, good80, good81, good83, good85, good86, good87, good88, good89, good90, fun _ h => (by cases h)⟩)
theorem mixed : Try.prog.follows .mixedOrders = true := by kernel_rfl
end Go.Proofs.Ytficdonjodadlaa
end
section
set_option linter.unusedVariables false
set_option linter.unusedSimpArgs false
namespace Go.Proofs.Ytficdonjodadlaa.Mk
open Go.RowKit Go.Proofs Go.Ev
attribute [local go_sem] Oper.semAt_some
theorem enters_ {P : Program} {f : FuncId} {fn : Func} (hf : P.funcs[f]? = some fn) (hname : (fn.name == "runtime.NumGoroutine") = false) (hb : fn.body.isSome = true) (args : Array Value) (w : World) : (callFunc f args).run P w = .ok (.enter f args) w := by
  have h1 : fn.name ≠ "runtime.NumGoroutine" := by simpa using hname
  obtain ⟨c, hc⟩ := Option.isSome_iff_exists.1 hb
  simp [go_sem, callFunc, hf, h1, hc]
theorem blk_cell {w : World} {g : Nat} {t : TypeId} {cs : Array Value} (h : w.heap[g]? = some (.cells cs t (0, 0))) (i : Nat) : w.cell? ⟨g, i, none⟩ = cs[i]? := cell_of_row w g i cs t (0, 0) h
theorem below_set {w W : World} {g j : Nat} {v : Value} (h : Below w.heap.size w W) (hg : w.heap.size ≤ g) : Below w.heap.size w (W.setCell ⟨g, j, none⟩ v) := h.setCell hg _
theorem blk_own {β : Type} (B : Nat) (cs : Array Value) (t : TypeId) : Own (fun (_ : β) W => W.heap[B]? = some (.cells cs t (0, 0))) := fun s W W' row hs hg hr => (grownBy_keeps_cells hg hr hs rfl).trans hs
noncomputable def fxB : Fx := ⟨.skip, 0, [], [], [], [], 0⟩
theorem hiB : fxB.hints = [] := (rfl)
theorem clB {c : Nat} : (fxB.clr.lookup c).getD ([], []) = ([], []) := (rfl)
def envU (n : Nat) (l : List (Nat × SV)) : List SV := l.foldl (fun e p => e.set p.1 p.2) (List.replicate n U)
theorem envU_len {n : Nat} : ∀ (l : List (Nat × SV)), (envU n l).length = n := by
  intro l
  unfold envU
  have : ∀ (l : List (Nat × SV)) (e : List SV), (l.foldl (fun e p => e.set p.1 p.2) e).length = e.length := by
    intro l; induction l with
    | nil => intro e; rfl
    | cons p l ih => intro e; rw [List.foldl_cons, ih]; simp
  rw [this]; simp
theorem envU_get {n i : Nat} (l : List (Nat × SV)) : (envU n l).getD i U = U ∨ ∃ p ∈ l, p.1 = i ∧ (envU n l).getD i U = p.2 := by
  unfold envU
  have : ∀ (l : List (Nat × SV)) (e : List SV), (l.foldl (fun e p => e.set p.1 p.2) e).getD i U = e.getD i U ∨ ∃ p ∈ l, p.1 = i ∧ (l.foldl (fun e p => e.set p.1 p.2) e).getD i U = p.2 := by
    intro l; induction l with
    | nil => intro e; exact .inl rfl
    | cons p l ih =>
      intro e
      rw [List.foldl_cons]
      rcases ih (e.set p.1 p.2) with h | ⟨q, hq, h1, h2⟩
      · rw [h]
        by_cases hp : p.1 = i
        · by_cases hi : i < e.length
          · exact .inr ⟨p, List.mem_cons_self, hp, by subst hp; simp [List.getD, hi]⟩
          · left; subst hp; simp [List.getD, hi]
        · left; simp [List.getD, List.getElem?_set, hp]
      · exact .inr ⟨q, List.mem_cons_of_mem _ hq, h1, h2⟩
  rcases this l (List.replicate n U) with h | h
  · left; rw [h]; simp only [List.getD, List.getElem?_replicate]; split <;> rfl
  · exact .inr h
def hitB (b : IV) (c : Int) (i : Nat) : Bool := (asL (fld ((asL (fld b 1)).getD i .N) 1)).any fun x => decide (asI x = c)
def ICu (w : World) (cs3 : Array Value) (b : IV) (a2 : Int) {n : Nat} (pre : List (Fin n)) (W : World) : Prop := ((W.heap[w.heap.size]? = some (.cells cs3 29 (0, 0)) ∧ Boxed W (w.heap.size + 1) 3 (.int .i64 a2)) ∧ Boxed W (w.heap.size + 1 + 1) 4 (.bool false)) ∧ Below w.heap.size w W ∧ pre.any (fun i => hitB b a2 i.val) = false
def IXu (w : World) (b : IV) (a2 : Int) {n : Nat} (c : Code) (pre : List (Fin n)) (W : World) : Prop := Boxed W (w.heap.size + 1 + 1) 4 (.bool true) ∧ Below w.heap.size w W ∧ (c = .ret ∧ pre.any (fun i => hitB b a2 i.val) = true)
theorem mkS_any {n : Nat} {S q : Nat → Bool} : (mkS n S).any (fun i => q i.val) = (List.range n).any fun i => S i && q i := by
  unfold mkS; rw [List.any_filter, Bool.eq_iff_iff, List.any_eq_true, List.any_eq_true]
  constructor
  · rintro ⟨i, _, h⟩; exact ⟨i.val, List.mem_range.2 i.isLt, h⟩
  · rintro ⟨i, hi, h⟩; exact ⟨⟨i, List.mem_range.1 hi⟩, List.mem_finRange _, h⟩
noncomputable def callH : CallF := tab.run (fun _ _ _ => none) (maxLen + 2)
theorem callH_ok : RunOk Try.prog tab callH := run_sound mixed fnsOk (fun g args mem rs ts mem' h => by cases h) _
theorem blk_below {w w' : World} {k : Nat} {o : Obj} (h : w.heap[k]? = some o) (hb : Below w.heap.size w w') : w'.heap[k]? = some o := (hb.block k (Array.getElem?_eq_some_iff.1 h).1).trans h
theorem blk_new (w : World) (o : Obj) : (w.alloc o).heap[w.heap.size]? = some o := World.alloc_heap_new w _
theorem blk_alloc {w : World} {k : Nat} {o : Obj} (h : w.heap[k]? = some o) (o' : Obj) : (w.alloc o').heap[k]? = some o := blk_below h (((Below.refl _ w).alloc (Nat.le_refl _) _))
set_option maxRecDepth 100000 in
set_option maxHeartbeats 8000000 in
theorem consumed_calls (b : IV) (v0 v1 : Value) (A : Option Addr) (c1 : Nat) (S : Nat → Bool) (a2 : Int) (w : World) (E0 : Nat → Prop) (hE : ∀ b, E0 b → b < w.heap.size) (hrep : Rep tab w E0 29 b [v0, v1]) (hok : Ok b) (hfd : FD b = true) (hz : (asL (fld b 1)).length ≤ 1000000)
    (hr : ∀ j, j < (asL (fld b 1)).length → ∃ ad, A = some ad ∧ w.cell? (ad.add j) = some (.bool (S j))) :
    Calls Try.prog 82 #[.agg #[v0, v1], .slice A (asL (fld b 1)).length c1, .int .i64 a2] w fun e w' => e = .returned (.bool (CNf b S a2)) ∧ Below w.heap.size w w' := by
  obtain ⟨len, hlen⟩ : ∃ len, (asL (fld b 1)).length = len := ⟨_, rfl⟩
  rw [hlen] at hr hz ⊢
  refine callsIn_wide.1 (callsIn_of_wp_marks (n := 10) Try.func82 rfl trivial ?_ rfl)
  simp only [Try.ntmps82, List.size_toArray, List.length_cons, List.length_nil, Nat.reduceAdd, Nat.reduceSub, Array.replicate_succ, Array.replicate_zero, List.push_toArray, List.append_toArray, List.nil_append, List.cons_append]
  have f1 : Fence.wide.fn 84 := trivial
  gi_wp2_with (gi_at_call 84; refine (marked_in Fence.wide _ trivial rfl _ _ _ _).mono ?_; rintro e w' ⟨rfl, rfl⟩)
  have hsz : ((((w.alloc (Obj.cells #[v0, v1] 29)).alloc (Obj.cells #[Value.int IntKind.i64 a2] 3)).alloc (Obj.cells #[Value.bool false] 4)).alloc (.cells #[.slice A len c1] 51)).heap.size = w.heap.size + 4 := by simp
  have hB0 : Below w.heap.size w ((((w.alloc (Obj.cells #[v0, v1] 29)).alloc (Obj.cells #[Value.int IntKind.i64 a2] 3)).alloc (Obj.cells #[Value.bool false] 4)).alloc (.cells #[.slice A len c1] 51)) := ((((Below.refl _ w).alloc (Nat.le_refl _) _).alloc (by simp) _).alloc (by simp; omega) _).alloc (by simp; omega) _
  have b3 := blk_alloc (blk_alloc (blk_alloc (blk_new w (Obj.cells #[v0, v1] 29)) (Obj.cells #[Value.int IntKind.i64 a2] 3)) (Obj.cells #[Value.bool false] 4)) (.cells #[.slice A len c1] 51)
  have b5 := ((Boxed.new (w.alloc (Obj.cells #[v0, v1] 29)) 3 (Value.int IntKind.i64 a2)).alloc (Obj.cells #[Value.bool false] 4)).alloc (.cells #[.slice A len c1] 51)
  have b6 := (Boxed.new ((w.alloc (Obj.cells #[v0, v1] 29)).alloc (Obj.cells #[Value.int IntKind.i64 a2] 3)) 4 (Value.bool false)).alloc (.cells #[.slice A len c1] 51)
  have b7 := Boxed.new (((w.alloc (Obj.cells #[v0, v1] 29)).alloc (Obj.cells #[Value.int IntKind.i64 a2] 3)).alloc (Obj.cells #[Value.bool false] 4)) 51 (.slice A len c1)
  simp only [World.size_alloc] at b5 b6 b7
  obtain ⟨W0, hW0⟩ : ∃ W0, ((((w.alloc (Obj.cells #[v0, v1] 29)).alloc (Obj.cells #[Value.int IntKind.i64 a2] 3)).alloc (Obj.cells #[Value.bool false] 4)).alloc (.cells #[.slice A len c1] 51)) = W0 := ⟨_, rfl⟩
  rw [hW0] at hsz hB0 b3 b5 b6 b7 ⊢
  clear hW0
  refine wpIn_rangeFunc_ownH rfl (by decide) (gf := 91) (lb := #[.pointer (some ⟨w.heap.size + 1 + 1 + 1, 0, none⟩)]) rfl trivial (fun args w' => enters_ Try.func91 (by kernel_rfl) rfl args w')
    (mk_stops Fence.wide _ trivial rfl (by decide) (w.heap.size + 1 + 1 + 1) w A c1 len S hr hz W0 (by omega) b7.cell hB0) belowK_t (belowK_b (by omega)) (Below.refl _ _) (fun _ => rfl)
    (ICu w #[v0, v1] b a2)
    (IXu w b a2)
    (OwnFrom.and (OwnFrom.and (OwnFrom.and (Own.from (blk_own _ _ _) _) (Own.from (boxed_own _ _ _) _)) (Own.from (boxed_own _ _ _) _)) (OwnFrom.and (ownFrom_below (Nat.le_refl _) (by omega)) (ownFrom_pure _ _)))
    (fun c => OwnFrom.and (Own.from (boxed_own _ _ _) _) (OwnFrom.and (ownFrom_below (Nat.le_refl _) (by omega)) (ownFrom_pure _ _)))
    ⟨⟨⟨b3, b5⟩, b6⟩, hB0, rfl⟩
    (fun x a' _ => a' = { tmps := #[Value.agg #[v0, v1], Value.slice A len c1, Value.int IntKind.i64 a2, Value.pointer (some { block := w.heap.size, off := 0 }), undef, Value.pointer (some { block := w.heap.size + 1, off := 0 }), Value.pointer (some { block := w.heap.size + 1 + 1, off := 0 }), .int .i64 ((x.val : Nat) : Int), Value.slice A len c1, Value.func (Fn.func 91) #[] #[Value.pointer (some { block := w.heap.size + 1 + 1 + 1, off := 0 })], .int .i64 ((x.val : Nat) : Int), undef, undef, undef, undef, undef, undef, undef, undef], defers := [] })
    (fun x a' s X Y row hs hg hr => hs)
    ?assign ?body ?done ?stop
  case assign =>
    rintro l pre x W K hI hK
    gi_wp2
    exact hK _ _ (KeepsFrom.refl _ _) (Below.refl _ _) hI rfl
  case body =>
    rintro l pre x a' W hl ⟨lr, hlr⟩ ⟨⟨⟨h3, h5⟩, h6⟩, hBW, hpre⟩ rfl hlt
    obtain ⟨bs, hbs⟩ : ∃ bs : List Nat, bs = [w.heap.size + 1 + 1] := ⟨_, rfl⟩
    obtain ⟨LS, hLS⟩ : ∃ LS : List (Nat × SV), LS = [(3, .v (.a (.pv 1 29 b))), (5, .v (.a (.pv 1 3 (.I a2)))), (6, .v (.a (.ptr 0 [] 4))), (7, .v (.a (.int .i64 ((x.val : Nat) : Int))))] := ⟨_, rfl⟩
    have hWs : w.heap.size + 1 + 1 < W.heap.size := (Array.getElem?_eq_some_iff.1 h6).1
    refine round_body (B := w.heap.size) (bs := bs) (S := fun k => k < w.heap.size + 1 + 1) (fx := fxB) (call := callH) (k := maxLen + 2) (cur := 0) (st := ⟨envU 19 LS, [some (.box true 4 [] (.a (.bool false)))]⟩) (R := fun e s => if hitB b a2 x.val = true then e = .ret ∧ s.row 0 = some (.box true 4 [] (.a (.bool true))) else e = .normal ∧ s.row 0 = some (.box true 4 [] (.a (.bool false)))) tabOk mixed callH_ok ?_ ?_ ?_ ?_ ?_ (by kernel_rfl) ?_ ?_ ?_ rfl ?_ ?_ ?_ ?_
    · intro k hk; subst hbs; simp only [List.mem_singleton]; omega
    · intro k hk; subst hbs; simp only [List.mem_singleton] at hk; subst hk; omega
    · omega
    · subst hbs; simp
    · intro k hk o ho; subst hbs; simp only [List.mem_singleton] at hk; subst hk
      have : W.heap[w.heap.size + 1 + 1]? = some (.cells #[.bool false] 4 (0, 0)) := h6
      rw [this] at ho; cases ho; rfl
    · rintro ⟨a1, w1, h⟩; exact h
    · refine rn ?_
      have hi : x.val < (asL (fld b 1)).length := by rw [hlen]; exact x.isLt
      have hi2 : x.val < len := x.isLt
      have hcl : Ok (fld ((asL (fld b 1)).getD x.val .N) 1) := ok_fld (ok_getD (ok_fld hok))
      have hans := has_ans (fun _ _ _ => none) (maxLen + 2) (fld ((asL (fld b 1)).getD x.val .N) 1) a2 1 (Nat.le_refl _) hcl
      obtain ⟨st, hst⟩ : ∃ st : St, st = ⟨envU 19 LS, [some (.box true 4 [] (.a (.bool false)))]⟩ := ⟨_, rfl⟩
      have hn : st.env.length = 19 := by rw [hst]; exact envU_len _
      have g3 : st.get (.tmp 3) = .v (.a (.pv 1 29 b)) := by rw [hst, hLS]; rfl
      have g5 : st.get (.tmp 5) = .v (.a (.pv 1 3 (.I a2))) := by rw [hst, hLS]; rfl
      have g6 : st.get (.tmp 6) = .v (.a (.ptr 0 [] 4)) := by rw [hst, hLS]; rfl
      have g7 : st.get (.tmp 7) = .v (.a (.int .i64 ((x.val : Nat) : Int))) := by rw [hst, hLS]; rfl
      have r0 : st.row 0 = some (.box true 4 [] (.a (.bool false))) := by rw [hst]; rfl
      rw [← hst]
      clear hst
      unfold callH hitB
      simp (maxDischargeDepth := 9) only [go_sem, Nat.reduceMul, Nat.reduceAdd, Nat.reduceLeDiff, Int.reduceSub, Int.reduceNeg, Int.reduceLT, Int.reduceLE, Int.reduceEq, *, hiB, hans]
      repeat' (first | (with_reducible refine condLt (fun h h' => ?_) (fun h h' => ?_)) | (with_reducible refine condLe (fun h h' => ?_) (fun h h' => ?_)) | (with_reducible refine dop_val ?_) | (with_reducible refine YsLt (fun h h' => ?_) (fun h h' => ?_)) | (with_reducible refine YsLe (fun h h' => ?_) (fun h h' => ?_)) | (with_reducible refine condP (fun h => ?_) (fun h => ?_)) | (with_reducible refine condN (fun h => ?_) (fun h => ?_)) | (with_reducible refine condB (fun h => ?_) (fun h => ?_)) | (with_reducible refine condR (fun h => ?_) (fun h => ?_)) | (with_reducible refine YsB (fun h => ?_) (fun h => ?_)) | (with_reducible refine YsC (fun h => ?_) (fun h => ?_)) | (with_reducible refine Ys_ite (fun h => ?_) (fun h => ?_)) | (intro h) | (with_reducible refine draw_look (by kernel_rfl) (by kernel_rfl) ?_) | (simp (maxDischargeDepth := 9) only [go_sem, Nat.reduceMul, Nat.reduceAdd, Nat.reduceLeDiff, Int.reduceSub, Int.reduceNeg, Int.reduceLT, Int.reduceLE, Int.reduceEq, *, hiB, hans]) | (exfalso; omega))
      trace_state
    · simp [envU_len]
    · intro i
      have hrepW : Rep tab W ((bCx Try.prog tab W (fun k => k < w.heap.size + 1 + 1) bs).E (bNm bs) 1) 29 b [v0, v1] := Rep.mono (fun k hk => Or.inl (by have := hE k hk; show k < w.heap.size + 1 + 1; omega)) (fun k hk => hBW.block k (hE k hk)) hrep
      show Slot _ _ _ W ((envU 19 LS).getD i U) _
      rcases envU_get (n := 19) (i := i) LS with h | ⟨q, hq, h1, h2⟩
      · rw [h]; exact fun hu => by cases hu
      · rw [h2]
        subst h1
        rw [hLS] at hq
        simp only [List.mem_cons, List.not_mem_nil, or_false] at hq
        rcases hq with rfl | rfl | rfl | rfl
        · refine fun _ => ⟨[.pointer (some ⟨w.heap.size, 0, none⟩)], ⟨w.heap.size, 0, [v0, v1], rfl, hrepW, Or.inl (show w.heap.size < w.heap.size + 1 + 1 by omega), fun j u hj => ?_⟩, rfl⟩
          rw [blk_cell h3]; simpa using hj
        · refine fun _ => ⟨[.pointer (some ⟨w.heap.size + 1, 0, none⟩)], ⟨w.heap.size + 1, 0, [.int .i64 a2], rfl, Rep.int ty3, Or.inl (show w.heap.size + 1 < w.heap.size + 1 + 1 by omega), fun j u hj => ?_⟩, rfl⟩
          have h5' : W.heap[w.heap.size + 1]? = some (.cells #[.int .i64 a2] 3 (0, 0)) := h5
          rw [blk_cell h5']; simpa using hj
        · exact fun _ => ⟨[.pointer (some ⟨w.heap.size + 1 + 1, 0, none⟩)], ⟨w.heap.size + 1 + 1, 0, .box 4, rfl, rfl, by rw [hbs]; rfl, rfl⟩, rfl⟩
        · exact fun _ => ⟨[.int .i64 ((x.val : Nat) : Int)], rfl, rfl⟩
    · intro j r hj
      match j, hj with
      | 0, hj =>
        have : r = .box true 4 [] (.a (.bool false)) := (Option.some.inj hj).symm
        subst this
        exact ⟨w.heap.size + 1 + 1, [.bool false], by rw [hbs]; rfl, h6, ⟨rfl, fun _ => by rfl, rfl, fun u hu => by simp at hu; subst hu; rfl⟩, (by rw [show (bCx Try.prog tab W (fun k => k < w.heap.size + 1 + 1) bs).T.ty 4 = .bool from ty4]; exact fun h => (by cases h)), fun _ => rfl⟩
      | j + 1, hj => cases j <;> cases hj
    · intro j hj
      match j, hj with
      | 0, hj => rw [hbs]; exact Nat.zero_lt_one
      | j + 1, hj => cases j <;> cases hj
    · intro e st' N' a' W' hR hK hB hkeep hrel
      have hB2 : Below w.heap.size w W' := hBW.trans hB
      have hK2 : KeepsFrom W0.heap.size W W' := ⟨hK.size, fun k o hk h1 h2 => hK.same k o (by omega) h1 h2⟩
      have hbox : ∀ v : Bool, st'.row 0 = some (.box true 4 [] (.a (.bool v))) → Boxed W' (w.heap.size + 1 + 1) 4 (.bool v) := by
        intro v hv
        obtain ⟨b', cs, hβ, hheap, hV, _, hx⟩ := hrel.rows 0 _ hv
        have hβ2 := hx rfl
        have hb0 : bβ bs 0 = .pointer (some ⟨w.heap.size + 1 + 1, 0, none⟩) := by rw [hbs]; rfl
        have hβ3 : (Value.pointer (some ⟨b', 0, none⟩)) = .pointer (some ⟨w.heap.size + 1 + 1, 0, none⟩) := hβ.symm.trans (hβ2.trans hb0)
        have : b' = w.heap.size + 1 + 1 := by injection hβ3 with h; injection h with h; injection h
        subst this
        have hcs : cs = [.bool v] := hV.1
        subst hcs
        exact hheap
      by_cases hh : hitB b a2 x.val = true
      · rw [if_pos hh] at hR
        obtain ⟨rfl, hrow⟩ := hR
        exact ⟨hK2, hbox true hrow, hB2, rfl, by simp [hh]⟩
      · rw [if_neg hh] at hR
        obtain ⟨rfl, hrow⟩ := hR
        have hk3 : W'.heap[w.heap.size]? = some (.cells #[v0, v1] 29 (0, 0)) := (hkeep _ (by omega) (by rw [hbs, List.mem_singleton]; omega)).trans h3
        have hk5 : Boxed W' (w.heap.size + 1) 3 (.int .i64 a2) := (hkeep _ (by omega) (by rw [hbs, List.mem_singleton]; omega)).trans h5
        exact ⟨hK2, hB, ⟨⟨⟨hk3, hk5⟩, hbox false hrow⟩, hB2, by simp [hpre, hh]⟩⟩
  case done =>
    rintro D zs W hD rfl ⟨⟨⟨h3, h5⟩, h6⟩, hBW, hp⟩ hK
    have c6 := h6.cell
    have f6 := h6.frozen
    gi_wp2
    have hc2 : (W.setCell ⟨w.heap.size + 1 + 1, 0, none⟩ (.bool false)).cell? ⟨w.heap.size + 1 + 1, 0, none⟩ = some (.bool false) := (Boxed.set _ h6).cell
    refine ⟨by simp, .inl ⟨_, _, rfl, run_takeDeferred ((KeepsOthers.setCell W ⟨w.heap.size + 1 + 1, 0, none⟩ _).same _ _ hK rfl), ?_⟩⟩
    rw [mkS_any (q := hitB b a2)] at hp
    refine ⟨.bool false, ?_, by rw [CNf, hlen]; rw [← hp]; rfl, (below_set hBW (by omega)).trans (belowK_b (w := w) (Nat.le_refl _) _ D _ _ (by omega) ((KeepsOthers.setCell W ⟨w.heap.size + 1 + 1, 0, none⟩ _).same _ _ hK rfl) rfl rfl)⟩
    have hc3 : ((W.setCell ⟨w.heap.size + 1 + 1, 0, none⟩ (.bool false)).putObj D (.deferred none)).cell? ⟨w.heap.size + 1 + 1, 0, none⟩ = some (.bool false) := (blk_cell ((World.putObj_heap_other (by omega)).trans (Boxed.set (.bool false) h6)) 0).trans rfl
    simp [results, show Try.f82.results = #[.cell 6 4] from rfl, asAddr, loadVar, go_sem, hc3, Try.underlying4]
  case stop =>
    rintro D c pre W hD hpre ⟨h6, hBW, rfl, hp⟩ hK
    have c6 := h6.cell
    gi_wp2
    have hany : (mkS len S).any (fun i => hitB b a2 i.val) = true := by
      obtain ⟨t, ht⟩ := hpre
      rw [← ht, List.any_append, hp]; rfl
    rw [mkS_any (q := hitB b a2)] at hany
    refine ⟨by simp, .inl ⟨_, _, rfl, run_takeDeferred hK, ?_⟩⟩
    refine ⟨.bool true, ?_, by rw [CNf, hlen]; rw [← hany]; rfl, hBW.trans (belowK_b (w := w) (Nat.le_refl _) _ D _ _ (by omega) hK rfl rfl)⟩
    have hc3 : (W.putObj D (.deferred none)).cell? ⟨w.heap.size + 1 + 1, 0, none⟩ = some (.bool true) := (blk_cell ((World.putObj_heap_other (by omega)).trans h6) 0).trans rfl
    simp [results, show Try.f82.results = #[.cell 6 4] from rfl, asAddr, loadVar, go_sem, hc3, Try.underlying4]
end Go.Proofs.Ytficdonjodadlaa.Mk
end
section
set_option linter.unusedVariables false
set_option linter.unusedSimpArgs false
namespace Go.Proofs.Ytficdonjodadlaa.Mk
open Go.RowKit Go.Proofs Go.Ev
attribute [local go_sem] Oper.semAt_some
def clB2 (b : IV) (e f : Nat) : Bool := !decide (e = f) && (asL (fld ((asL (fld b 1)).getD e .N) 1)).any fun x => (asL (fld ((asL (fld b 1)).getD f .N) 1)).any fun y => decide (asI y = asI x)
section
variable (w : World) (cs3 : Array Value) (vy : Value) (b : IV) (len : Nat) (Y : Nat → Bool)
def ID (W : World) (v : Bool) : Prop := (W.heap[w.heap.size]? = some (.cells cs3 29 (0, 0)) ∧ Boxed W (w.heap.size + 1) 51 vy) ∧ Boxed W (w.heap.size + 1 + 1) 4 (.bool v)
def I1 (pre : List (Fin len)) (W : World) : Prop := ID w cs3 vy W false ∧ Below w.heap.size w W ∧ pre.any (fun e => (mkS len Y).any fun f => clB2 b e.val f.val) = false
def X1 (c : Code) (pre : List (Fin len)) (W : World) : Prop := Boxed W (w.heap.size + 1 + 1) 4 (.bool true) ∧ Below w.heap.size w W ∧ (c = .ret ∧ pre.any (fun e => (mkS len Y).any fun f => clB2 b e.val f.val) = true)
def I2 (W0 W1 : World) (Bx e : Nat) (pre : List (Fin len)) (W : World) : Prop := (ID w cs3 vy W false ∧ Boxed W Bx 3 (.int .i64 (e : Int))) ∧ (Below w.heap.size W1 W ∧ KeepsFrom W0.heap.size W1 W) ∧ pre.any (fun f => clB2 b e f.val) = false
def X2 (W0 W1 : World) (e : Nat) (c : Code) (pre : List (Fin len)) (W : World) : Prop := Boxed W (w.heap.size + 1 + 1) 4 (.bool true) ∧ (Below w.heap.size W1 W ∧ KeepsFrom W0.heap.size W1 W) ∧ (c = .ret ∧ pre.any (fun f => clB2 b e f.val) = true)
variable {w cs3 vy b len Y}
theorem ID.own {β : Type} (v : Bool) (B : Nat) : OwnFrom B (fun (_ : β) W => ID w cs3 vy W v) := OwnFrom.and (OwnFrom.and (Own.from (blk_own _ _ _) _) (Own.from (boxed_own _ _ _) _)) (Own.from (boxed_own _ _ _) _)
theorem I1.own {W0 : World} (h : w.heap.size ≤ W0.heap.size) : OwnFrom W0.heap.size (I1 w cs3 vy b len Y) := OwnFrom.and (ID.own _ _) (OwnFrom.and (ownFrom_below (Nat.le_refl _) h) (ownFrom_pure _ _))
theorem X1.own {W0 : World} (h : w.heap.size ≤ W0.heap.size) (c : Code) : OwnFrom W0.heap.size (X1 w b len Y c) := OwnFrom.and (Own.from (boxed_own _ _ _) _) (OwnFrom.and (ownFrom_below (Nat.le_refl _) h) (ownFrom_pure _ _))
theorem I2.own {W0 W1 W2 : World} {Bx e : Nat} (h : w.heap.size ≤ W1.heap.size) (h2 : w.heap.size ≤ W2.heap.size) (h3 : W1.heap.size ≤ W2.heap.size) : OwnFrom W2.heap.size (I2 w cs3 vy b len W0 W1 Bx e) :=
  OwnFrom.and (OwnFrom.and (ID.own _ _) (Own.from (boxed_own _ _ _) _)) (OwnFrom.and (OwnFrom.and (ownFrom_below h h2) (ownFrom_keepsFrom h3)) (ownFrom_pure _ _))
theorem X2.own {W0 W1 W2 : World} {e : Nat} (h : w.heap.size ≤ W1.heap.size) (h2 : w.heap.size ≤ W2.heap.size) (h3 : W1.heap.size ≤ W2.heap.size) (c : Code) : OwnFrom W2.heap.size (X2 w b len W0 W1 e c) :=
  OwnFrom.and (Own.from (boxed_own _ _ _) _) (OwnFrom.and (OwnFrom.and (ownFrom_below h h2) (ownFrom_keepsFrom h3)) (ownFrom_pure _ _))
end
theorem cl_any {b : IV} {len : Nat} {X Y : Nat → Bool} (hlen : (asL (fld b 1)).length = len) : CLf b X Y = (mkS len X).any fun e => (mkS len Y).any fun f => clB2 b e.val f.val := by
  have h : (fun e : Fin len => (mkS len Y).any fun f => clB2 b e.val f.val) = fun e : Fin len => (fun i : Nat => (List.range len).any fun k => Y k && clB2 b i k) e.val := by
    funext e; exact mkS_any (q := fun k => clB2 b e.val k)
  rw [h, mkS_any (q := fun i : Nat => (List.range len).any fun k => Y k && clB2 b i k)]
  unfold CLf clB2
  rw [hlen]
  congr 1; funext i
  rw [Bool.eq_iff_iff]
  simp only [List.any_eq_true, Bool.and_eq_true]
  constructor
  · rintro ⟨k, hk, ⟨⟨h1, h2⟩, h3⟩, h4⟩; exact ⟨h2, k, hk, h3, h1, h4⟩
  · rintro ⟨h2, k, hk, h3, h1, h4⟩; exact ⟨k, hk, ⟨⟨h1, h2⟩, h3⟩, h4⟩
set_option maxRecDepth 100000 in
set_option maxHeartbeats 8000000 in
theorem clash_calls (b : IV) (v0 v1 : Value) (A1 A2 : Option Addr) (c1 c2 : Nat) (X Y : Nat → Bool) (w : World) (E0 : Nat → Prop) (hE : ∀ b, E0 b → b < w.heap.size) (hrep : Rep tab w E0 29 b [v0, v1]) (hok : Ok b) (hfd : FD b = true) (hz : (asL (fld b 1)).length ≤ 1000000)
    (hr1 : ∀ j, j < (asL (fld b 1)).length → ∃ ad, A1 = some ad ∧ w.cell? (ad.add j) = some (.bool (X j)))
    (hr2 : ∀ j, j < (asL (fld b 1)).length → ∃ ad, A2 = some ad ∧ w.cell? (ad.add j) = some (.bool (Y j))) :
    Calls Try.prog 59 #[.agg #[v0, v1], .slice A1 (asL (fld b 1)).length c1, .slice A2 (asL (fld b 1)).length c2] w fun e w' => e = .returned (.bool (CLf b X Y)) ∧ Below w.heap.size w w' := by
  obtain ⟨len, hlen⟩ : ∃ len, (asL (fld b 1)).length = len := ⟨_, rfl⟩
  rw [hlen] at hr1 hr2 hz ⊢
  have f1 : Fence.wide.fn 84 := trivial
  have HL2 := Aside.mk hr2
  clear hr2
  refine callsIn_wide.1 (callsIn_of_wp_marks (n := 20) Try.func59 rfl trivial ?_ rfl)
  simp only [Try.ntmps59, List.size_toArray, List.length_cons, List.length_nil, Nat.reduceAdd, Nat.reduceSub, Array.replicate_succ, Array.replicate_zero, List.push_toArray, List.append_toArray, List.nil_append, List.cons_append]
  gi_wp2_with (gi_at_call 84; refine (marked_in Fence.wide _ trivial rfl _ _ _ _).mono ?_; rintro e w' ⟨rfl, rfl⟩)
  have hsz : ((((w.alloc (Obj.cells #[v0, v1] 29)).alloc (Obj.cells #[.slice A2 len c2] 51)).alloc (Obj.cells #[Value.bool false] 4)).alloc (.cells #[.slice A1 len c1] 51)).heap.size = w.heap.size + 4 := by simp
  have hB0 : Below w.heap.size w ((((w.alloc (Obj.cells #[v0, v1] 29)).alloc (Obj.cells #[.slice A2 len c2] 51)).alloc (Obj.cells #[Value.bool false] 4)).alloc (.cells #[.slice A1 len c1] 51)) := ((((Below.refl _ w).alloc (Nat.le_refl _) _).alloc (by simp) _).alloc (by simp; omega) _).alloc (by simp; omega) _
  have b3 := blk_alloc (blk_alloc (blk_alloc (blk_new w (Obj.cells #[v0, v1] 29)) (Obj.cells #[.slice A2 len c2] 51)) (Obj.cells #[Value.bool false] 4)) (.cells #[.slice A1 len c1] 51)
  have b5 := ((Boxed.new (w.alloc (Obj.cells #[v0, v1] 29)) 51 (.slice A2 len c2)).alloc (Obj.cells #[Value.bool false] 4)).alloc (.cells #[.slice A1 len c1] 51)
  have b6 := (Boxed.new ((w.alloc (Obj.cells #[v0, v1] 29)).alloc (Obj.cells #[.slice A2 len c2] 51)) 4 (Value.bool false)).alloc (.cells #[.slice A1 len c1] 51)
  have b7 := Boxed.new (((w.alloc (Obj.cells #[v0, v1] 29)).alloc (Obj.cells #[.slice A2 len c2] 51)).alloc (Obj.cells #[Value.bool false] 4)) 51 (.slice A1 len c1)
  simp only [World.size_alloc] at b5 b6 b7
  obtain ⟨W0, hW0⟩ : ∃ W0, ((((w.alloc (Obj.cells #[v0, v1] 29)).alloc (Obj.cells #[.slice A2 len c2] 51)).alloc (Obj.cells #[Value.bool false] 4)).alloc (.cells #[.slice A1 len c1] 51)) = W0 := ⟨_, rfl⟩
  rw [hW0] at hsz hB0 b3 b5 b6 b7 ⊢
  clear hW0
  refine wpIn_rangeFunc_ownH rfl (by decide) (gf := 91) (lb := #[.pointer (some ⟨w.heap.size + 1 + 1 + 1, 0, none⟩)]) rfl trivial (fun args w' => enters_ Try.func91 (by kernel_rfl) rfl args w')
    (mk_stops Fence.wide _ trivial rfl (by decide) (w.heap.size + 1 + 1 + 1) w A1 c1 len X hr1 hz W0 (by omega) b7.cell hB0) belowK_t (belowK_b (by omega)) (Below.refl _ _) (fun _ => rfl)
    (I1 w #[v0, v1] (.slice A2 len c2) b len Y)
    (X1 w b len Y)
    (I1.own (by omega)) (X1.own (by omega))
    ⟨⟨⟨b3, b5⟩, b6⟩, hB0, rfl⟩
    (fun x a' W => ∃ Bx, w.heap.size + 1 + 1 < Bx ∧ Boxed W Bx 3 (.int .i64 ((x.val : Nat) : Int)) ∧ a' = { tmps := #[Value.agg #[v0, v1], Value.slice A1 len c1, Value.slice A2 len c2, Value.pointer (some { block := w.heap.size, off := 0 }), undef, Value.pointer (some { block := w.heap.size + 1, off := 0 }), Value.pointer (some { block := w.heap.size + 1 + 1, off := 0 }), .pointer (some ⟨Bx, 0, none⟩), undef, undef, undef, Value.slice A1 len c1, Value.func (Fn.func 91) #[] #[Value.pointer (some { block := w.heap.size + 1 + 1 + 1, off := 0 })], .int .i64 ((x.val : Nat) : Int), undef, undef, undef, undef, undef, undef, undef, undef, undef, undef, undef, undef, undef, undef, undef, undef, undef, undef, undef, undef, undef, undef, undef, undef, undef, undef], defers := [] })
    (fun x a' _ X Y row hs hg hr => by obtain ⟨Bx, h1, h2, h3⟩ := hs; exact ⟨Bx, h1, boxed_own Bx 3 (fun (_ : Unit) => Value.int .i64 ((x.val : Nat) : Int)) () X Y row h2 hg (fun r e => (hr r e).2), h3⟩)
    ?assign ?body ?done ?stop
  case assign =>
    rintro l pre x W K ⟨⟨⟨h3, h5⟩, h6⟩, hB1, hp⟩ hK
    gi_wp2
    exact hK _ _ ((KeepsOthers.alloc _ _).from _) ((Below.refl _ W).alloc hB1.size _) ⟨⟨⟨blk_alloc h3 _, h5.alloc _⟩, h6.alloc _⟩, hB1.alloc hB1.size _, hp⟩ ⟨W.heap.size, h6.lt, Boxed.new W 3 _, rfl⟩
  case body =>
    rintro l pre x a' W hl ⟨lr, hlr⟩ ⟨⟨⟨h3, h5⟩, h6⟩, hBW, hpre⟩ ⟨Bx, hBx, bX, rfl⟩ hlt
    have c5 := h5.cell
    have h1' : 1 ≤ 20 - 1 - 1 := by omega
    have HPRE := Aside.mk hpre
    clear hpre
    gi_wp2_with (gi_at_call 84; refine (CallsIn.inRound l (marked_in Fence.wide _ trivial rfl _ _ _ _)).mono ?_; rintro e w' ⟨rfl, rfl⟩)
    have hsW := hBW.size
    have bN := Boxed.new W 51 (.slice A2 len c2)
    have hr' : (W.alloc (.cells #[.slice A2 len c2] 51)).heap[l]? = some (.loop lr) := (Below.heap_alloc W _ l (Array.getElem?_eq_some_iff.1 hlr).1).trans hlr
    obtain ⟨W1, hW1⟩ : ∃ W1, W.alloc (.cells #[.slice A2 len c2] 51) = W1 := ⟨_, rfl⟩
    have hWW1 : Below w.heap.size W W1 := by rw [← hW1]; exact (Below.refl _ W).alloc hsW _
    have hKW1 : KeepsFrom W0.heap.size W W1 := by rw [← hW1]; exact (KeepsOthers.alloc _ _).from _
    have hs1 : W1.heap.size = W.heap.size + 1 := by rw [← hW1]; simp
    have i3 : W1.heap[w.heap.size]? = some (.cells #[v0, v1] 29 (0, 0)) := by rw [← hW1]; exact blk_alloc h3 _
    have i5 : Boxed W1 (w.heap.size + 1) 51 (.slice A2 len c2) := by rw [← hW1]; exact h5.alloc _
    have i6 : Boxed W1 (w.heap.size + 1 + 1) 4 (.bool false) := by rw [← hW1]; exact h6.alloc _
    have iX : Boxed W1 Bx 3 (.int .i64 ((x.val : Nat) : Int)) := by rw [← hW1]; exact bX.alloc _
    rw [hW1] at bN hr' ⊢
    refine wpIn_rangeFunc_ownN (F := Fence.wide.inRound l) rfl hr' h1' (gf := 91) (lb := #[.pointer (some ⟨W.heap.size, 0, none⟩)]) rfl trivial (fun args w' => enters_ Try.func91 (by kernel_rfl) rfl args w')
      ((mk_stops Fence.wide _ trivial rfl (by decide) W.heap.size w A2 c2 len Y HL2.out hz W1 (by omega) bN.cell (hBW.trans hWW1)).inRound l) belowK_t (belowK_b (by omega)) (Below.refl _ _) (fun _ => rfl)
      (I2 w #[v0, v1] (.slice A2 len c2) b len W0 W1 Bx x.val) (X2 w b len W0 W1 x.val)
      (I2.own (by omega) (by omega) (Nat.le_refl _)) (X2.own (by omega) (by omega) (Nat.le_refl _))
      ⟨⟨⟨⟨i3, i5⟩, i6⟩, iX⟩, ⟨Below.refl _ _, KeepsFrom.refl _ _⟩, rfl⟩
      (fun f a' _ => a' = { tmps := #[Value.agg #[v0, v1], Value.slice A1 len c1, Value.slice A2 len c2, Value.pointer (some { block := w.heap.size, off := 0 }), undef, Value.pointer (some { block := w.heap.size + 1, off := 0 }), Value.pointer (some { block := w.heap.size + 1 + 1, off := 0 }), Value.pointer (some { block := Bx, off := 0 }), .int .i64 ((f.val : Nat) : Int), undef, undef, Value.slice A1 len c1, Value.func (Fn.func 91) #[] #[Value.pointer (some { block := w.heap.size + 1 + 1 + 1, off := 0 })], .int .i64 ((x.val : Nat) : Int), Value.slice A2 len c2, Value.func (Fn.func 91) #[] #[Value.pointer (some { block := W.heap.size, off := 0 })], .int .i64 ((f.val : Nat) : Int), undef, undef, undef, undef, undef, undef, undef, undef, undef, undef, undef, undef, undef, undef, undef, undef, undef, undef, undef, undef, undef, undef, undef], defers := [] })
      (fun f a' s X Y row hs hg hr => hs)
      ?assign2 ?body2 ?done2 ?stop2
    case assign2 =>
      rintro l2 pre2 f W2 K hI hK
      gi_wp2
      exact hK _ _ (KeepsFrom.refl _ _) (Below.refl _ _) hI rfl
    case body2 =>
      rintro l2 pre2 f a' W2 hl2 ⟨lr2, hlr2⟩ ⟨⟨⟨⟨k3, k5⟩, k6⟩, kX⟩, ⟨hB2, hK2⟩, hp2⟩ rfl hlt2
      obtain ⟨bs, hbs⟩ : ∃ bs : List Nat, bs = [w.heap.size + 1 + 1] := ⟨_, rfl⟩
      obtain ⟨LS, hLS⟩ : ∃ LS : List (Nat × SV), LS = [(3, .v (.a (.pv 1 29 b))), (6, .v (.a (.ptr 0 [] 4))), (7, .v (.a (.pv 1 3 (.I ((x.val : Nat) : Int))))), (8, .v (.a (.int .i64 ((f.val : Nat) : Int))))] := ⟨_, rfl⟩
      have hWs : w.heap.size + 1 + 1 < W2.heap.size := (Array.getElem?_eq_some_iff.1 k6).1
      have hXs : Bx < W2.heap.size := (Array.getElem?_eq_some_iff.1 kX).1
      have hBw2 : Below w.heap.size w W2 := (hBW.trans hWW1).trans hB2
      refine round_body (B := w.heap.size) (bs := bs) (S := fun k => k < w.heap.size + 1 ∨ k = Bx) (fx := fxB) (call := callH) (k := maxLen + 2) (cur := 0) (st := ⟨envU 40 LS, [some (.box true 4 [] (.a (.bool false)))]⟩) (R := fun e s => if clB2 b x.val f.val = true then e = .ret ∧ s.row 0 = some (.box true 4 [] (.a (.bool true))) else e = .normal ∧ s.row 0 = some (.box true 4 [] (.a (.bool false)))) tabOk mixed callH_ok ?_ ?_ ?_ ?_ ?_ (by kernel_rfl) ?_ ?_ ?_ rfl ?_ ?_ ?_ ?_
      · intro k hk; subst hbs; simp only [List.mem_singleton]; rcases hk with hk | hk <;> omega
      · intro k hk; subst hbs; simp only [List.mem_singleton] at hk; subst hk; omega
      · omega
      · subst hbs; simp
      · intro k hk o ho; subst hbs; simp only [List.mem_singleton] at hk; subst hk
        have : W2.heap[w.heap.size + 1 + 1]? = some (.cells #[.bool false] 4 (0, 0)) := k6
        rw [this] at ho; cases ho; rfl
      · rintro ⟨a1, w1, h⟩; exact h
      · refine rn ?_
        have hi : x.val < len := x.isLt
        have hi2 : f.val < len := f.isLt
        have hle : Ok (fld ((asL (fld b 1)).getD x.val .N) 1) := ok_fld (ok_getD (ok_fld hok))
        have hcl : Ok (fld ((asL (fld b 1)).getD f.val .N) 1) := ok_fld (ok_getD (ok_fld hok))
        have hl2 := ok_len hle
        obtain ⟨st, hst⟩ : ∃ st : St, st = ⟨envU 40 LS, [some (.box true 4 [] (.a (.bool false)))]⟩ := ⟨_, rfl⟩
        have hn : st.env.length = 40 := by rw [hst]; exact envU_len _
        have g3 : st.get (.tmp 3) = .v (.a (.pv 1 29 b)) := by rw [hst, hLS]; rfl
        have g6 : st.get (.tmp 6) = .v (.a (.ptr 0 [] 4)) := by rw [hst, hLS]; rfl
        have g7 : st.get (.tmp 7) = .v (.a (.pv 1 3 (.I ((x.val : Nat) : Int)))) := by rw [hst, hLS]; rfl
        have g8 : st.get (.tmp 8) = .v (.a (.int .i64 ((f.val : Nat) : Int))) := by rw [hst, hLS]; rfl
        have r0 : st.row 0 = some (.box true 4 [] (.a (.bool false))) := by rw [hst]; rfl
        rw [← hst]
        clear hst
        generalize x.val = xe at *
        generalize f.val = fe at *
        unfold callH clB2
        by_cases hxf : xe = fe
        · subst hxf
          simp (maxDischargeDepth := 9) only [go_sem, Nat.reduceMul, Nat.reduceAdd, Nat.reduceLeDiff, Int.reduceSub, Int.reduceNeg, Int.reduceLT, Int.reduceLE, Int.reduceEq, *, hiB, clB]
        simp (maxDischargeDepth := 9) only [go_sem, Nat.reduceMul, Nat.reduceAdd, Nat.reduceLeDiff, Int.reduceSub, Int.reduceNeg, Int.reduceLT, Int.reduceLE, Int.reduceEq, *, hiB, clB]
        refine gen_st (fun s0 hg hr hn0 => ?_)
        have e3 := hg 3
        have e6 := hg 6
        have e8 := hg 8
        have e25 := hg 25
        have e26 := hg 26
        have e27 := hg 27
        have q0 := hr 0
        clear hg hr
        simp only [go_sem, *, hiB] at hn0 e3 e6 e8 e25 e26 e27 q0
        refine nr (runs_for (asL (fld ((asL (fld b 1)).getD xe .N) 1)) (fun (_ : Unit) y => if ((asL (fld ((asL (fld b 1)).getD fe .N) 1)).any fun z => decide (asI z = asI y)) = true then .ret true else .next ()) () 40 (fun i a => [(3, s0.get (.tmp 3)), (6, s0.get (.tmp 6)), (8, s0.get (.tmp 8)), (25, s0.get (.tmp 25)), (26, s0.get (.tmp 26)), (27, .v (.a (.int .i64 (i : Nat))))]) (fun i a => [(0, s0.row 0)]) (fun i a => True) (by omega) ?_ trivial ?_ ?_ ?_ ?_)
        · simp (maxDischargeDepth := 9) only [go_sem, Nat.reduceMul, Nat.reduceAdd, Nat.reduceLeDiff, Int.reduceSub, Int.reduceNeg, Int.reduceLT, Int.reduceLE, Int.reduceEq, *, hiB, clB]
        · intro i a; simp (maxDischargeDepth := 9) only [go_sem, Nat.reduceMul, Nat.reduceAdd, Nat.reduceLeDiff, Int.reduceSub, Int.reduceNeg, Int.reduceLT, Int.reduceLE, Int.reduceEq, *, hiB, clB]
        · intro i a; simp (maxDischargeDepth := 9) only [go_sem, Nat.reduceMul, Nat.reduceAdd, Nat.reduceLeDiff, Int.reduceSub, Int.reduceNeg, Int.reduceLT, Int.reduceLE, Int.reduceEq, *, hiB, clB]
        · intro i y a s hx hi9 hI hS
          clear hn0 e27
          simp only [go_sem] at hS
          obtain ⟨f3, f6, f8, f25, f26, f27, m0, hn⟩ := hS
          have hw := wrap_succ hi9 hl2
          have hans := has_ans (fun _ _ _ => none) (maxLen + 2) (fld ((asL (fld b 1)).getD fe .N) 1) (asI y) 1 (Nat.le_refl _) hcl
          refine rn ?_
          simp (maxDischargeDepth := 9) only [go_sem, Nat.reduceMul, Nat.reduceAdd, Nat.reduceLeDiff, Int.reduceSub, Int.reduceNeg, Int.reduceLT, Int.reduceLE, Int.reduceEq, *, hiB, clB, hans]
          repeat' (first | (with_reducible refine condLt (fun h h' => ?_) (fun h h' => ?_)) | (with_reducible refine condLe (fun h h' => ?_) (fun h h' => ?_)) | (with_reducible refine dop_val ?_) | (with_reducible refine YsLt (fun h h' => ?_) (fun h h' => ?_)) | (with_reducible refine YsLe (fun h h' => ?_) (fun h h' => ?_)) | (with_reducible refine condP (fun h => ?_) (fun h => ?_)) | (with_reducible refine condN (fun h => ?_) (fun h => ?_)) | (with_reducible refine condB (fun h => ?_) (fun h => ?_)) | (with_reducible refine condR (fun h => ?_) (fun h => ?_)) | (with_reducible refine YsB (fun h => ?_) (fun h => ?_)) | (with_reducible refine YsC (fun h => ?_) (fun h => ?_)) | (with_reducible refine Ys_ite (fun h => ?_) (fun h => ?_)) | (intro h) | (with_reducible refine draw_look (by kernel_rfl) (by kernel_rfl) ?_) | (simp (maxDischargeDepth := 9) only [go_sem, Nat.reduceMul, Nat.reduceAdd, Nat.reduceLeDiff, Int.reduceSub, Int.reduceNeg, Int.reduceLT, Int.reduceLE, Int.reduceEq, *, hiB, clB, hans]) | (exfalso; omega))
        · intro a s hI hf hS
          clear hn0 e27
          simp only [go_sem] at hS
          obtain ⟨f3, f6, f8, f25, f26, f27, m0, hn⟩ := hS
          try simp only [go_sem] at hf
          refine rn ?_
          simp (maxDischargeDepth := 9) only [go_sem, Nat.reduceMul, Nat.reduceAdd, Nat.reduceLeDiff, Int.reduceSub, Int.reduceNeg, Int.reduceLT, Int.reduceLE, Int.reduceEq, *, hiB, clB]
      · simp [envU_len]
      · intro i
        have hrepW : Rep tab W2 ((bCx Try.prog tab W2 (fun k => k < w.heap.size + 1 ∨ k = Bx) bs).E (bNm bs) 1) 29 b [v0, v1] := Rep.mono (fun k hk => Or.inl (Or.inl (by have := hE k hk; omega))) (fun k hk => hBw2.block k (hE k hk)) hrep
        show Slot _ _ _ W2 ((envU 40 LS).getD i U) _
        rcases envU_get (n := 40) (i := i) LS with h | ⟨q, hq, h1, h2⟩
        · rw [h]; exact fun hu => by cases hu
        · rw [h2]
          subst h1
          rw [hLS] at hq
          simp only [List.mem_cons, List.not_mem_nil, or_false] at hq
          rcases hq with rfl | rfl | rfl | rfl
          · refine fun _ => ⟨[.pointer (some ⟨w.heap.size, 0, none⟩)], ⟨w.heap.size, 0, [v0, v1], rfl, hrepW, Or.inl (Or.inl (by omega)), fun j u hj => ?_⟩, rfl⟩
            rw [blk_cell k3]; simpa using hj
          · exact fun _ => ⟨[.pointer (some ⟨w.heap.size + 1 + 1, 0, none⟩)], ⟨w.heap.size + 1 + 1, 0, .box 4, rfl, rfl, by rw [hbs]; rfl, rfl⟩, rfl⟩
          · refine fun _ => ⟨[.pointer (some ⟨Bx, 0, none⟩)], ⟨Bx, 0, [.int .i64 ((x.val : Nat) : Int)], rfl, Rep.int ty3, Or.inl (Or.inr rfl), fun j u hj => ?_⟩, rfl⟩
            have kX' : W2.heap[Bx]? = some (.cells #[.int .i64 ((x.val : Nat) : Int)] 3 (0, 0)) := kX
            rw [blk_cell kX']; simpa using hj
          · exact fun _ => ⟨[.int .i64 ((f.val : Nat) : Int)], rfl, rfl⟩
      · intro j r hj
        match j, hj with
        | 0, hj =>
          have : r = .box true 4 [] (.a (.bool false)) := (Option.some.inj hj).symm
          subst this
          exact ⟨w.heap.size + 1 + 1, [.bool false], by rw [hbs]; rfl, k6, ⟨rfl, fun _ => by rfl, rfl, fun u hu => by simp at hu; subst hu; rfl⟩, (by rw [show (bCx Try.prog tab W2 (fun k => k < w.heap.size + 1 ∨ k = Bx) bs).T.ty 4 = .bool from ty4]; exact fun h => (by cases h)), fun _ => rfl⟩
        | j + 1, hj => cases j <;> cases hj
      · intro j hj
        match j, hj with
        | 0, hj => rw [hbs]; exact Nat.zero_lt_one
        | j + 1, hj => cases j <;> cases hj
      · intro e st' N' a' W' hR hK hB hkeep hrel
        have hB3 : Below w.heap.size W1 W' := hB2.trans hB
        have hK3 : KeepsFrom W1.heap.size W2 W' := ⟨hK.size, fun k o hk h1 h2 => hK.same k o (by omega) h1 h2⟩
        have hK4 : KeepsFrom W0.heap.size W1 W' := hK2.trans ⟨hK.size, fun k o hk h1 h2 => hK.same k o (by omega) h1 h2⟩
        have hbox : ∀ v : Bool, st'.row 0 = some (.box true 4 [] (.a (.bool v))) → Boxed W' (w.heap.size + 1 + 1) 4 (.bool v) := by
          intro v hv
          obtain ⟨b', cs, hβ, hheap, hV, _, hx⟩ := hrel.rows 0 _ hv
          have hβ2 := hx rfl
          have hb0 : bβ bs 0 = .pointer (some ⟨w.heap.size + 1 + 1, 0, none⟩) := by rw [hbs]; rfl
          have hβ3 : (Value.pointer (some ⟨b', 0, none⟩)) = .pointer (some ⟨w.heap.size + 1 + 1, 0, none⟩) := hβ.symm.trans (hβ2.trans hb0)
          have : b' = w.heap.size + 1 + 1 := by injection hβ3 with h; injection h with h; injection h
          subst this
          have hcs : cs = [.bool v] := hV.1
          subst hcs
          exact hheap
        by_cases hh : clB2 b x.val f.val = true
        · rw [if_pos hh] at hR
          obtain ⟨rfl, hrow⟩ := hR
          exact ⟨hK3, hbox true hrow, ⟨hB3, hK4⟩, rfl, by simp [hh]⟩
        · rw [if_neg hh] at hR
          obtain ⟨rfl, hrow⟩ := hR
          have hk3 : W'.heap[w.heap.size]? = some (.cells #[v0, v1] 29 (0, 0)) := (hkeep _ (by omega) (by rw [hbs, List.mem_singleton]; omega)).trans k3
          have hk5 : Boxed W' (w.heap.size + 1) 51 (.slice A2 len c2) := (hkeep _ (by omega) (by rw [hbs, List.mem_singleton]; omega)).trans k5
          have hkX : Boxed W' Bx 3 (.int .i64 ((x.val : Nat) : Int)) := (hkeep _ (by omega) (by rw [hbs, List.mem_singleton]; omega)).trans kX
          exact ⟨hK3, hB, ⟨⟨⟨hk3, hk5⟩, hbox false hrow⟩, hkX⟩, ⟨hB3, hK4⟩, by simp [hp2, hh]⟩
    case done2 =>
      rintro zs W2 rfl ⟨⟨hID, kX⟩, ⟨hB2, hK2⟩, hp2⟩
      exact ⟨hKW1.trans hK2, hWW1.trans hB2, hID, hBW.trans (hWW1.trans hB2), by rw [List.any_append, HPRE.out]; simp [hp2]⟩
    case stop2 =>
      rintro c pre2 W2 hpre2 ⟨k6, ⟨hB2, hK2⟩, rfl, hp2⟩
      have hany : (mkS len Y).any (fun f => clB2 b x.val f.val) = true := by
        obtain ⟨t, ht⟩ := hpre2
        rw [← ht, List.any_append, hp2]; rfl
      exact wpIn_ret ⟨hKW1.trans hK2, k6, hBW.trans (hWW1.trans hB2), rfl, by rw [List.any_append]; simp [hany]⟩
  case done =>
    rintro D zs W hD rfl ⟨⟨⟨h3, h5⟩, h6⟩, hBW, hp⟩ hK
    have c6 := h6.cell
    have f6 := h6.frozen
    gi_wp2
    have hc2 : (W.setCell ⟨w.heap.size + 1 + 1, 0, none⟩ (.bool false)).cell? ⟨w.heap.size + 1 + 1, 0, none⟩ = some (.bool false) := (Boxed.set _ h6).cell
    refine ⟨by simp, .inl ⟨_, _, rfl, run_takeDeferred ((KeepsOthers.setCell W ⟨w.heap.size + 1 + 1, 0, none⟩ _).same _ _ hK rfl), ?_⟩⟩
    refine ⟨.bool false, ?_, by rw [cl_any hlen, hp], (below_set hBW (by omega)).trans (belowK_b (w := w) (Nat.le_refl _) _ D _ _ (by omega) ((KeepsOthers.setCell W ⟨w.heap.size + 1 + 1, 0, none⟩ _).same _ _ hK rfl) rfl rfl)⟩
    have hc3 : ((W.setCell ⟨w.heap.size + 1 + 1, 0, none⟩ (.bool false)).putObj D (.deferred none)).cell? ⟨w.heap.size + 1 + 1, 0, none⟩ = some (.bool false) := (blk_cell ((World.putObj_heap_other (by omega)).trans (Boxed.set (.bool false) h6)) 0).trans rfl
    simp [results, show Try.f59.results = #[.cell 6 4] from rfl, asAddr, loadVar, go_sem, hc3, Try.underlying4]
  case stop =>
    rintro D c pre W hD hpre ⟨h6, hBW, rfl, hp⟩ hK
    have c6 := h6.cell
    gi_wp2
    have hany : (mkS len X).any (fun e => (mkS len Y).any fun f => clB2 b e.val f.val) = true := by
      obtain ⟨t, ht⟩ := hpre
      rw [← ht, List.any_append, hp]; rfl
    refine ⟨by simp, .inl ⟨_, _, rfl, run_takeDeferred hK, ?_⟩⟩
    refine ⟨.bool true, ?_, by rw [cl_any hlen, hany], hBW.trans (belowK_b (w := w) (Nat.le_refl _) _ D _ _ (by omega) hK rfl rfl)⟩
    have hc3 : (W.putObj D (.deferred none)).cell? ⟨w.heap.size + 1 + 1, 0, none⟩ = some (.bool true) := (blk_cell ((World.putObj_heap_other (by omega)).trans h6) 0).trans rfl
    simp [results, show Try.f59.results = #[.cell 6 4] from rfl, asAddr, loadVar, go_sem, hc3, Try.underlying4]
end Go.Proofs.Ytficdonjodadlaa.Mk
end
section
set_option linter.unusedVariables false
set_option linter.unusedSimpArgs false
namespace Go.Proofs.Ytficdonjodadlaa.Mk
open Go.RowKit Go.Proofs Go.Ev
theorem net_Name.width (s : ByteArray) (pos : Nat) (h : pos < s.size) : 1 ≤ (Utf8.decode s pos).2 := by
  by_cases ha : (s[pos]'h).toNat < 128
  · rw [decode_ascii s pos h ha]; exact Nat.le_refl _
  · exact (decode_high s pos h (by omega)).2
theorem nmL_end (s : ByteArray) (b pos : Nat) (h : ¬ pos < s.size) : nmL s b pos = true := by
  cases b with
  | zero => rfl
  | succ b => simp [nmL, h]
theorem nm_go {w : World} {s : ByteArray} {pos b : Nat} {Z : Bool} (hp : pos < s.size) (hc : nmL s b pos = Z) (hb : s.size ≤ pos + b) (hwd : 1 ≤ (Utf8.decode s pos).2) (ok : nmOk (Utf8.decode s pos).1 pos = true) :
    ∃ pos' b', w.iter s (pos + (Utf8.decode s pos).2) = w.iter s pos' ∧ nmL s b' pos' = Z ∧ s.size ≤ pos' + b' := by
  cases b with
  | zero => omega
  | succ b => exact ⟨_, b, rfl, by rw [← hc, nmL, if_pos hp, if_pos ok], by omega⟩
theorem nm_stop {s : ByteArray} {pos b : Nat} {Z : Bool} (hp : pos < s.size) (hc : nmL s b pos = Z) (hb : s.size ≤ pos + b) (ok : nmOk (Utf8.decode s pos).1 pos = false) : Z = false := by
  cases b with
  | zero => omega
  | succ b => rw [← hc, nmL, if_pos hp, if_neg (by simp [ok])]
set_option maxRecDepth 1000000 in
set_option maxHeartbeats 4000000 in
theorem net_Name.calls (a0 : ByteArray) (r : Bool) (w : World) (h : nmB a0 = r) :
    Calls Try.prog 64 #[.string a0] w fun e w' => e = .returned (.bool r) ∧ Below w.heap.size w w' := by
  subst h
  by_cases hs : a0.size < 1 ∨ 16 < a0.size
  · have hB : nmB a0 = false := by rw [nmB, if_pos hs]
    go_enter Try.func64, Try.ntmps64
    go_wp2
    all_goals first | (go_ret; exact ⟨by first | rfl | (rw [hB]; rfl), Below.refl _ _⟩) | (exfalso; omega)
  · have hB : nmB a0 = nmL a0 a0.size 0 := by rw [nmB, if_neg hs]
    rw [hB]
    go_enter Try.func64, Try.ntmps64
    go_wp2
    go_loopw [3, 4] (fun i c w' => ∃ (pos b : Nat), w' = w.iter a0 pos ∧ nmL a0 b pos = nmL a0 a0.size 0 ∧ a0.size ≤ pos + b) (fun _ _ w' => a0.size - w'.iterPos w.heap.size)
    case atStart => exact ⟨0, a0.size, rfl, rfl, by omega⟩
    case round =>
      obtain ⟨pos, b, rfl, hc, hb⟩ := hrel
      by_cases hp : pos < a0.size
      · have hnx : ∀ ty, (Instr.next (.pointer (some ⟨w.heap.size, 0, none⟩)) true ty).run Try.prog (w.iter a0 pos) = _ := fun ty => run_next_any w a0 pos ty hp
        have hwd := net_Name.width a0 pos hp
        go_wp2
        all_goals (try simp only [beq_eq_false_iff_ne, beq_iff_eq, ne_eq] at *)
        all_goals first
          | exact ⟨nm_go hp hc hb hwd (by unfold nmOk; exact decide_eq_true (by omega)), by simp; omega⟩
          | (go_ret; refine ⟨?_, (Below.refl _ _).alloc (Nat.le_refl _) _⟩; rw [nm_stop hp hc hb (by unfold nmOk; exact decide_eq_false (by omega))]; rfl)
      · have hnx : ∀ ty, (Instr.next (.pointer (some ⟨w.heap.size, 0, none⟩)) true ty).run Try.prog (w.iter a0 pos) = _ := fun ty => run_next_end w a0 pos ty hp
        go_wp2
        go_ret
        rw [nmL_end a0 b pos hp] at hc
        exact ⟨by rw [← hc]; rfl, (Below.refl _ _).alloc (Nat.le_refl _) _⟩
end Go.Proofs.Ytficdonjodadlaa.Mk
end
section
set_option linter.unusedVariables false
set_option linter.unusedSimpArgs false
namespace Go.Proofs.Ytficdonjodadlaa.Mk
open Go.RowKit Go.Proofs Go.Ev
def bF (l : List IV) (i : Nat) : Bool := asB (l.getD i .N)
open Classical in
noncomputable def ext59 : List At → Option Bool
  | [.iv p t b, .iv q t1 (.L x), .iv r t2 (.L y)] => if t = 29 ∧ t1 = 51 ∧ t2 = 51 ∧ Ok b ∧ FD b = true ∧ (asL (fld b 1)).length ≤ 1000000 ∧ x.length = (asL (fld b 1)).length ∧ y.length = (asL (fld b 1)).length then some (CLf b (bF x) (bF y)) else none
  | _ => none
open Classical in
noncomputable def ext82 : List At → Option Bool
  | [.iv p t b, .iv q t1 (.L x), .int k c] => if t = 29 ∧ t1 = 51 ∧ k = .i64 ∧ Ok b ∧ FD b = true ∧ (asL (fld b 1)).length ≤ 1000000 ∧ x.length = (asL (fld b 1)).length then some (CNf b (bF x) c) else none
  | _ => none
def ext64 : List At → Option Bool
  | [.str s] => some (nmB s)
  | _ => none
noncomputable def extB (g : FuncId) (args : List At) : Option Bool := if g = 59 then ext59 args else if g = 82 then ext82 args else if g = 64 then ext64 args else none
noncomputable def extE : CallF := fun g args mem => (extB g args).map fun v => ([.one (.at (.bool v))], [4], mem)
section
variable {C : Cx} {N : Nm} {mem : Mem} {vs : List Value} {args : List At}
theorem elt (okC : C.Ok) (h : Rel C N ⟨args.map (fun x => .v (.a x)), mem⟩ { tmps := vs.toArray, defers := [] } C.w0) (p : Nat) : ∀ k, C.E N p k → k < C.w0.heap.size := by
  intro k hk
  rcases hk with hk | hk
  · exact (okC.lt p k hk).1
  · exact (h.frm.fz k hk).2
theorem arg_b (hT : C.T = tab) {b : IV} {v : Value} {E : Nat → Prop} {cs : List Value} (hr : Rep tab C.w0 E 29 b cs) (hv : v = mkV (Go.Ev.isAgg tab 29) cs) : ∃ v0 v1, v = .agg #[v0, v1] ∧ cs = [v0, v1] := by
  cases hr with
  | agg h hl hc h1 hr' =>
    have h2 : cs.length = 2 := hc.trans (by rfl)
    match cs, h2 with
    | [v0, v1], _ => exact ⟨v0, v1, hv, rfl⟩
  | int h => rw [ty29] at h; cases h
  | bool h => rw [ty29] at h; cases h
  | str h => rw [ty29] at h; cases h
  | slice h hb hc hl hw hr => rw [ty29] at h; cases h
  | none h hn => rw [ty29] at h; cases h
  | nil h => rw [ty29] at h; cases h
  | fn h => rw [ty29] at h; cases h
  | ptr h => rw [ty29] at h; cases h
theorem arg_bl (hT : C.T = tab) {x : List IV} {v : Value} {E : Nat → Prop} {cs : List Value} (hr : Rep tab C.w0 E 51 (.L x) cs) (hv : v = mkV (Go.Ev.isAgg tab 51) cs) : ∃ A c, v = .slice A x.length c ∧ ∀ j, j < x.length → ∃ ad, A = some ad ∧ C.w0.cell? (ad.add j) = some (.bool (bF x j)) := by
  cases hr with
  | slice h hb hc hl hw hr' =>
    rename_i e b o cap cf
    have he : e = 4 := by rw [ty51] at h; injection h with h; exact h.symm
    subst he
    refine ⟨some ⟨b, o, none⟩, cap, hv, fun j hj => ⟨_, rfl, ?_⟩⟩
    have h1 := hr' j hj
    have hb : ∃ v, x.getD j .N = .B v ∧ cf j = [.bool v] := by
      generalize hu : x.getD j .N = u at h1
      generalize hcj : cf j = cj at h1
      cases h1 with
      | bool h => exact ⟨_, rfl, rfl⟩
      | int h => rw [ty4] at h; cases h
      | str h => rw [ty4] at h; cases h
      | slice h hb hc hl hw hr => rw [ty4] at h; cases h
      | none h hn => rw [ty4] at h; cases h
      | nil h => rw [ty4] at h; cases h
      | agg h hl hc h1 hr => rw [ty4] at h; cases h
      | fn h => rw [ty4] at h; cases h
      | ptr h => rw [ty4] at h; cases h
    obtain ⟨v, h2, h3⟩ := hb
    have h4 := hw j 0 (.bool v) hj (by rw [h3]; rfl)
    rw [bF, h2]
    have h5 : C.w0.cell? ⟨b, o + j, none⟩ = some (.bool v) := by simpa [show tab.sz 4 = 1 from rfl] using h4
    show C.w0.cell? _ = some (.bool v)
    rw [← h5]
    congr 1
    cases j <;> simp [Addr.add]
  | none h hn => exact ⟨_, _, hv, fun j hj => by simp at hj⟩
end
theorem CLf_congr {b : IV} {X X' Y Y' : Nat → Bool} (hX : ∀ i, i < (asL (fld b 1)).length → X i = X' i) (hY : ∀ i, i < (asL (fld b 1)).length → Y i = Y' i) : CLf b X Y = CLf b X' Y' := by
  unfold CLf
  rw [Bool.eq_iff_iff]
  simp only [List.any_eq_true, Bool.and_eq_true, List.mem_range]
  constructor
  · rintro ⟨i, hi, k, hk, ⟨⟨h1, h2⟩, h3⟩, h4⟩; exact ⟨i, hi, k, hk, ⟨⟨h1, hX i hi ▸ h2⟩, hY k hk ▸ h3⟩, h4⟩
  · rintro ⟨i, hi, k, hk, ⟨⟨h1, h2⟩, h3⟩, h4⟩; exact ⟨i, hi, k, hk, ⟨⟨h1, (hX i hi).symm ▸ h2⟩, (hY k hk).symm ▸ h3⟩, h4⟩
theorem CNf_congr {b : IV} {X X' : Nat → Bool} {c : Int} (hX : ∀ i, i < (asL (fld b 1)).length → X i = X' i) : CNf b X c = CNf b X' c := by
  unfold CNf
  rw [Bool.eq_iff_iff]
  simp only [List.any_eq_true, Bool.and_eq_true, List.mem_range]
  constructor
  · rintro ⟨i, hi, h2, h4⟩; exact ⟨i, hi, hX i hi ▸ h2, h4⟩
  · rintro ⟨i, hi, h2, h4⟩; exact ⟨i, hi, (hX i hi).symm ▸ h2, h4⟩
theorem bF_bl {n i : Nat} {S : Nat → Bool} (h : i < n) : bF (bl n S) i = S i := by rw [bF, bl_get h]; rfl
set_option maxRecDepth 100000 in
theorem call59 : Callable Try.prog 59 := ⟨_, Try.func59, by kernel_rfl, by kernel_rfl⟩
set_option maxRecDepth 100000 in
theorem call82 : Callable Try.prog 82 := ⟨_, Try.func82, by kernel_rfl, by kernel_rfl⟩
theorem ext59_ok {args : List At} {v : Bool} (hv : ext59 args = some v) {C : Cx} {N : Nm} {vs : List Value} {mem : Mem} (hP : C.P = Try.prog) (hT : C.T = tab) (okC : C.Ok) (hrel : Rel C N ⟨args.map (fun x => .v (.a x)), mem⟩ { tmps := vs.toArray, defers := [] } C.w0) :
    Calls C.P 59 vs.toArray C.w0 (fun e w' => e = .returned (.bool v) ∧ Below C.w0.heap.size C.w0 w') := by
  unfold ext59 at hv
  split at hv
  · rename_i p t b q t1 x r t2 y
    split at hv
    · rename_i hc
      obtain ⟨rfl, rfl, rfl, hok, hfd, hz, hlx, hly⟩ := hc
      obtain rfl := Option.some.inj hv
      obtain ⟨P, T, w0, S, X, β0⟩ := C
      obtain rfl : P = Try.prog := hP
      obtain rfl : T = tab := hT
      have hl : vs.length = 3 := by have := hrel.len; simpa using this
      obtain ⟨a0, a1, a2, rfl⟩ : ∃ a0 a1 a2, vs = [a0, a1, a2] := by
        match vs, hl with
        | [a0, a1, a2], _ => exact ⟨a0, a1, a2, rfl⟩
      have s0 := arg_of hrel (i := 0) (x := .iv p 29 b) rfl rfl
      have s1 := arg_of hrel (i := 1) (x := .iv q 51 (.L x)) rfl rfl
      have s2 := arg_of hrel (i := 2) (x := .iv r 51 (.L y)) rfl rfl
      obtain ⟨cs0, h0, e0⟩ := s0
      obtain ⟨cs1, h1, e1⟩ := s1
      obtain ⟨cs2, h2, e2⟩ := s2
      obtain ⟨v0, v1, rfl, rfl⟩ := arg_b (C := ⟨Try.prog, tab, w0, S, X, β0⟩) rfl h0 e0
      obtain ⟨A1, c1, rfl, hr1⟩ := arg_bl (C := ⟨Try.prog, tab, w0, S, X, β0⟩) rfl h1 e1
      obtain ⟨A2, c2, rfl, hr2⟩ := arg_bl (C := ⟨Try.prog, tab, w0, S, X, β0⟩) rfl h2 e2
      rw [hlx] at hr1 ⊢
      rw [hly] at hr2 ⊢
      exact clash_calls b v0 v1 A1 A2 c1 c2 (bF x) (bF y) w0 _ (elt okC hrel p) h0 hok hfd hz hr1 hr2
    · cases hv
  · cases hv
theorem ext82_ok {args : List At} {v : Bool} (hv : ext82 args = some v) {C : Cx} {N : Nm} {vs : List Value} {mem : Mem} (hP : C.P = Try.prog) (hT : C.T = tab) (okC : C.Ok) (hrel : Rel C N ⟨args.map (fun x => .v (.a x)), mem⟩ { tmps := vs.toArray, defers := [] } C.w0) :
    Calls C.P 82 vs.toArray C.w0 (fun e w' => e = .returned (.bool v) ∧ Below C.w0.heap.size C.w0 w') := by
  unfold ext82 at hv
  split at hv
  · rename_i p t b q t1 x k c
    split at hv
    · rename_i hc
      obtain ⟨rfl, rfl, rfl, hok, hfd, hz, hlx⟩ := hc
      obtain rfl := Option.some.inj hv
      obtain ⟨P, T, w0, S, X, β0⟩ := C
      obtain rfl : P = Try.prog := hP
      obtain rfl : T = tab := hT
      have hl : vs.length = 3 := by have := hrel.len; simpa using this
      obtain ⟨a0, a1, a2, rfl⟩ : ∃ a0 a1 a2, vs = [a0, a1, a2] := by
        match vs, hl with
        | [a0, a1, a2], _ => exact ⟨a0, a1, a2, rfl⟩
      have s0 := arg_of hrel (i := 0) (x := .iv p 29 b) rfl rfl
      have s1 := arg_of hrel (i := 1) (x := .iv q 51 (.L x)) rfl rfl
      have s2 := arg_of hrel (i := 2) (x := .int .i64 c) rfl rfl
      obtain ⟨cs0, h0, e0⟩ := s0
      obtain ⟨cs1, h1, e1⟩ := s1
      obtain ⟨cs2, h2, e2⟩ := s2
      have h2' : cs2 = [.int .i64 c] := h2
      subst h2'
      obtain ⟨v0, v1, rfl, rfl⟩ := arg_b (C := ⟨Try.prog, tab, w0, S, X, β0⟩) rfl h0 e0
      obtain ⟨A1, c1, rfl, hr1⟩ := arg_bl (C := ⟨Try.prog, tab, w0, S, X, β0⟩) rfl h1 e1
      obtain rfl : a2 = .int .i64 c := e2
      rw [hlx] at hr1 ⊢
      exact consumed_calls b v0 v1 A1 c1 (bF x) c w0 _ (elt okC hrel p) h0 hok hfd hz hr1
    · cases hv
  · cases hv
set_option maxRecDepth 100000 in
theorem call64 : Callable Try.prog 64 := ⟨_, Try.func64, by kernel_rfl, by kernel_rfl⟩
theorem ext64_ok {args : List At} {v : Bool} (hv : ext64 args = some v) {C : Cx} {N : Nm} {vs : List Value} {mem : Mem} (hP : C.P = Try.prog) (hT : C.T = tab) (okC : C.Ok) (hrel : Rel C N ⟨args.map (fun x => .v (.a x)), mem⟩ { tmps := vs.toArray, defers := [] } C.w0) :
    Calls C.P 64 vs.toArray C.w0 (fun e w' => e = .returned (.bool v) ∧ Below C.w0.heap.size C.w0 w') := by
  unfold ext64 at hv
  split at hv
  · rename_i s
    obtain rfl := Option.some.inj hv
    have hl : vs.length = 1 := by have := hrel.len; simpa using this
    obtain ⟨a0, rfl⟩ : ∃ a0, vs = [a0] := by
      match vs, hl with
      | [a0], _ => exact ⟨a0, rfl⟩
    obtain ⟨cs0, h0, e0⟩ := arg_of hrel (i := 0) (x := .str s) rfl rfl
    have h0' : cs0 = [.string s] := h0
    subst h0'
    obtain rfl : a0 = .string s := e0
    rw [hP]
    exact net_Name.calls s _ C.w0 rfl
  · cases hv
theorem extE_ok : RunOk Try.prog tab extE := by
  intro g args mem rs ts mem' h
  unfold extE at h
  obtain ⟨v, hv, hh⟩ := Option.map_eq_some_iff.1 h
  simp only [Prod.mk.injEq] at hh
  obtain ⟨rfl, rfl, rfl⟩ := hh
  unfold extB at hv
  split at hv
  · rename_i hg
    subst hg
    exact ⟨call59, fun C N vs hP hT okC hrel => by
      have := ext_bool okC (t := 4) (by rw [hT]; exact ty4) hrel (ext59_ok hv hP hT okC hrel)
      rw [hP] at this; exact this⟩
  · split at hv
    · rename_i hg
      subst hg
      exact ⟨call82, fun C N vs hP hT okC hrel => by
        have := ext_bool okC (t := 4) (by rw [hT]; exact ty4) hrel (ext82_ok hv hP hT okC hrel)
        rw [hP] at this; exact this⟩
    · split at hv
      · rename_i hg
        subst hg
        exact ⟨call64, fun C N vs hP hT okC hrel => by
          have := ext_bool okC (t := 4) (by rw [hT]; exact ty4) hrel (ext64_ok hv hP hT okC hrel)
          rw [hP] at this; exact this⟩
      · cases hv
theorem extE_C : ExC extE := by
  intro b p q r X Y hok hfd hz
  have h : ext59 [.iv p 29 b, .iv q 51 (.L (bl (asL (fld b 1)).length X)), .iv r 51 (.L (bl (asL (fld b 1)).length Y))] = some (CLf b X Y) := by
    unfold ext59
    simp only []
    rw [if_pos ⟨rfl, rfl, rfl, hok, hfd, hz, bl_len, bl_len⟩]
    congr 1
    exact CLf_congr (fun i hi => bF_bl hi) (fun i hi => bF_bl hi)
  unfold ans extE extB
  rw [if_pos rfl, h]; rfl
theorem extE_U : ExU extE := by
  intro b p q X c hok hfd hz
  have h : ext82 [.iv p 29 b, .iv q 51 (.L (bl (asL (fld b 1)).length X)), .int .i64 c] = some (CNf b X c) := by
    unfold ext82
    simp only []
    rw [if_pos ⟨rfl, rfl, rfl, hok, hfd, hz, bl_len⟩]
    congr 1
    exact CNf_congr (fun i hi => bF_bl hi)
  unfold ans extE extB
  rw [if_neg (by decide), if_pos rfl, h]; rfl
theorem extE_N : ExN extE := by
  intro s
  unfold ans extE extB
  rw [if_neg (by decide), if_neg (by decide), if_pos rfl]; rfl
end Go.Proofs.Ytficdonjodadlaa.Mk
end
section
set_option linter.unusedVariables false
set_option linter.unusedSimpArgs false
namespace Go.Proofs.Ytficdonjodadlaa
open Go.Ev Go.Proofs
section
set_option maxHeartbeats 4000000
set_option maxRecDepth 10000
variable {b : IV} {left : List IV} {p z k : Nat} {ext : CallF}
variable {P : Program} {w0 : World} {S : Nat → Nat → Prop} {X : Nat → Prop} {β0 : Nat → Value} {Q : Exit → Act → World → Prop}
variable {N : Nm} {st : St} {a : Act} {w : World}
theorem do46 {part : Code} {F : Ex → St → Prop} (ok : Cx.Ok ⟨P, tab, w0, S, X, β0⟩) (hm : P.follows .mixedOrders = true) (hrun : RunOk P tab (tab.run ext k)) (hr : Rel ⟨P, tab, w0, S, X, β0⟩ N st a w) (hR : Runs tab fx46 (tab.run ext k) k 0 part st F) (hq : ∀ e N' st' a' w', F e st' → Rel ⟨P, tab, w0, S, X, β0⟩ N' st' a' w' → Q e.out a' w') : part.wp P Q a w := by
  obtain ⟨e, s, h1, h2⟩ := hR
  exact code_sound ok hm (fun o => call_sound ok hrun) part h1 hr (fun N' a' w' h' => hq e N' s a' w' h2 h')
theorem Rel.bare {C : Cx} (h : Rel C N st a w) : Rel C N ⟨[], []⟩ { tmps := #[], defers := [] } w :=
  ⟨rfl, rfl, fun i => (fun hu => by cases hu), fun j r hr => (by cases hr), ⟨fun j b hj => (by cases hj), fun j j' b hj => (by cases hj), h.frm.fz, h.frm.frame, h.frm.os, h.frm.tape, h.frm.output, h.frm.size⟩⟩
theorem run46 (K : K75 P ext k b p) (hg : ∃ fn, P.funcs[46]? = some fn ∧ (fn.name == "runtime.NumGoroutine") = false ∧ fn.body = some fx46.code ∧ fn.ntmps = fx46.ntmps ∧ fn.results.toList = fx46.res.map (·.1)) (hlen : left.length ≤ 500) (hlo : Ok (.L left)) (hleft : ∀ x ∈ left, ∃ n, x = .I n) (hres : (cho b left.length left []).length ≤ 1000000) (C : Cx) (N : Nm) (vs : List Value) (hP : C.P = P) (hT : C.T = tab) (ok : C.Ok)
    (hr : Rel C N ⟨[At.iv p 29 b, .iv z 46 (.L left)].map (fun x => .v (.a x)), []⟩ { tmps := vs.toArray, defers := [] } C.w0) :
    Calls P 46 vs.toArray C.w0 (fun e w' => ∃ N' rvs hs, e = .returned (pack rvs) ∧ Rel C N' ⟨[], []⟩ { tmps := #[], defers := [] } w' ∧ RVsRep C N' w' [44] [.one (.own 2 46 (cho b left.length left []))] rvs hs ∧ HsOk C N' ⟨[], []⟩ w' hs) := by
  obtain ⟨P', T', w0, S, X, β0⟩ := C
  obtain rfl : P' = P := hP
  obtain rfl : T' = tab := hT
  obtain ⟨fn, f1, f2, f3, f4, f5⟩ := hg
  have ih := s75 K left.length left [] (Nat.le_refl _) (by simp only [List.length_nil]; omega) hlo hleft (fun x hx => by cases hx)
  generalize cho b left.length left [] = res at ih hres ⊢
  refine calls_of_wp f1 f3 ?_
  have hlen := hr.len
  have hlen : vs.length = 2 := by simpa using hlen
  have hpad := hr.pad (fn.ntmps - vs.length)
  have hsz : vs.toArray.size = vs.length := by simp
  rw [hsz]
  have hnt : fn.ntmps = 12 := f4
  rw [hnt, hlen] at hpad ⊢
  obtain ⟨st0, hst0⟩ : ∃ st0 : St, st0 = ⟨[At.iv p 29 b, .iv z 46 (.L left)].map (fun x => .v (.a x)) ++ List.replicate (12 - 2) U, []⟩ := ⟨_, rfl⟩
  rw [← hst0] at hpad
  have q1 : st0.env.length = 12 := by rw [hst0]; rfl
  have q2 : st0.get (.tmp 0) = .v (.a (.iv p 29 b)) := by rw [hst0]; rfl
  have q3 : st0.get (.tmp 1) = .v (.a (.iv z 46 (.L left))) := by rw [hst0]; rfl
  have q4 : ∀ j, st0.row j = none := fun j => by rw [hst0]; rfl
  clear hst0
  show (Code.seq (sq1 c46) (.seq (sq1 (sq2 c46)) (.seq (sq1 (sq2 (sq2 c46))) (.seq (sq1 (sq2 (sq2 (sq2 c46)))) (.seq r446 (sq2 (sq2 (sq2 (sq2 (sq2 c46)))))))))).wp P' _ _ w0
  refine wp_seq (do46 ok K.hm K.hrun hpad (p46_0 ext k 0 b left p z st0 st0 q1 q2 q3 (q4 0) (q4 9)) (fun e N1 s1 a1 w1 hF hr1 => ?_))
  obtain ⟨rfl, a0, a1', a2, a3, a4⟩ := hF
  refine wp_seq (do46 ok K.hm K.hrun hr1 (p46_1 ext k 0 b left p z s1 s1 a0 a1' a2 a3 a4) (fun e N2 s2 a2 w2 hF hr2 => ?_))
  obtain ⟨rfl, b0, b1, b2, b3, b4, b5, b6, b7⟩ := hF
  refine wp_seq (do46 ok K.hm K.hrun hr2 (p46_2 ext k 0 b left p z s2 s2 b0 b1 b2 b3 b4 b5 b6 b7) (fun e N3 s3 a3 w3 hF hr3 => ?_))
  obtain ⟨rfl, d0, d1, d2, d3, d4, d5, d6, d7, d8, d9⟩ := hF
  refine wp_seq (do46 ok K.hm K.hrun hr3 (p46_3 ext k 0 b left p z s3 s3 d0 d1 d2 d3 d4 d5 d6 d7 d8 d9) (fun e N4 s4 a4 w4 hF hr4 => ?_))
  obtain ⟨rfl, e0, e1, e2, e3, e4, e5, e6, e7, e8, e9⟩ := hF
  refine wp_seq ?_
  rw [r446_eq]
  obtain ⟨o0, o1, o2, eo, ⟨m1, m2, m3⟩, ⟨n1, n2, n3⟩, ⟨c1, c2, c3⟩⟩ := r446_ops
  refine wp_region_list ?_
  rw [eo]
  have s0 := s_load (C := ⟨P', tab, w0, S, X, β0⟩) (st := s4) (o := o0) (y := .ptr 3 [] 88) (v := .a (.fn 75 [1, 0, 3])) ok m1 (by unfold get1; rw [e8]) (by simp [St.load, e9])
  rw [m2] at s0
  refine list_pin m3 (by rw [m2]; decide) s0 hr4 (fun N5 a5 w5 hr5 _ => ?_)
  have s1' := s_move (C := ⟨P', tab, w0, S, X, β0⟩) (st := s4.set (some 8) (.v (.a (.fn 75 [1, 0, 3])))) (o := o1) (.inl n1)
  rw [n2, get_set_ne (by decide), e1] at s1'
  refine list_pin n3 (by rw [n2]; decide) s1' hr5 (fun N6 a6 w6 hr6 _ => ?_)
  refine wpList_step fun K' hK => ?_
  rw [if_pos (by unfold Region.wanted; rw [c3])]
  refine call46 (z := z) ok (callable75 K.hF) K.hp hres ih c1 c2 hr6 (by rw [len_set, len_set]; exact e0) ?_ ?_ ?_ ?_ ?_ ?_ ?_ (fun N7 s7 a7 w7 hr7 g1 g2 g3 g4 => hK _ _ ?_)
  · rw [get_set_ne (by decide), get_set_ne (by decide)]; exact e5
  · rw [get_set_ne (by decide), get_set_eq (by rw [e0]; decide)]
  · rw [get_set_eq (by rw [len_set, e0]; decide)]
  · rw [row_set, row_set]; exact e3
  · rw [row_set, row_set]; exact e6
  · rw [row_set, row_set]; exact e7
  · rw [row_set, row_set]; exact e9
  refine do46 ok K.hm K.hrun hr7 (p46_5 ext k 0 b left p z s7 s7 res g1 g2 g3 g4) (fun e N8 s8 a8 w8 hF hr8 => ?_)
  obtain ⟨rfl, s9, ho⟩ := hF
  obtain ⟨rvs, hs, r1, r2, r3, r4, _⟩ := outs_sound ok hr8 ho
  rw [← f5] at r1
  have hR := run_results r1
  exact ⟨hr8.dfr, _, hR, N8, rvs, hs, rfl, Rel.bare r3, r2, ⟨fun h hm bb hb => by obtain ⟨x, y, zz, _⟩ := r4.own h hm bb hb; exact ⟨x, y, zz, fun j hj => by cases hj⟩, r4.sep⟩⟩
end
end Go.Proofs.Ytficdonjodadlaa
namespace Go.Proofs.Ytficdonjodadlaa.Mk
open Go.Ev Go.Proofs Go.Proofs.Ytficdonjodadlaa
open Classical in
noncomputable def ext46 : List At → Mem → Option (List RV × List TypeId × Mem)
  | [.iv p t b, .iv z t2 (.L left)], [] => if t = 29 ∧ t2 = 46 ∧ p ≠ 0 ∧ Ok b ∧ FD b = true ∧ (asL (fld b 1)).length ≤ 1000000 ∧ (asL (fld b 0)).length ≤ 100000 ∧ left.length ≤ 500 ∧ Ok (.L left) ∧ (∀ x ∈ left, ∃ n, x = .I n) ∧ (cho b left.length left []).length ≤ 1000000 then some ([.one (.own 2 46 (cho b left.length left []))], [44], []) else none
  | _, _ => none
noncomputable def extF : CallF := fun g args mem => if g = 46 then ext46 args mem else extE g args mem
theorem extF_ne {g : FuncId} (h : g ≠ 46) : extF g = extE g := by funext args mem; unfold extF; rw [if_neg h]
theorem ansF {g : FuncId} {xs : List At} {n : Nat} (h : g ≠ 46) : ans extF g xs n = ans extE g xs n := by unfold ans; rw [extF_ne h]
theorem extF_N : ExN extF := by
  have h := extE_N
  unfold ExN at h ⊢
  intros
  rw [ansF (by decide)]
  apply h <;> assumption
theorem extF_C : ExC extF := by
  have h := extE_C
  unfold ExC at h ⊢
  intros
  rw [ansF (by decide)]
  apply h <;> assumption
theorem extF_U : ExU extF := by
  have h := extE_U
  unfold ExU at h ⊢
  intros
  rw [ansF (by decide)]
  apply h <;> assumption
theorem extF_Ch : ExCh extF := by
  intro b left p z h1 h2 h3 h4 h5 h6 h7 h8 h9
  have e : ext46 [.iv p 29 b, .iv z 46 (.L left)] [] = some ([.one (.own 2 46 (cho b left.length left []))], [44], []) := if_pos ⟨rfl, rfl, h1, h2, h3, h4, h5, h6, h7, h8, h9⟩
  unfold ans extF
  rw [if_pos rfl]
  show (ext46 [.iv p 29 b, .iv z 46 (.L left)] []).map _ = _
  rw [e]
  rfl
theorem extF_ok : RunOk Try.prog tab extF := by
  intro g args mem rs ts mem' h
  by_cases hg : g = 46
  · subst hg
    unfold extF at h
    rw [if_pos rfl] at h
    unfold ext46 at h
    split at h
    · rename_i p t b z t2 left
      split at h
      · rename_i hc
        obtain ⟨rfl, rfl, h1, h2, h3, h4, h5, h6, h7, h8, h9⟩ := hc
        simp only [Option.some.injEq, Prod.mk.injEq] at h
        obtain ⟨rfl, rfl, rfl⟩ := h
        have K : K75 Try.prog extE (maxLen + (D0 + 40)) b p := ⟨mixed, fnsOk, run_sound mixed fnsOk extE_ok _, extE_C, extE_U, h2, h1, h3, h4, h5, Nat.le_refl _⟩
        obtain ⟨fn, f1, f2, f3, f4⟩ := good46
        refine ⟨⟨fn, f1, f2, by rw [f3]; rfl⟩, fun C N vs hP hT ok hr => ?_⟩
        exact run46 K good46 h6 h7 h8 h9 C N vs hP hT ok hr
      · cases h
    · cases h
  · rw [extF_ne hg] at h
    exact extE_ok g args mem rs ts mem' h
end Go.Proofs.Ytficdonjodadlaa.Mk
end
section
set_option linter.unusedVariables false
namespace Go.Proofs.Ytficdonjodadlaa
open Go.Ev Go.Proofs Go.Proofs.Ytficdonjodadlaa.Mk
theorem ex_hold (k : Nat) (hk : maxLen + (D0 + 70) ≤ k) : ans (tab.run extF k) 12 [] 2 = some ([.one (.at (.bool true))], [4]) := example_ans extF k extF_N extF_C extF_U extF_Ch (by omega)
theorem ans_out {call : CallF} {g : FuncId} {xs : List At} {n : Nat} {rs : List RV} {ts : List TypeId} (h : ans call g xs n = some (rs, ts)) : ∃ m, call g xs (List.replicate n none) = some (rs, ts, m) := by
  unfold ans at h
  rw [Option.map_eq_some_iff] at h
  obtain ⟨⟨a, b, m⟩, h1, h2⟩ := h
  cases h2
  exact ⟨m, h1⟩
theorem arg25 {u : IV} : argAt tab 25 u = .iv 2 25 u := (rfl)
theorem arg29 {u : IV} : argAt tab 29 u = .iv 2 29 u := (rfl)
end Go.Proofs.Ytficdonjodadlaa
end
section
set_option linter.unusedVariables false
namespace Go.Ev
def smB (n : IV) : Bool := !(decide ((26 : Int) < ((asL (fld n 1)).length : Int) ∨ (26 : Int) < ((asL (fld n 2)).length : Int) ∨ (20 : Int) < ((asS (fld n 0)).size : Int))) && !((asL (fld n 1)).any fun x => decide ((20 : Int) < ((asS (fld x 0)).size : Int))) && !((asL (fld n 2)).any fun x => decide ((20 : Int) < ((asS (fld x 0)).size : Int) ∨ (26 : Int) < ((asL (fld x 1)).length : Int) ∨ (26 : Int) < ((asL (fld x 2)).length : Int) ∨ (26 : Int) < ((asL (fld x 3)).length : Int)))
def zN : IV := .A [.S .empty, .N, .N]
def smN (n : IV) : IV := if smB n = true then n else zN
theorem smN_t {n : IV} (h : smB n = true) : smN n = n := by simp [smN, h]
theorem smN_f {n : IV} (h : smB n = false) : smN n = zN := by simp [smN, h]
end Go.Ev
end
section
set_option linter.unusedSimpArgs false
set_option linter.unusedVariables false
set_option maxRecDepth 100000
set_option maxHeartbeats 4000000
namespace Go.Proofs.Ytficdonjodadlaa
open Go.Ev Go.Proofs
theorem AU_small {p : Prop} (h : p := by
  repeat' (first | (with_reducible refine condLt (fun h h' => ?_) (fun h h' => ?_)) | (with_reducible refine condLe (fun h h' => ?_) (fun h h' => ?_)) | (with_reducible refine dop_val ?_) | (with_reducible refine YsLt (fun h h' => ?_) (fun h h' => ?_)) | (with_reducible refine YsLe (fun h h' => ?_) (fun h h' => ?_)) | (with_reducible refine condP (fun h => ?_) (fun h => ?_)) | (with_reducible refine condN (fun h => ?_) (fun h => ?_)) | (with_reducible refine condB (fun h => ?_) (fun h => ?_)) | (with_reducible refine condR (fun h => ?_) (fun h => ?_)) | (with_reducible refine YsB (fun h => ?_) (fun h => ?_)) | (with_reducible refine YsC (fun h => ?_) (fun h => ?_)) | (with_reducible refine Ys_ite (fun h => ?_) (fun h => ?_)) | (intro h) | (with_reducible refine draw_look (by kernel_rfl) (by kernel_rfl) ?_) | (simp (maxDischargeDepth := 9) only [go_sem, Nat.reduceMul, Nat.reduceAdd, Nat.reduceLeDiff, Int.reduceSub, Int.reduceNeg, Int.reduceLT, Int.reduceLE, Int.reduceEq, *]) | (exfalso; omega))) : p := h
theorem small_ans (ext : CallF) (k : Nat) (n : IV) (hk : maxLen + (4) ≤ k) (hnn : Ok n) : ans (tab.run ext k) 10 [.iv 2 25 n] 3 = some ([.one (.at (.iv 2 25 (smN n))), .one (.at (.bool (smB n)))], [25, 4]) := by
  obtain ⟨k, rfl⟩ : ∃ k', k = k' + 1 := ⟨k - 1, by omega⟩
  have hk1 : maxLen < k := by omega
  have hk0 : 0 < k := by omega
  refine fn_run (fx := fx10) (m := 75) 76 rfl rfl rfl rfl (fun st hn hg hr => ?_)
  have g0 : st.get (.tmp 0) = .v (.a (.iv 2 25 n)) := hg 0 (of_decide_eq_true rfl)
  have r0 := hr 0
  have r1 := hr 1
  have r2 := hr 2
  clear hg hr
  rw [co10]
  simp only [Try.f10, Option.getD_some]
  unfold smN smB zN
  have hl1 := ok_len (ok_fld (j := 1) hnn)
  have hl2 := ok_len (ok_fld (j := 2) hnn)
  by_cases h1 : (26 : Int) < ((asL (fld n 1)).length : Int)
  case pos =>
    simp (maxDischargeDepth := 9) only [go_sem, Nat.reduceMul, Nat.reduceAdd, Nat.reduceLeDiff, Int.reduceSub, Int.reduceNeg, Int.reduceLT, Int.reduceLE, Int.reduceEq, *]
  by_cases h2 : (26 : Int) < ((asL (fld n 2)).length : Int)
  case pos =>
    simp (maxDischargeDepth := 9) only [go_sem, Nat.reduceMul, Nat.reduceAdd, Nat.reduceLeDiff, Int.reduceSub, Int.reduceNeg, Int.reduceLT, Int.reduceLE, Int.reduceEq, *]
  by_cases h3 : (20 : Int) < ((asS (fld n 0)).size : Int)
  case pos =>
    simp (maxDischargeDepth := 9) only [go_sem, Nat.reduceMul, Nat.reduceAdd, Nat.reduceLeDiff, Int.reduceSub, Int.reduceNeg, Int.reduceLT, Int.reduceLE, Int.reduceEq, *]
  simp (maxDischargeDepth := 9) only [go_sem, Nat.reduceMul, Nat.reduceAdd, Nat.reduceLeDiff, Int.reduceSub, Int.reduceNeg, Int.reduceLT, Int.reduceLE, Int.reduceEq, *]
  refine gen_st (fun s0 hg hr hn0 => ?_)
  have e1 := hg 1
  have e2 := hg 2
  have e4 := hg 4
  have q0 := hr 0
  have q1 := hr 1
  clear hg hr
  simp only [go_sem, *] at hn0 e1 e2 e4 q0 q1
  refine nr (runs_for (asL (fld n 1)) (fun (_ : Unit) x => if (20 : Int) < ((asS (fld x 0)).size : Int) then .ret true else .next ()) () 76 (fun i a => [(1, s0.get (.tmp 1)), (2, s0.get (.tmp 2)), (4, .v (.a (.int .i64 (i : Nat))))]) (fun i a => [(0, s0.row 0), (1, s0.row 1)]) (fun i a => True) (by omega) ?_ (trivial) ?_ ?_ ?_ ?_)
  · simp (maxDischargeDepth := 9) only [go_sem, Nat.reduceMul, Nat.reduceAdd, Nat.reduceLeDiff, Int.reduceSub, Int.reduceNeg, Int.reduceLT, Int.reduceLE, Int.reduceEq, *]
  · intro i a; simp (maxDischargeDepth := 9) only [go_sem, Nat.reduceMul, Nat.reduceAdd, Nat.reduceLeDiff, Int.reduceSub, Int.reduceNeg, Int.reduceLT, Int.reduceLE, Int.reduceEq, *]
  · intro i a; simp (maxDischargeDepth := 9) only [go_sem, Nat.reduceMul, Nat.reduceAdd, Nat.reduceLeDiff, Int.reduceSub, Int.reduceNeg, Int.reduceLT, Int.reduceLE, Int.reduceEq, *]
  · intro i x a s hx hi hI hS
    clear hn0 e4
    simp only [go_sem] at hS
    obtain ⟨f1, f2, f4, m0, m1, hn⟩ := hS
    have hw := wrap_succ hi (hl1)
    refine rn ?_
    simp (maxDischargeDepth := 9) only [go_sem, Nat.reduceMul, Nat.reduceAdd, Nat.reduceLeDiff, Int.reduceSub, Int.reduceNeg, Int.reduceLT, Int.reduceLE, Int.reduceEq, *]
    all_goals exact AU_small
  · intro a s hI hf hS
    clear hn0 e4
    simp only [go_sem] at hS
    obtain ⟨f1, f2, f4, m0, m1, hn⟩ := hS
    try simp only [go_sem] at hf
    refine rn ?_
    simp (maxDischargeDepth := 9) only [go_sem, Nat.reduceMul, Nat.reduceAdd, Nat.reduceLeDiff, Int.reduceSub, Int.reduceNeg, Int.reduceLT, Int.reduceLE, Int.reduceEq, *]
    refine gen_st (fun s0 hg hr hn0 => ?_)
    have e1 := hg 1
    have e2 := hg 2
    have e5 := hg 5
    have q0 := hr 0
    have q1 := hr 1
    clear hg hr
    simp only [go_sem, *] at hn0 e1 e2 e5 q0 q1
    refine nr (runs_for (asL (fld n 2)) (fun (_ : Unit) x => if (20 : Int) < ((asS (fld x 0)).size : Int) ∨ (26 : Int) < ((asL (fld x 1)).length : Int) ∨ (26 : Int) < ((asL (fld x 2)).length : Int) ∨ (26 : Int) < ((asL (fld x 3)).length : Int) then .ret true else .next ()) () 76 (fun i a => [(1, s0.get (.tmp 1)), (2, s0.get (.tmp 2)), (5, .v (.a (.int .i64 (i : Nat))))]) (fun i a => [(0, s0.row 0), (1, s0.row 1)]) (fun i a => True) (by omega) ?_ (trivial) ?_ ?_ ?_ ?_)
    · simp (maxDischargeDepth := 9) only [go_sem, Nat.reduceMul, Nat.reduceAdd, Nat.reduceLeDiff, Int.reduceSub, Int.reduceNeg, Int.reduceLT, Int.reduceLE, Int.reduceEq, *]
    · intro i a; simp (maxDischargeDepth := 9) only [go_sem, Nat.reduceMul, Nat.reduceAdd, Nat.reduceLeDiff, Int.reduceSub, Int.reduceNeg, Int.reduceLT, Int.reduceLE, Int.reduceEq, *]
    · intro i a; simp (maxDischargeDepth := 9) only [go_sem, Nat.reduceMul, Nat.reduceAdd, Nat.reduceLeDiff, Int.reduceSub, Int.reduceNeg, Int.reduceLT, Int.reduceLE, Int.reduceEq, *]
    · intro i x a s hx hi hI hS
      clear hn0 e5
      simp only [go_sem] at hS
      obtain ⟨f1, f2, f5, m0, m1, hn⟩ := hS
      have hw := wrap_succ hi (hl2)
      refine rn ?_
      simp (maxDischargeDepth := 9) only [go_sem, Nat.reduceMul, Nat.reduceAdd, Nat.reduceLeDiff, Int.reduceSub, Int.reduceNeg, Int.reduceLT, Int.reduceLE, Int.reduceEq, *]
      all_goals exact AU_small
    · intro a s hI hf hS
      clear hn0 e5
      simp only [go_sem] at hS
      obtain ⟨f1, f2, f5, m0, m1, hn⟩ := hS
      try simp only [go_sem] at hf
      refine rn ?_
      simp (maxDischargeDepth := 9) only [go_sem, Nat.reduceMul, Nat.reduceAdd, Nat.reduceLeDiff, Int.reduceSub, Int.reduceNeg, Int.reduceLT, Int.reduceLE, Int.reduceEq, *]
      all_goals exact AU_small
end Go.Proofs.Ytficdonjodadlaa
end
section
set_option linter.unusedVariables false
namespace Go.Ev
theorem LG_co {b : IV} (h : LG b = false) : (asL (fld b 0)).length ≤ 1000 := by
  simp only [LG, Bool.or_eq_false_iff, decide_eq_false_iff_not] at h
  omega
theorem sm_pl {n : IV} (hs : smB n = true) : (asL (fld n 1)).length ≤ 1000 := by
  simp only [smB, Bool.and_eq_true, Bool.not_eq_true', decide_eq_false_iff_not, not_or] at hs
  omega
end Go.Ev
end
section
set_option linter.unusedVariables false
namespace Go.Ev
def ltB (l : IV) : Bool := decide ((asL l).length ≤ 6) && !((asL l).any fun z => decide ((3 : Int) < asI (fld z 1)))
def liB (n : IV) : Bool := smB n && decide ((asL (fld n 1)).length ≤ 6) && decide ((asL (fld n 2)).length ≤ 6) && !((asL (fld n 1)).any fun x => decide ((3 : Int) < asI (fld x 1))) && !((asL (fld n 2)).any fun x => !(ltB (fld x 1) && ltB (fld x 2) && ltB (fld x 3)))
def cpy (l : IV) (i : Nat) : List IV := (List.range i).map fun (k : Nat) => .I (asI ((asL l).getD k .N))
theorem cpy_zero {l : IV} : cpy l 0 = [] := (rfl)
theorem cpy_succ {l : IV} {i : Nat} : cpy l (i + 1) = cpy l i ++ [.I (asI ((asL l).getD i .N))] := by simp [cpy, List.range_succ]
theorem cpy_len {l : IV} {i : Nat} : (cpy l i).length = i := by simp [cpy]
attribute [go_sem] cpy_zero cpy_succ
def wgt (l : IV) (p : Int) : Int := match foldS (fun (_ : Unit) (x : IV) => if asI (fld x 0) = p then Stp.ret (asI (fld x 1)) else .next ()) () (asL l) with | .ret r => r | _ => 0
end Go.Ev
end
section
set_option linter.unusedSimpArgs false
set_option linter.unusedVariables false
set_option maxRecDepth 100000
set_option maxHeartbeats 4000000
namespace Go.Proofs.Ytficdonjodadlaa
open Go.Ev Go.Proofs
theorem AU_rlight {p : Prop} (h : p := by
  repeat' (first | (with_reducible refine condLt (fun h h' => ?_) (fun h h' => ?_)) | (with_reducible refine condLe (fun h h' => ?_) (fun h h' => ?_)) | (with_reducible refine dop_val ?_) | (with_reducible refine YsLt (fun h h' => ?_) (fun h h' => ?_)) | (with_reducible refine YsLe (fun h h' => ?_) (fun h h' => ?_)) | (with_reducible refine condP (fun h => ?_) (fun h => ?_)) | (with_reducible refine condN (fun h => ?_) (fun h => ?_)) | (with_reducible refine condB (fun h => ?_) (fun h => ?_)) | (with_reducible refine condR (fun h => ?_) (fun h => ?_)) | (with_reducible refine YsB (fun h => ?_) (fun h => ?_)) | (with_reducible refine YsC (fun h => ?_) (fun h => ?_)) | (with_reducible refine Ys_ite (fun h => ?_) (fun h => ?_)) | (intro h) | (with_reducible refine draw_look (by kernel_rfl) (by kernel_rfl) ?_) | (simp (maxDischargeDepth := 9) only [go_sem, Nat.reduceMul, Nat.reduceAdd, Nat.reduceLeDiff, Int.reduceSub, Int.reduceNeg, Int.reduceLT, Int.reduceLE, Int.reduceEq, *]) | (exfalso; omega))) : p := h
theorem rlight_ans (ext : CallF) (k : Nat) (l : IV) (p : Nat) (hk : maxLen + (2) ≤ k) (hv : Ok l) : ans (tab.run ext k) 45 [.iv p 60 l] 0 = some ([.one (.at (.bool (ltB l)))], [4]) := by
  obtain ⟨k, rfl⟩ : ∃ k', k = k' + 1 := ⟨k - 1, by omega⟩
  have hk1 : maxLen < k := by omega
  have hk0 : 0 < k := by omega
  refine fn_run (fx := fx45) (m := 18) 19 rfl rfl rfl rfl (fun st hn hg hr => ?_)
  have g0 : st.get (.tmp 0) = .v (.a (.iv p 60 l)) := hg 0 (of_decide_eq_true rfl)
  clear hg hr
  rw [co45]
  simp only [Try.f45, Option.getD_some]
  unfold ltB
  have hl := ok_len hv
  by_cases h6 : (6 : Int) < ((asL l).length : Int)
  case pos =>
    have h6n : ¬(asL l).length ≤ 6 := by omega
    simp (maxDischargeDepth := 9) only [go_sem, Nat.reduceMul, Nat.reduceAdd, Nat.reduceLeDiff, Int.reduceSub, Int.reduceNeg, Int.reduceLT, Int.reduceLE, Int.reduceEq, *, decide_true, decide_false, Bool.true_and, Bool.false_and]
  have h6n : (asL l).length ≤ 6 := by omega
  simp (maxDischargeDepth := 9) only [go_sem, Nat.reduceMul, Nat.reduceAdd, Nat.reduceLeDiff, Int.reduceSub, Int.reduceNeg, Int.reduceLT, Int.reduceLE, Int.reduceEq, *, decide_true, decide_false, Bool.true_and, Bool.false_and]
  refine gen_st (fun s0 hg hr hn0 => ?_)
  have e0 := hg 0
  have e3 := hg 3
  clear hg hr
  simp only [go_sem, *] at hn0 e0 e3
  refine nr (runs_for (asL l) (fun (_ : Unit) z => if (3 : Int) < asI (fld z 1) then .ret true else .next ()) () 19 (fun i a => [(0, s0.get (.tmp 0)), (3, .v (.a (.int .i64 (i : Nat))))]) (fun i a => []) (fun i a => True) (by omega) ?_ (trivial) ?_ ?_ ?_ ?_)
  · simp (maxDischargeDepth := 9) only [go_sem, Nat.reduceMul, Nat.reduceAdd, Nat.reduceLeDiff, Int.reduceSub, Int.reduceNeg, Int.reduceLT, Int.reduceLE, Int.reduceEq, *]
  · intro i a; simp (maxDischargeDepth := 9) only [go_sem, Nat.reduceMul, Nat.reduceAdd, Nat.reduceLeDiff, Int.reduceSub, Int.reduceNeg, Int.reduceLT, Int.reduceLE, Int.reduceEq, *]
  · intro i a; simp (maxDischargeDepth := 9) only [go_sem, Nat.reduceMul, Nat.reduceAdd, Nat.reduceLeDiff, Int.reduceSub, Int.reduceNeg, Int.reduceLT, Int.reduceLE, Int.reduceEq, *]
  · intro i x a s hx hi hI hS
    clear hn0 e3
    simp only [go_sem] at hS
    obtain ⟨f0, f3, hn⟩ := hS
    have hw := wrap_succ hi (hl)
    refine rn ?_
    simp (maxDischargeDepth := 9) only [go_sem, Nat.reduceMul, Nat.reduceAdd, Nat.reduceLeDiff, Int.reduceSub, Int.reduceNeg, Int.reduceLT, Int.reduceLE, Int.reduceEq, *]
    all_goals exact AU_rlight
  · intro a s hI hf hS
    clear hn0 e3
    simp only [go_sem] at hS
    obtain ⟨f0, f3, hn⟩ := hS
    try simp only [go_sem] at hf
    refine rn ?_
    simp (maxDischargeDepth := 9) only [go_sem, Nat.reduceMul, Nat.reduceAdd, Nat.reduceLeDiff, Int.reduceSub, Int.reduceNeg, Int.reduceLT, Int.reduceLE, Int.reduceEq, *]
    all_goals exact AU_rlight
theorem AU_rcopy {p : Prop} (h : p := by
  repeat' (first | (with_reducible refine condLt (fun h h' => ?_) (fun h h' => ?_)) | (with_reducible refine condLe (fun h h' => ?_) (fun h h' => ?_)) | (with_reducible refine dop_val ?_) | (with_reducible refine YsLt (fun h h' => ?_) (fun h h' => ?_)) | (with_reducible refine YsLe (fun h h' => ?_) (fun h h' => ?_)) | (with_reducible refine condP (fun h => ?_) (fun h => ?_)) | (with_reducible refine condN (fun h => ?_) (fun h => ?_)) | (with_reducible refine condB (fun h => ?_) (fun h => ?_)) | (with_reducible refine condR (fun h => ?_) (fun h => ?_)) | (with_reducible refine YsB (fun h => ?_) (fun h => ?_)) | (with_reducible refine YsC (fun h => ?_) (fun h => ?_)) | (with_reducible refine Ys_ite (fun h => ?_) (fun h => ?_)) | (intro h) | (with_reducible refine draw_look (by kernel_rfl) (by kernel_rfl) ?_) | (simp (maxDischargeDepth := 9) only [go_sem, Nat.reduceMul, Nat.reduceAdd, Nat.reduceLeDiff, Int.reduceSub, Int.reduceNeg, Int.reduceLT, Int.reduceLE, Int.reduceEq, *]) | (exfalso; omega))) : p := h
theorem rcopy_ans (ext : CallF) (k : Nat) (l : IV) (p : Nat) (hk : maxLen + (2) ≤ k) (hv : Ok l) (hz : (asL l).length ≤ 100000) : ans (tab.run ext k) 80 [.iv p 46 l] 3 = some ([.one (.own 2 3 (cpy l (asL l).length))], [46]) := by
  obtain ⟨k, rfl⟩ : ∃ k', k = k' + 1 := ⟨k - 1, by omega⟩
  have hk1 : maxLen < k := by omega
  have hk0 : 0 < k := by omega
  refine fn_run (fx := fx80) (m := 18) 19 rfl rfl rfl rfl (fun st hn hg hr => ?_)
  have g0 : st.get (.tmp 0) = .v (.a (.iv p 46 l)) := hg 0 (of_decide_eq_true rfl)
  have r0 := hr 0
  have r1 := hr 1
  have r2 := hr 2
  clear hg hr
  rw [co80]
  simp only [Try.f80, Option.getD_some]
  simp (maxDischargeDepth := 9) only [go_sem, Nat.reduceMul, Nat.reduceAdd, Nat.reduceLeDiff, Int.reduceSub, Int.reduceNeg, Int.reduceLT, Int.reduceLE, Int.reduceEq, *]
  refine gen_st (fun s0 hg hr hn0 => ?_)
  have e0 := hg 0
  have e2 := hg 2
  have e4 := hg 4
  have e3 := hg 3
  have q0 := hr 0
  have q1 := hr 1
  clear hg hr
  simp only [go_sem, *] at hn0 e0 e2 e4 e3 q0 q1
  have hl := ok_len hv
  refine nr (runs_forN (asL l).length (fun (_ : Unit) _ => Stp.next (ρ := Unit) ()) () 19 (fun i a => [(0, s0.get (.tmp 0)), (2, s0.get (.tmp 2)), (3, .v (.a (.own 1))), (4, .v (.a (.int .i64 (i : Nat))))]) (fun i a => [(0, s0.row 0), (1, some (.arr 2 3 (cpy l i)))]) (fun i a => True) (by omega) ?_ (trivial) ?_ ?_ ?_ ?_)
  · simp (maxDischargeDepth := 9) only [go_sem, Nat.reduceMul, Nat.reduceAdd, Nat.reduceLeDiff, Int.reduceSub, Int.reduceNeg, Int.reduceLT, Int.reduceLE, Int.reduceEq, *]
  · intro i a; simp (maxDischargeDepth := 9) only [go_sem, Nat.reduceMul, Nat.reduceAdd, Nat.reduceLeDiff, Int.reduceSub, Int.reduceNeg, Int.reduceLT, Int.reduceLE, Int.reduceEq, *]
  · intro i a; simp (maxDischargeDepth := 9) only [go_sem, Nat.reduceMul, Nat.reduceAdd, Nat.reduceLeDiff, Int.reduceSub, Int.reduceNeg, Int.reduceLT, Int.reduceLE, Int.reduceEq, *]
  · intro i a s hi hI hS
    clear hn0 e4 e3 q1
    simp only [go_sem] at hS
    obtain ⟨f0, f2, f3, f4, m0, m1, hn⟩ := hS
    have hw := wrap_succ hi (ok_len hv)
    have htl : (cpy l i).length + 1 ≤ 1000000 := by rw [cpy_len]; omega
    refine rn ?_
    simp (maxDischargeDepth := 9) only [go_sem, Nat.reduceMul, Nat.reduceAdd, Nat.reduceLeDiff, Int.reduceSub, Int.reduceNeg, Int.reduceLT, Int.reduceLE, Int.reduceEq, *]
    all_goals exact AU_rcopy
  · intro a s hI hf hS
    clear hn0 e4 e3 q1
    simp only [go_sem] at hS
    obtain ⟨f0, f2, f3, f4, m0, m1, hn⟩ := hS
    try simp only [go_sem] at hf
    refine rn ?_
    simp (maxDischargeDepth := 9) only [go_sem, Nat.reduceMul, Nat.reduceAdd, Nat.reduceLeDiff, Int.reduceSub, Int.reduceNeg, Int.reduceLT, Int.reduceLE, Int.reduceEq, *]
    all_goals exact AU_rcopy
theorem AU_rweight {p : Prop} (h : p := by
  repeat' (first | (with_reducible refine condLt (fun h h' => ?_) (fun h h' => ?_)) | (with_reducible refine condLe (fun h h' => ?_) (fun h h' => ?_)) | (with_reducible refine dop_val ?_) | (with_reducible refine YsLt (fun h h' => ?_) (fun h h' => ?_)) | (with_reducible refine YsLe (fun h h' => ?_) (fun h h' => ?_)) | (with_reducible refine condP (fun h => ?_) (fun h => ?_)) | (with_reducible refine condN (fun h => ?_) (fun h => ?_)) | (with_reducible refine condB (fun h => ?_) (fun h => ?_)) | (with_reducible refine condR (fun h => ?_) (fun h => ?_)) | (with_reducible refine YsB (fun h => ?_) (fun h => ?_)) | (with_reducible refine YsC (fun h => ?_) (fun h => ?_)) | (with_reducible refine Ys_ite (fun h => ?_) (fun h => ?_)) | (intro h) | (with_reducible refine draw_look (by kernel_rfl) (by kernel_rfl) ?_) | (simp (maxDischargeDepth := 9) only [go_sem, Nat.reduceMul, Nat.reduceAdd, Nat.reduceLeDiff, Int.reduceSub, Int.reduceNeg, Int.reduceLT, Int.reduceLE, Int.reduceEq, *]) | (exfalso; omega))) : p := h
theorem rweight_ans (ext : CallF) (k : Nat) (l : IV) (q : Int) (p : Nat) (hk : maxLen + (2) ≤ k) (hv : Ok l) : ans (tab.run ext k) 81 [.iv p 60 l, .int .i64 q] 0 = some ([.one (.at (.int .i64 (wgt l q)))], [3]) := by
  obtain ⟨k, rfl⟩ : ∃ k', k = k' + 1 := ⟨k - 1, by omega⟩
  have hk1 : maxLen < k := by omega
  have hk0 : 0 < k := by omega
  refine fn_run (fx := fx81) (m := 22) 24 rfl rfl rfl rfl (fun st hn hg hr => ?_)
  have g0 : st.get (.tmp 0) = .v (.a (.iv p 60 l)) := hg 0 (of_decide_eq_true rfl)
  have g1 : st.get (.tmp 1) = .v (.a (.int .i64 q)) := hg 1 (of_decide_eq_true rfl)
  clear hg hr
  rw [co81]
  simp only [Try.f81, Option.getD_some]
  unfold wgt
  have hl := ok_len hv
  simp (maxDischargeDepth := 9) only [go_sem, Nat.reduceMul, Nat.reduceAdd, Nat.reduceLeDiff, Int.reduceSub, Int.reduceNeg, Int.reduceLT, Int.reduceLE, Int.reduceEq, *]
  refine gen_st (fun s0 hg hr hn0 => ?_)
  have e0 := hg 0
  have e1 := hg 1
  have e5 := hg 5
  clear hg hr
  simp only [go_sem, *] at hn0 e0 e1 e5
  refine nr (runs_for (asL l) (fun (_ : Unit) x => if asI (fld x 0) = q then Stp.ret (asI (fld x 1)) else .next ()) () 24 (fun i a => [(0, s0.get (.tmp 0)), (1, s0.get (.tmp 1)), (5, .v (.a (.int .i64 (i : Nat))))]) (fun i a => []) (fun i a => True) (by omega) ?_ (trivial) ?_ ?_ ?_ ?_)
  · simp (maxDischargeDepth := 9) only [go_sem, Nat.reduceMul, Nat.reduceAdd, Nat.reduceLeDiff, Int.reduceSub, Int.reduceNeg, Int.reduceLT, Int.reduceLE, Int.reduceEq, *]
  · intro i a; simp (maxDischargeDepth := 9) only [go_sem, Nat.reduceMul, Nat.reduceAdd, Nat.reduceLeDiff, Int.reduceSub, Int.reduceNeg, Int.reduceLT, Int.reduceLE, Int.reduceEq, *]
  · intro i a; simp (maxDischargeDepth := 9) only [go_sem, Nat.reduceMul, Nat.reduceAdd, Nat.reduceLeDiff, Int.reduceSub, Int.reduceNeg, Int.reduceLT, Int.reduceLE, Int.reduceEq, *]
  · intro i x a s hx hi hI hS
    clear hn0 e5
    simp only [go_sem] at hS
    obtain ⟨f0, f1, f5, hn⟩ := hS
    have hw := wrap_succ hi (hl)
    refine rn ?_
    simp (maxDischargeDepth := 9) only [go_sem, Nat.reduceMul, Nat.reduceAdd, Nat.reduceLeDiff, Int.reduceSub, Int.reduceNeg, Int.reduceLT, Int.reduceLE, Int.reduceEq, *]
    all_goals exact AU_rweight
  · intro a s hI hf hS
    clear hn0 e5
    simp only [go_sem] at hS
    obtain ⟨f0, f1, f5, hn⟩ := hS
    try simp only [go_sem] at hf
    refine rn ?_
    simp (maxDischargeDepth := 9) only [go_sem, Nat.reduceMul, Nat.reduceAdd, Nat.reduceLeDiff, Int.reduceSub, Int.reduceNeg, Int.reduceLT, Int.reduceLE, Int.reduceEq, *]
    all_goals exact AU_rweight
end Go.Proofs.Ytficdonjodadlaa
end
section
set_option linter.unusedSimpArgs false
set_option linter.unusedVariables false
set_option maxRecDepth 100000
set_option maxHeartbeats 4000000
namespace Go.Proofs.Ytficdonjodadlaa
open Go.Ev Go.Proofs
theorem AU_rLight {p : Prop} (h : p := by
  repeat' (first | (with_reducible refine condLt (fun h h' => ?_) (fun h h' => ?_)) | (with_reducible refine condLe (fun h h' => ?_) (fun h h' => ?_)) | (with_reducible refine dop_val ?_) | (with_reducible refine YsLt (fun h h' => ?_) (fun h h' => ?_)) | (with_reducible refine YsLe (fun h h' => ?_) (fun h h' => ?_)) | (with_reducible refine condP (fun h => ?_) (fun h => ?_)) | (with_reducible refine condN (fun h => ?_) (fun h => ?_)) | (with_reducible refine condB (fun h => ?_) (fun h => ?_)) | (with_reducible refine condR (fun h => ?_) (fun h => ?_)) | (with_reducible refine YsB (fun h => ?_) (fun h => ?_)) | (with_reducible refine YsC (fun h => ?_) (fun h => ?_)) | (with_reducible refine Ys_ite (fun h => ?_) (fun h => ?_)) | (intro h) | (with_reducible refine draw_look (by kernel_rfl) (by kernel_rfl) ?_) | (simp (maxDischargeDepth := 9) only [go_sem, Nat.reduceMul, Nat.reduceAdd, Nat.reduceLeDiff, Int.reduceSub, Int.reduceNeg, Int.reduceLT, Int.reduceLE, Int.reduceEq, *, small_ans, rlight_ans]) | (exfalso; omega))) : p := h
theorem rLight_ans (ext : CallF) (k : Nat) (n : IV) (hk : maxLen + (8) ≤ k) (hnn : Ok n) : ans (tab.run ext k) 18 [.iv 2 25 n] 3 = some ([.one (.at (.bool (liB n)))], [4]) := by
  obtain ⟨k, rfl⟩ : ∃ k', k = k' + 1 := ⟨k - 1, by omega⟩
  have hk1 : maxLen < k := by omega
  have hk0 : 0 < k := by omega
  have hk_0 : maxLen + (2) ≤ k := by omega
  have hk_1 : maxLen + (4) ≤ k := by omega
  refine fn_run (fx := fx18) (m := 68) 69 rfl rfl rfl rfl (fun st hn hg hr => ?_)
  have g0 : st.get (.tmp 0) = .v (.a (.iv 2 25 n)) := hg 0 (of_decide_eq_true rfl)
  have r0 := hr 0
  have r1 := hr 1
  have r2 := hr 2
  clear hg hr
  rw [co18]
  simp only [Try.f18, Option.getD_some]
  unfold liB
  have hl1 := ok_len (ok_fld (j := 1) hnn)
  have hl2 := ok_len (ok_fld (j := 2) hnn)
  by_cases hs : smB n = true
  case neg =>
    have hsf : smB n = false := by simpa using hs
    have hsn := smN_f hsf
    simp (maxDischargeDepth := 9) only [go_sem, Nat.reduceMul, Nat.reduceAdd, Nat.reduceLeDiff, Int.reduceSub, Int.reduceNeg, Int.reduceLT, Int.reduceLE, Int.reduceEq, *, small_ans, rlight_ans, decide_true, decide_false, Bool.true_and, Bool.false_and]
  have hsn := smN_t hs
  by_cases h1 : (6 : Int) < ((asL (fld n 1)).length : Int)
  case pos =>
    have h1n : ¬(asL (fld n 1)).length ≤ 6 := by omega
    simp (maxDischargeDepth := 9) only [go_sem, Nat.reduceMul, Nat.reduceAdd, Nat.reduceLeDiff, Int.reduceSub, Int.reduceNeg, Int.reduceLT, Int.reduceLE, Int.reduceEq, *, small_ans, rlight_ans, decide_true, decide_false, Bool.true_and, Bool.false_and]
  have h1n : (asL (fld n 1)).length ≤ 6 := by omega
  by_cases h2 : (6 : Int) < ((asL (fld n 2)).length : Int)
  case pos =>
    have h2n : ¬(asL (fld n 2)).length ≤ 6 := by omega
    simp (maxDischargeDepth := 9) only [go_sem, Nat.reduceMul, Nat.reduceAdd, Nat.reduceLeDiff, Int.reduceSub, Int.reduceNeg, Int.reduceLT, Int.reduceLE, Int.reduceEq, *, small_ans, rlight_ans, decide_true, decide_false, Bool.true_and, Bool.false_and]
  have h2n : (asL (fld n 2)).length ≤ 6 := by omega
  simp (maxDischargeDepth := 9) only [go_sem, Nat.reduceMul, Nat.reduceAdd, Nat.reduceLeDiff, Int.reduceSub, Int.reduceNeg, Int.reduceLT, Int.reduceLE, Int.reduceEq, *, small_ans, rlight_ans, decide_true, decide_false, Bool.true_and, Bool.false_and]
  refine gen_st (fun s0 hg hr hn0 => ?_)
  have e1 := hg 1
  have e5 := hg 5
  have q0 := hr 0
  have q1 := hr 1
  clear hg hr
  simp only [go_sem, *] at hn0 e1 e5 q0 q1
  refine nr (runs_for (asL (fld n 1)) (fun (_ : Unit) x => if (3 : Int) < asI (fld x 1) then .ret true else .next ()) () 69 (fun i a => [(1, s0.get (.tmp 1)), (5, .v (.a (.int .i64 (i : Nat))))]) (fun i a => [(0, s0.row 0), (1, s0.row 1)]) (fun i a => True) (by omega) ?_ (trivial) ?_ ?_ ?_ ?_)
  · simp (maxDischargeDepth := 9) only [go_sem, Nat.reduceMul, Nat.reduceAdd, Nat.reduceLeDiff, Int.reduceSub, Int.reduceNeg, Int.reduceLT, Int.reduceLE, Int.reduceEq, *, small_ans, rlight_ans]
  · intro i a; simp (maxDischargeDepth := 9) only [go_sem, Nat.reduceMul, Nat.reduceAdd, Nat.reduceLeDiff, Int.reduceSub, Int.reduceNeg, Int.reduceLT, Int.reduceLE, Int.reduceEq, *, small_ans, rlight_ans]
  · intro i a; simp (maxDischargeDepth := 9) only [go_sem, Nat.reduceMul, Nat.reduceAdd, Nat.reduceLeDiff, Int.reduceSub, Int.reduceNeg, Int.reduceLT, Int.reduceLE, Int.reduceEq, *, small_ans, rlight_ans]
  · intro i x a s hx hi hI hS
    clear hn0 e5
    simp only [go_sem] at hS
    obtain ⟨f1, f5, m0, m1, hn⟩ := hS
    have hw := wrap_succ hi (hl1)
    refine rn ?_
    simp (maxDischargeDepth := 9) only [go_sem, Nat.reduceMul, Nat.reduceAdd, Nat.reduceLeDiff, Int.reduceSub, Int.reduceNeg, Int.reduceLT, Int.reduceLE, Int.reduceEq, *, small_ans, rlight_ans]
    all_goals exact AU_rLight
  · intro a s hI hf hS
    clear hn0 e5
    simp only [go_sem] at hS
    obtain ⟨f1, f5, m0, m1, hn⟩ := hS
    try simp only [go_sem] at hf
    refine rn ?_
    simp (maxDischargeDepth := 9) only [go_sem, Nat.reduceMul, Nat.reduceAdd, Nat.reduceLeDiff, Int.reduceSub, Int.reduceNeg, Int.reduceLT, Int.reduceLE, Int.reduceEq, *, small_ans, rlight_ans]
    refine gen_st (fun s0 hg hr hn0 => ?_)
    have e1 := hg 1
    have e6 := hg 6
    have q0 := hr 0
    have q1 := hr 1
    clear hg hr
    simp only [go_sem, *] at hn0 e1 e6 q0 q1
    refine nr (runs_for (asL (fld n 2)) (fun (_ : Unit) x => if (ltB (fld x 1) && ltB (fld x 2) && ltB (fld x 3)) = true then .next () else .ret true) () 69 (fun i a => [(1, s0.get (.tmp 1)), (6, .v (.a (.int .i64 (i : Nat))))]) (fun i a => [(0, s0.row 0), (1, s0.row 1)]) (fun i a => True) (by omega) ?_ (trivial) ?_ ?_ ?_ ?_)
    · simp (maxDischargeDepth := 9) only [go_sem, Nat.reduceMul, Nat.reduceAdd, Nat.reduceLeDiff, Int.reduceSub, Int.reduceNeg, Int.reduceLT, Int.reduceLE, Int.reduceEq, *, small_ans, rlight_ans]
    · intro i a; simp (maxDischargeDepth := 9) only [go_sem, Nat.reduceMul, Nat.reduceAdd, Nat.reduceLeDiff, Int.reduceSub, Int.reduceNeg, Int.reduceLT, Int.reduceLE, Int.reduceEq, *, small_ans, rlight_ans]
    · intro i a; simp (maxDischargeDepth := 9) only [go_sem, Nat.reduceMul, Nat.reduceAdd, Nat.reduceLeDiff, Int.reduceSub, Int.reduceNeg, Int.reduceLT, Int.reduceLE, Int.reduceEq, *, small_ans, rlight_ans]
    · intro i x a s hx hi hI hS
      clear hn0 e6
      simp only [go_sem] at hS
      obtain ⟨f1, f6, m0, m1, hn⟩ := hS
      have hw := wrap_succ hi (hl2)
      have hox : Ok x := ok_get (ok_fld hnn) hx
      have ho1 : Ok (fld x 1) := ok_fld hox
      have ho2 : Ok (fld x 2) := ok_fld hox
      have ho3 : Ok (fld x 3) := ok_fld hox
      refine rn ?_
      simp (maxDischargeDepth := 9) only [go_sem, Nat.reduceMul, Nat.reduceAdd, Nat.reduceLeDiff, Int.reduceSub, Int.reduceNeg, Int.reduceLT, Int.reduceLE, Int.reduceEq, *, small_ans, rlight_ans]
      cases hA : ltB (fld x 1) <;> cases hB : ltB (fld x 2) <;> cases hC : ltB (fld x 3)
      all_goals (try (simp (maxDischargeDepth := 9) only [go_sem, Nat.reduceMul, Nat.reduceAdd, Nat.reduceLeDiff, Int.reduceSub, Int.reduceNeg, Int.reduceLT, Int.reduceLE, Int.reduceEq, *, small_ans, rlight_ans]))
      all_goals (repeat' (first | (with_reducible refine condLt (fun h h' => ?_) (fun h h' => ?_)) | (with_reducible refine condLe (fun h h' => ?_) (fun h h' => ?_)) | (with_reducible refine dop_val ?_) | (with_reducible refine YsLt (fun h h' => ?_) (fun h h' => ?_)) | (with_reducible refine YsLe (fun h h' => ?_) (fun h h' => ?_)) | (with_reducible refine condP (fun h => ?_) (fun h => ?_)) | (with_reducible refine condN (fun h => ?_) (fun h => ?_)) | (with_reducible refine condB (fun h => ?_) (fun h => ?_)) | (with_reducible refine condR (fun h => ?_) (fun h => ?_)) | (with_reducible refine YsB (fun h => ?_) (fun h => ?_)) | (with_reducible refine YsC (fun h => ?_) (fun h => ?_)) | (with_reducible refine Ys_ite (fun h => ?_) (fun h => ?_)) | (intro h) | (with_reducible refine draw_look (by kernel_rfl) (by kernel_rfl) ?_) | (simp (maxDischargeDepth := 9) only [go_sem, Nat.reduceMul, Nat.reduceAdd, Nat.reduceLeDiff, Int.reduceSub, Int.reduceNeg, Int.reduceLT, Int.reduceLE, Int.reduceEq, *, small_ans, rlight_ans]) | (exfalso; omega)))
    · intro a s hI hf hS
      clear hn0 e6
      simp only [go_sem] at hS
      obtain ⟨f1, f6, m0, m1, hn⟩ := hS
      try simp only [go_sem] at hf
      refine rn ?_
      simp (maxDischargeDepth := 9) only [go_sem, Nat.reduceMul, Nat.reduceAdd, Nat.reduceLeDiff, Int.reduceSub, Int.reduceNeg, Int.reduceLT, Int.reduceLE, Int.reduceEq, *, small_ans, rlight_ans]
      all_goals exact AU_rLight
end Go.Proofs.Ytficdonjodadlaa
end
section
set_option linter.unusedVariables false
namespace Go.Ev
section
variable {T : Tab} {fx : Fx} {call : CallF} {k cur : Nat} {st st' : St} {Q : Ex → St → Prop}
theorem row_void {s : St} {c : List Nat × List Nat} {j : Nat} (h : c.2.contains j = true) : (s.fresh c).row j = none := by
  unfold St.fresh
  rw [row_killL, if_pos (by simpa using h)]
theorem runs_forF {α β ρ : Type} {c : Code} (xs : List β) (step : α → β → Stp α ρ) (a0 : α) (N : Nat) (L : Nat → α → List (Nat × SV)) (M : Nat → α → List (Nat × Option Row)) (I : Nat → α → Prop)
    (hk : xs.length < k) (h0 : Sl N (L 0 a0) (M 0 a0) st) (hI : I 0 a0)
    (hL : ∀ i a, KeepL ((fx.clr.lookup cur).getD ([], [])) (L i a)) (hM : ∀ i a, KeepM ((fx.clr.lookup cur).getD ([], [])) (M i a))
    (hb : ∀ i x a s, xs[i]? = some x → i < xs.length → I i a → Sl N (L i a) (M i a) s → (∀ j, ((fx.clr.lookup cur).getD ([], [])).2.contains j = true → s.row j = none) → Runs T fx call k cur c s (fun e s' => match step a x with
      | .next b => e = .normal ∧ Sl N (L (i + 1) b) (M (i + 1) b) s' ∧ I (i + 1) b
      | .stop b => foldS step a0 xs = .stop b → e ≠ .normal ∧ Q e s'
      | .ret r => foldS step a0 xs = .ret r → e ≠ .normal ∧ Q e s'))
    (he : ∀ a s, I xs.length a → foldS step a0 xs = .stop a → Sl N (L xs.length a) (M xs.length a) s → Runs T fx call k cur c s (fun e s' => e ≠ .normal ∧ Q e s')) :
    Runs T fx call k cur (.loop c) st Q := by
  refine runs_loop (fun n s => ∃ i a, n = xs.length - i ∧ i ≤ xs.length ∧ foldS step a (xs.drop i) = foldS step a0 xs ∧ I i a ∧ Sl N (L i a) (M i a) s) xs.length hk ⟨0, a0, rfl, Nat.zero_le _, rfl, hI, h0⟩ ?_
  rintro n s ⟨i, a, rfl, hi, hf, hIa, hS⟩
  have hS' := Sl_fresh (hL i a) (hM i a) hS
  by_cases hlt : i < xs.length
  · refine runs_mono (hb i xs[i] a _ (List.getElem?_eq_getElem hlt) hlt hIa hS' (fun j hj => row_void hj)) (fun e s' h => ?_)
    rw [List.drop_eq_getElem_cons hlt] at hf
    simp only [foldS] at hf
    generalize foldS step a0 xs = r0 at h hf ⊢
    generalize step a xs[i] = z at h hf
    cases z with
    | next b =>
      obtain ⟨rfl, h2, h3⟩ := h
      exact ⟨xs.length - (i + 1), by omega, i + 1, b, rfl, hlt, hf, h3, h2⟩
    | stop b =>
      obtain ⟨h1, h2⟩ := h hf.symm
      cases e with
      | normal => exact absurd rfl h1
      | exit id => exact h2
      | ret => exact h2
    | ret r =>
      obtain ⟨h1, h2⟩ := h hf.symm
      cases e with
      | normal => exact absurd rfl h1
      | exit id => exact h2
      | ret => exact h2
  · have hi' : i = xs.length := by omega
    subst hi'
    rw [List.drop_length] at hf
    refine runs_mono (he a _ hIa hf.symm hS') (fun e s' h => ?_)
    obtain ⟨h1, h2⟩ := h
    cases e with
    | normal => exact absurd rfl h1
    | exit id => exact h2
    | ret => exact h2
theorem runs_forNF {α ρ : Type} {c : Code} (n : Nat) (step : α → Nat → Stp α ρ) (a0 : α) (N : Nat) (L : Nat → α → List (Nat × SV)) (M : Nat → α → List (Nat × Option Row)) (I : Nat → α → Prop)
    (hk : n < k) (h0 : Sl N (L 0 a0) (M 0 a0) st) (hI : I 0 a0)
    (hL : ∀ i a, KeepL ((fx.clr.lookup cur).getD ([], [])) (L i a)) (hM : ∀ i a, KeepM ((fx.clr.lookup cur).getD ([], [])) (M i a))
    (hb : ∀ i a s, i < n → I i a → Sl N (L i a) (M i a) s → (∀ j, ((fx.clr.lookup cur).getD ([], [])).2.contains j = true → s.row j = none) → Runs T fx call k cur c s (fun e s' => match step a i with
      | .next b => e = .normal ∧ Sl N (L (i + 1) b) (M (i + 1) b) s' ∧ I (i + 1) b
      | .stop b => foldS step a0 (List.range n) = .stop b → e ≠ .normal ∧ Q e s'
      | .ret r => foldS step a0 (List.range n) = .ret r → e ≠ .normal ∧ Q e s'))
    (he : ∀ a s, I n a → foldS step a0 (List.range n) = .stop a → Sl N (L n a) (M n a) s → Runs T fx call k cur c s (fun e s' => e ≠ .normal ∧ Q e s')) :
    Runs T fx call k cur (.loop c) st Q := by
  refine runs_forF (List.range n) step a0 N L M I (by simpa using hk) h0 hI hL hM (fun i x a s hx hi hIa hS hz => ?_) (fun a s hIa hf hS => he a s (by simpa using hIa) hf (by simpa using hS))
  have hi' : i < n := by simpa using hi
  have : x = i := by rw [List.getElem?_range hi'] at hx; exact (Option.some.inj hx).symm
  subst this
  exact hb x a s hi' hIa hS hz
end
end Go.Ev
end
section
set_option linter.unusedVariables false
namespace Go.Ev
theorem fold_no_next {α β ρ : Type} {step : α → β → Stp α ρ} : ∀ {l : List β} {a b : α}, foldS step a l ≠ .next b
  | [], a, b, h => by cases h
  | x :: l, a, b, h => by
    simp only [foldS] at h
    split at h
    · exact fold_no_next h
    · rename_i hne; exact hne _ h
theorem fold_ret {α β ρ : Type} {step : α → β → Stp α ρ} {P : ρ → Prop} : ∀ {l : List β} {a : α} {r : ρ}, (∀ a x r, step a x = .ret r → P r) → foldS step a l = .ret r → P r
  | [], a, r, _, h => by cases h
  | x :: l, a, r, hP, h => by
    simp only [foldS] at h
    split at h
    · exact fold_ret hP h
    · exact hP _ _ _ h
theorem fold_run {α β ρ : Type} {step : α → β → Stp α ρ} : ∀ {l : List β} {a b : α}, (∀ a x r, step a x ≠ .stop r) → foldS step a l = .stop b → ∃ st : Nat → α, st 0 = a ∧ (∀ i x, l[i]? = some x → step (st i) x = .next (st (i + 1))) ∧ st l.length = b
  | [], a, b, _, h => by cases h; exact ⟨fun _ => a, rfl, fun i x hx => by simp at hx, rfl⟩
  | y :: l, a, b, hs, h => by
    simp only [foldS] at h
    split at h
    · rename_i c hc
      obtain ⟨st, h1, h2, h3⟩ := fold_run hs h
      refine ⟨fun i => match i with | 0 => a | j + 1 => st j, rfl, fun i x hx => ?_, h3⟩
      cases i with
      | zero => rw [List.getElem?_cons_zero] at hx; cases hx; show step a y = .next (st 0); rw [h1]; exact hc
      | succ j => rw [List.getElem?_cons_succ] at hx; exact h2 j x hx
    · exact absurd h (hs _ _ _)
theorem IE_NC {n : IV} (h : IE n = 0) : (NC n).1 = 0 ∧ PN n = true ∧ ON n = true ∧ (∀ x ∈ asL (fld n 2), (asL (fld x 1)).length ≠ 0) := by
  unfold IE at h
  split at h
  · rename_i h1
    split at h
    · rename_i h2
      split at h
      · rename_i h3
        split at h
        · cases h
        · rename_i h4
          refine ⟨h1, h2, h3, fun x hx e => ?_⟩
          exact h4 (List.any_eq_true.2 ⟨x, hx, by simpa using e⟩)
      · cases h
    · cases h
  · rename_i h1; exact absurd h h1
theorem AR_ok {l : IV} {m : Int} (h : AR l m = 0) : ∀ x ∈ asL l, 0 ≤ asI (fld x 0) ∧ asI (fld x 0) < m := by
  unfold AR at h
  cases hf : foldS (arS l m) () (List.range (asL l).length) with
  | next r => exact absurd hf fold_no_next
  | ret r =>
    rw [hf] at h
    have : r ≠ 0 := fold_ret (P := fun r => r ≠ 0) (fun a x r hr => by
      unfold arS at hr
      split at hr
      · cases hr; decide
      · split at hr
        · cases hr; decide
        · split at hr
          · cases hr; decide
          · cases hr) hf
    exact absurd h this
  | stop r =>
    have hall := fold_all hf (fun x hx r => by unfold arS; split <;> (try split) <;> (try split) <;> simp)
    intro x hx
    obtain ⟨i, hi, rfl⟩ := List.getElem_of_mem hx
    have := hall i (List.mem_range.2 hi)
    unfold arS at this
    split at this
    · cases this
    · rename_i hc
      have e : (asL l).getD i .N = (asL l)[i] := by simp [List.getD, hi]
      rw [e] at hc
      omega
theorem NC_tr {n : IV} (h : (NC n).1 = 0) : ∀ i, i < (asL (fld n 2)).length → trS n i = 0 := by
  have h2 : (NC2 n).1 = 0 := by
    unfold NC at h
    split at h
    · split at h
      · cases h
      · unfold NC1 at h
        split at h
        · rename_i r hr
          have : r.1 ≠ 0 := fold_ret (P := fun r => r.1 ≠ 0) (fun a x r hr => by
            unfold ckP at hr
            split at hr
            · cases hr
            · rename_i hne; cases hr; exact hne) hr
          exact absurd h this
        · exact h
    · cases h
  unfold NC2 at h2
  cases hf : foldS (ckT n) () (List.range (asL (fld n 2)).length) with
  | next r => exact absurd hf fold_no_next
  | ret r =>
    rw [hf] at h2
    have : r.1 ≠ 0 := fold_ret (P := fun r => r.1 ≠ 0) (fun a x r hr => by
      unfold ckT at hr
      split at hr
      · cases hr
      · rename_i hne; cases hr; exact hne) hf
    exact absurd h2 this
  | stop r =>
    have hall := fold_all hf (fun x hx r => by unfold ckT; split <;> simp)
    intro i hi
    have := hall i (List.mem_range.2 hi)
    unfold ckT at this
    split at this
    · assumption
    · cases this
theorem ng_of {n : IV} (hs : smB n = true) (hi : IE n = 0) : NG n := by
  obtain ⟨h1, _, _, _⟩ := IE_NC hi
  simp only [smB, Bool.and_eq_true, Bool.not_eq_true', decide_eq_false_iff_not, not_or, List.any_eq_false, decide_eq_true_eq] at hs
  obtain ⟨⟨⟨q1, q2, q3⟩, q4⟩, q5⟩ := hs
  refine ⟨by simpa [VN] using h1, fun t ht => ?_, by omega, by omega, fun t ht x hx => ?_⟩
  · have := q5 t ht; omega
  · obtain ⟨i, hi2, rfl⟩ := List.getElem_of_mem ht
    have := NC_tr h1 i hi2
    unfold trS at this
    have e : (asL (fld n 2)).getD i .N = (asL (fld n 2))[i] := by simp [List.getD, hi2]
    rw [e] at this
    split at this
    · unfold TR at this
      split at this
      · cases this
      · split at this
        · rename_i ha; exact AR_ok ha x hx
        · rename_i ha; exact absurd this ha
    · rename_i ha; exact absurd this ha
end Go.Ev
end
